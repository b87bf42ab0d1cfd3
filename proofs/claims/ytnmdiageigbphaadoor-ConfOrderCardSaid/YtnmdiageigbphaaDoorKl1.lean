/-
  ConfLines, the plain law: the first line that has no form is told.
-/
import Derived.Test.YtnmdiageigbphaaDoorKp21
namespace Go.Proofs.YtnmdiageigbphaaDoor
open Go.RowKit

def ql (i : Nat) : List UInt8 := if i = 0 then [] else if i = 1 then [35, 32, 120] else [32, 9]
def bl (k : Nat) : List UInt8 := if k = 0 then [120] else if k = 1 then [116, 105, 109, 101] else if k = 2 then [116, 105, 109, 101, 32, 61, 32] else [116, 105, 109, 101, 32, 61, 32, 54, 48, 32, 55, 48]
abbrev whatL : List UInt8 := [119, 104, 97, 116]
def preT : Nat → List UInt8
  | 0 => []
  | n + 1 => preT n ++ (ql (n % 3) ++ [10])
def postT : Nat → List UInt8
  | 0 => []
  | n + 1 => postT n ++ (whatL ++ [10])
def linT (n m k : Nat) : List UInt8 := (preT n ++ bl k ++ [10]) ++ postT m
theorem three_cases (P : Nat → Prop) (n : Nat) (h0 : P 0) (h1 : P 1) (h2 : P 2) : P (n % 3) := by
  rcases (show n % 3 = 0 ∨ n % 3 = 1 ∨ n % 3 = 2 by omega) with h | h | h <;> rw [h] <;> assumption
theorem four_cases (P : Nat → Prop) (k : Nat) (hk : k < 4) (h0 : P 0) (h1 : P 1) (h2 : P 2) (h3 : P 3) : P k := by
  rcases (show k = 0 ∨ k = 1 ∨ k = 2 ∨ k = 3 by omega) with h | h | h | h <;> rw [h] <;> assumption
theorem ql_no (n : Nat) : ∀ x ∈ ql (n % 3), x ≠ 10 := three_cases (fun j => ∀ x ∈ ql j, x ≠ 10) n (by decide) (by decide) (by decide)
theorem bl_no (k : Nat) (hk : k < 4) : ∀ x ∈ bl k, x ≠ 10 := four_cases (fun j => ∀ x ∈ bl j, x ≠ 10) k hk (by decide) (by decide) (by decide) (by decide)
theorem cut_pre : ∀ (n : Nat) (r : List UInt8), cutB 10 (preT n ++ r) = (List.range n).map (fun i => ql (i % 3)) ++ cutB 10 r
  | 0, r => by simp [preT]
  | n + 1, r => by
    rw [preT, List.append_assoc, List.append_assoc, cut_pre n, show ql (n % 3) ++ ([10] ++ r) = ql (n % 3) ++ 10 :: r from rfl, cutB_cons 10 _ _ (ql_no n), List.range_succ]
    simp
theorem cut_post : ∀ (n : Nat) (r : List UInt8), cutB 10 (postT n ++ r) = List.replicate n whatL ++ cutB 10 r
  | 0, r => by simp [postT]
  | n + 1, r => by
    rw [postT, List.append_assoc, List.append_assoc, cut_post n, show whatL ++ ([10] ++ r) = whatL ++ 10 :: r from rfl, cutB_cons 10 _ _ (by decide), List.replicate_succ']
    simp
theorem lin_lines (n m k : Nat) (hk : k < 4) : linesV (linT n m k) = (List.range n).map (fun i => ql (i % 3)) ++ (bl k :: List.replicate m whatL) := by
  have h : cutB 10 (linT n m k) = ((List.range n).map (fun i => ql (i % 3)) ++ (bl k :: List.replicate m whatL)) ++ [[]] := by
    rw [linT, List.append_assoc, List.append_assoc, cut_pre, show bl k ++ ([10] ++ postT m) = bl k ++ 10 :: postT m from rfl, cutB_cons 10 _ _ (bl_no k hk)]
    have := cut_post m []
    rw [List.append_nil] at this
    rw [this]
    simp [cutB]
  rw [linesV, h, if_pos (by rw [List.getLast?_append]; rfl), List.dropLast_concat]
theorem ql_quiet (n : Nat) : quiet (ql (n % 3)) = true := three_cases (fun j => quiet (ql j) = true) n (by kernel_rfl) (by kernel_rfl) (by kernel_rfl)
theorem bl_bad (k : Nat) (hk : k < 4) : lineV usC [] (bl k) = (9, usC, []) := four_cases (fun k => lineV usC [] (bl k) = (9, usC, [])) k hk (by kernel_rfl) (by kernel_rfl) (by kernel_rfl) (by kernel_rfl)
theorem goL_quiet (c : Cf) (S : List (List UInt8)) : ∀ (l : List (List UInt8)) (a : Nat) (r : List (List UInt8)), (∀ x ∈ l, quiet x = true) → goL c S a (l ++ r) = goL c S (a + l.length) r
  | [], _, _, _ => rfl
  | x :: l, a, r, h => by
    have hx : lineV c S x = (0, c, S) := by rw [lineV, if_pos (h x (by simp))]
    rw [List.cons_append, goL, hx, if_pos rfl, goL_quiet c S l (a + 1) r (fun y hy => h y (by simp [hy])), List.length_cons]
    congr 1
    omega
theorem lin_go (n m k : Nat) (hk : k < 4) : goL usC [] 0 (linesV (linT n m k)) = (9, n + 1, usC, []) := by
  rw [lin_lines n m k hk, goL_quiet _ _ _ _ _ (by
    intro x hx
    obtain ⟨i, _, rfl⟩ := List.mem_map.1 hx
    exact ql_quiet i), goL, bl_bad k hk, if_neg (by decide)]
  simp
def okLine (x : List UInt8) : Prop := asc x ∧ x.length ≤ 1000000 ∧ nameOf x ≠ nFixed ∧ nameOf x ≠ nOpen
theorem okLine_of {x nm : List UInt8} (h1 : asc x) (h2 : x.length ≤ 1000000) (h3 : nameOf x = nm) (h4 : nm ≠ nFixed) (h5 : nm ≠ nOpen) : okLine x := ⟨h1, h2, by rw [h3]; exact h4, by rw [h3]; exact h5⟩
theorem ql_ok (n : Nat) : okLine (ql (n % 3)) := three_cases (fun j => okLine (ql j)) n
  (okLine_of (nm := []) (by unfold asc; decide) (by decide) (by kernel_rfl) (by decide) (by decide))
  (okLine_of (nm := [35, 32, 120]) (by unfold asc; decide) (by decide) (by kernel_rfl) (by decide) (by decide))
  (okLine_of (nm := []) (by unfold asc; decide) (by decide) (by kernel_rfl) (by decide) (by decide))
theorem bl_ok (k : Nat) (hk : k < 4) : okLine (bl k) := four_cases (fun j => okLine (bl j)) k hk
  (okLine_of (nm := [120]) (by unfold asc; decide) (by decide) (by kernel_rfl) (by decide) (by decide))
  (okLine_of (nm := nTime) (by unfold asc; decide) (by decide) (by kernel_rfl) (by decide) (by decide))
  (okLine_of (nm := nTime) (by unfold asc; decide) (by decide) (by kernel_rfl) (by decide) (by decide))
  (okLine_of (nm := nTime) (by unfold asc; decide) (by decide) (by kernel_rfl) (by decide) (by decide))
theorem what_ok : okLine whatL := okLine_of (nm := whatL) (by unfold asc; decide) (by decide) (by kernel_rfl) (by decide) (by decide)
theorem ql_len (n : Nat) : (ql (n % 3)).length ≤ 3 := three_cases (fun j => (ql j).length ≤ 3) n (by decide) (by decide) (by decide)
theorem bl_len (k : Nat) (hk : k < 4) : (bl k).length ≤ 12 := four_cases (fun j => (bl j).length ≤ 12) k hk (by decide) (by decide) (by decide) (by decide)
theorem pre_len : ∀ n, (preT n).length ≤ 4 * n
  | 0 => by simp [preT]
  | n + 1 => by have := pre_len n; have := ql_len n; simp [preT]; omega
theorem post_len : ∀ n, (postT n).length = 5 * n
  | 0 => by simp [postT]
  | n + 1 => by have := post_len n; simp [postT]; omega
theorem lin_parse (w : World) (hm : mlIs w) (n m k : Nat) (hn : n ≤ 300) (hmm : m ≤ 90) (hk : k < 4) :
    Calls Tryd.prog 9 #[.string (str (linT n m k))] w (ConfP w (cf0, ((n : Int) + 1), 9)) := by
  have h := confParse_any w hm (linT n m k) (by have := pre_len n; have := post_len m; have := bl_len k hk; simp [linT]; omega) (by rw [lin_lines n m k hk]; simp; omega) (by
    rw [lin_lines n m k hk]
    intro x hx
    rcases List.mem_append.1 hx with hx | hx
    · obtain ⟨i, _, rfl⟩ := List.mem_map.1 hx
      exact ql_ok i
    · rcases List.mem_cons.1 hx with rfl | hx
      · exact bl_ok k hk
      · obtain rfl := List.eq_of_mem_replicate hx
        exact what_ok) _ (lin_go n m k hk) usC (fun h => by cases h)
  rwa [show resR (9, n + 1, usC, []) usC = (cf0, ((n : Int) + 1), 9) by rw [resR, if_neg (show ¬ (9 : Int) = 0 by decide)]; rfl] at h
end Go.Proofs.YtnmdiageigbphaaDoor
