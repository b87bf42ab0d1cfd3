/-
  ConfOrder, the plain law: lines of unlike names, in whatever order.
-/
import Derived.Test.YtnmdiageigbphaaDoorKl1
namespace Go.Proofs.YtnmdiageigbphaaDoor
open Go.RowKit

def lineO (k : Nat) : List UInt8 :=
  if k = 0 then [116, 105, 109, 101, 32, 61, 32, 54, 48, 48] else if k = 1 then [117, 100, 112, 116, 105, 109, 101, 32, 61, 32, 53, 48]
  else if k = 2 then [116, 99, 112, 116, 105, 109, 101, 32, 61, 32, 53, 48, 48] else if k = 3 then [105, 99, 109, 112, 116, 105, 109, 101, 32, 61, 32, 50, 48]
  else if k = 4 then [108, 111, 119, 32, 61, 32, 51, 48, 48, 48, 48] else if k = 5 then [100, 110, 115, 32, 61, 32, 49, 46, 49, 46, 49, 46, 49]
  else if k = 6 then [108, 97, 110, 109, 97, 99, 32, 61, 32, 48, 50, 58, 48, 48, 58, 48, 48, 58, 48, 48, 58, 48, 48, 58, 48, 97]
  else if k = 7 then [119, 97, 110, 109, 97, 99, 32, 61, 32, 48, 50, 58, 48, 48, 58, 48, 48, 58, 48, 48, 58, 48, 48, 58, 48, 98]
  else if k = 8 then [102, 105, 114, 115, 116, 32, 61, 32, 49, 57, 50, 46, 49, 54, 56, 46, 49, 46, 53, 48] else [108, 97, 115, 116, 32, 61, 32, 49, 57, 50, 46, 49, 54, 56, 46, 49, 46, 54, 48]
def nmO (k : Nat) : List UInt8 := if k = 0 then nTime else if k = 1 then nUdp else if k = 2 then nTcp else if k = 3 then nIcmp else if k = 4 then nLow else if k = 5 then nDns else if k = 6 then nLanmac else if k = 7 then nWanmac else if k = 8 then nFirst else nLast
def setO (k : Nat) (c : Cf) : Cf :=
  if k = 0 then { c with time := 600 } else if k = 1 then { c with udp := 50 } else if k = 2 then { c with tcp := 500 } else if k = 3 then { c with icmp := 20 } else if k = 4 then { c with low := 30000 }
  else if k = 5 then { c with dns := ⟨1, 1, 1, 1⟩ } else if k = 6 then { c with lm := ⟨2, 0, 0, 0, 0, 10⟩ } else if k = 7 then { c with wm := ⟨2, 0, 0, 0, 0, 11⟩ } else if k = 8 then { c with fst := ⟨192, 168, 1, 50⟩ } else { c with lst := ⟨192, 168, 1, 60⟩ }
/-- With those lines whose numbers m tells. -/
def cfO (m : Nat → Bool) : Cf :=
  { usC with time := if m 0 = true then 600 else 3600, udp := if m 1 = true then 50 else 120, tcp := if m 2 = true then 500 else 7200, icmp := if m 3 = true then 20 else 30, low := if m 4 = true then 30000 else 40000,
             dns := if m 5 = true then ⟨1, 1, 1, 1⟩ else ⟨9, 9, 9, 9⟩, lm := if m 6 = true then ⟨2, 0, 0, 0, 0, 10⟩ else ⟨2, 0, 0, 0, 0, 1⟩, wm := if m 7 = true then ⟨2, 0, 0, 0, 0, 11⟩ else ⟨2, 0, 0, 0, 0, 2⟩,
             fst := if m 8 = true then ⟨192, 168, 1, 50⟩ else ⟨192, 168, 1, 100⟩, lst := if m 9 = true then ⟨192, 168, 1, 60⟩ else ⟨192, 168, 1, 131⟩ }
theorem ten_cases (P : Nat → Prop) (k : Nat) (hk : k < 10) (h0 : P 0) (h1 : P 1) (h2 : P 2) (h3 : P 3) (h4 : P 4) (h5 : P 5) (h6 : P 6) (h7 : P 7) (h8 : P 8) (h9 : P 9) : P k := by
  rcases (show k = 0 ∨ k = 1 ∨ k = 2 ∨ k = 3 ∨ k = 4 ∨ k = 5 ∨ k = 6 ∨ k = 7 ∨ k = 8 ∨ k = 9 by omega) with h | h | h | h | h | h | h | h | h | h <;> rw [h] <;> assumption
theorem setO_cfO (k : Nat) (hk : k < 10) (m : Nat → Bool) : setO k (cfO m) = cfO fun j => j == k || m j := by
  refine ten_cases (fun k => setO k (cfO m) = cfO fun j => j == k || m j) k hk ?_ ?_ ?_ ?_ ?_ ?_ ?_ ?_ ?_ ?_
  all_goals simp [setO, cfO]
theorem cfO_none : cfO (fun _ => false) = usC := by simp [cfO, usC]
theorem cfO_congr {m p : Nat → Bool} (h : ∀ j, j < 10 → m j = p j) : cfO m = cfO p := by
  simp [cfO, h 0, h 1, h 2, h 3, h 4, h 5, h 6, h 7, h 8, h 9]
def goodO (k : Nat) : Prop := quiet (lineO k) = false ∧ nameOf (lineO k) = nmO k ∧ (cutE 61 (lineO k)).2.2 = true ∧ (∃ v, valuesV (nmO k) (cutE 61 (lineO k)).2.1 = some [v] ∧ ∀ c, setC c (nmO k) v = setO k c) ∧
  okLine (lineO k) ∧ (lineO k).length ≤ 26 ∧ (∀ x ∈ lineO k, x ≠ 10) ∧ nmO k ≠ nLan
theorem good_mk {k : Nat} {v : Vl} (h1 : quiet (lineO k) = false) (h2 : nameOf (lineO k) = nmO k) (h3 : (cutE 61 (lineO k)).2.2 = true) (h4 : valuesV (nmO k) (cutE 61 (lineO k)).2.1 = some [v]) (h5 : ∀ c, setC c (nmO k) v = setO k c)
    (h6 : ∀ b ∈ lineO k, b.toNat < 128 ∧ b ≠ 10) (h7 : (lineO k).length ≤ 26) (h8 : nmO k ≠ nFixed ∧ nmO k ≠ nOpen ∧ nmO k ≠ nLan) : goodO k :=
  ⟨h1, h2, h3, ⟨v, h4, h5⟩, ⟨fun b hb => (h6 b hb).1, by omega, by rw [h2]; exact h8.1, by rw [h2]; exact h8.2.1⟩, h7, fun b hb => (h6 b hb).2, h8.2.2⟩
theorem good_O (k : Nat) (hk : k < 10) : goodO k := ten_cases goodO k hk
  (good_mk (v := .n 600) (by kernel_rfl) (by kernel_rfl) (by kernel_rfl) (by kernel_rfl) (fun _ => rfl) (by decide) (by decide) (by decide))
  (good_mk (v := .n 50) (by kernel_rfl) (by kernel_rfl) (by kernel_rfl) (by kernel_rfl) (fun _ => rfl) (by decide) (by decide) (by decide))
  (good_mk (v := .n 500) (by kernel_rfl) (by kernel_rfl) (by kernel_rfl) (by kernel_rfl) (fun _ => rfl) (by decide) (by decide) (by decide))
  (good_mk (v := .n 20) (by kernel_rfl) (by kernel_rfl) (by kernel_rfl) (by kernel_rfl) (fun _ => rfl) (by decide) (by decide) (by decide))
  (good_mk (v := .n 30000) (by kernel_rfl) (by kernel_rfl) (by kernel_rfl) (by kernel_rfl) (fun _ => rfl) (by decide) (by decide) (by decide))
  (good_mk (v := .a ⟨1, 1, 1, 1⟩) (by kernel_rfl) (by kernel_rfl) (by kernel_rfl) (by kernel_rfl) (fun _ => rfl) (by decide) (by decide) (by decide))
  (good_mk (v := .m ⟨2, 0, 0, 0, 0, 10⟩) (by kernel_rfl) (by kernel_rfl) (by kernel_rfl) (by kernel_rfl) (fun _ => rfl) (by decide) (by decide) (by decide))
  (good_mk (v := .m ⟨2, 0, 0, 0, 0, 11⟩) (by kernel_rfl) (by kernel_rfl) (by kernel_rfl) (by kernel_rfl) (fun _ => rfl) (by decide) (by decide) (by decide))
  (good_mk (v := .a ⟨192, 168, 1, 50⟩) (by kernel_rfl) (by kernel_rfl) (by kernel_rfl) (by kernel_rfl) (fun _ => rfl) (by decide) (by decide) (by decide))
  (good_mk (v := .a ⟨192, 168, 1, 60⟩) (by kernel_rfl) (by kernel_rfl) (by kernel_rfl) (by kernel_rfl) (fun _ => rfl) (by decide) (by decide) (by decide))
theorem nmO_inj {j k : Nat} (hj : j < 10) (hk : k < 10) (h : nmO j = nmO k) : j = k := by
  have key : ((List.range 10).all fun j => (List.range 10).all fun k => decide (nmO j = nmO k → j = k)) = true := by decide
  have h1 := List.all_eq_true.1 key j (List.mem_range.2 hj)
  have h2 := List.all_eq_true.1 h1 k (List.mem_range.2 hk)
  exact (of_decide_eq_true h2) h
theorem lineV_O (c : Cf) (S : List (List UInt8)) (k : Nat) (hk : k < 10) (hS : nmO k ∉ S) : lineV c S (lineO k) = (0, setO k c, nmO k :: S) := by
  obtain ⟨h1, h2, h3, ⟨v, h4, h5⟩, _⟩ := good_O k hk
  rw [lineV, if_neg (by rw [h1]; decide), h2, h3, lineW_some h4, if_neg hS, h5]
def catN (l : List Nat) : List UInt8 := l.flatMap fun k => lineO k ++ [10]
theorem cut_catN : ∀ (l : List Nat) (_ : ∀ k ∈ l, k < 10), cutB 10 (catN l) = l.map lineO ++ [[]]
  | [], _ => rfl
  | k :: l, h => by
    have hk := good_O k (h k (by simp))
    have ih := cut_catN l fun j hj => h j (by simp [hj])
    rw [show catN (k :: l) = lineO k ++ 10 :: catN l by simp [catN], cutB_cons 10 _ _ hk.2.2.2.2.2.2.1, ih]
    rfl
theorem lines_catN (l : List Nat) (h : ∀ k ∈ l, k < 10) : linesV (catN l) = l.map lineO := by
  rw [linesV, cut_catN l h, if_pos (by simp), List.dropLast_concat]
theorem len_catN (l : List Nat) (h : ∀ k ∈ l, k < 10) : (catN l).length ≤ 27 * l.length := by
  induction l with
  | nil => simp [catN]
  | cons k l ih =>
    have hk := (good_O k (h k (by simp))).2.2.2.2.2.1
    have := ih fun j hj => h j (by simp [hj])
    rw [show catN (k :: l) = lineO k ++ 10 :: catN l by simp [catN]]
    simp; omega
theorem go_O : ∀ (l : List Nat) (m : Nat → Bool) (S : List (List UInt8)) (i : Nat), (∀ k ∈ l, k < 10) → l.Nodup → (∀ k ∈ l, nmO k ∉ S) → nLan ∉ S →
    ∃ S', goL (cfO m) S i (l.map lineO) = (0, i + l.length, cfO (fun j => decide (j ∈ l) || m j), S') ∧ nLan ∉ S'
  | [], m, S, i, _, _, _, hL => ⟨S, by simp [goL], hL⟩
  | k :: l, m, S, i, h, hn, hS, hL => by
    have hk := h k (by simp)
    obtain ⟨S', e, hL'⟩ := go_O l (fun j => j == k || m j) (nmO k :: S) (i + 1) (fun j hj => h j (by simp [hj])) (List.nodup_cons.1 hn).2
      (fun j hj hm => by
        rcases List.mem_cons.1 hm with e | hm
        · have := nmO_inj (h j (by simp [hj])) hk e
          subst this
          exact (List.nodup_cons.1 hn).1 hj
        · exact hS j (by simp [hj]) hm)
      (fun hm => by
        rcases List.mem_cons.1 hm with e | hm
        · exact (good_O k hk).2.2.2.2.2.2.2 e.symm
        · exact hL hm)
    refine ⟨S', ?_, hL'⟩
    rw [List.map_cons, goL, lineV_O _ _ k hk (hS k (by simp)), if_pos rfl, setO_cfO k hk, e, List.length_cons]
    have : (fun j => decide (j ∈ k :: l) || m j) = fun j => decide (j ∈ l) || (j == k || m j) := by
      funext j
      by_cases h1 : j = k <;> by_cases h2 : j ∈ l <;> simp [h1, h2]
    rw [this, Nat.add_right_comm, Nat.add_assoc]
def cfL (l : List Nat) : Cf := cfO fun j => decide (j ∈ l)
theorem cfL_rev (l : List Nat) : cfL l.reverse = cfL l := by simp [cfL]
theorem order_parse (w : World) (hm : mlIs w) (l : List Nat) (h : ∀ k ∈ l, k < 10) (hn : l.Nodup) (hl : l.length ≤ 10) :
    Calls Tryd.prog 9 #[.string (str (catN l))] w (ConfP w (if chkE (cfL l) = 0 then cfL l else cf0, 0, chkE (cfL l))) := by
  obtain ⟨S', hg, hS⟩ := go_O l (fun _ => false) [] 0 h hn (fun _ _ => by simp) (by simp)
  rw [cfO_none, ← lines_catN l h] at hg
  have hc : (cfO fun j => decide (j ∈ l) || false) = cfL l := by simp [cfL]
  rw [hc] at hg
  have hh := confParse_any w hm (catN l) (by have := len_catN l h; omega) (by rw [lines_catN l h]; simp; omega) (by
    rw [lines_catN l h]
    intro x hx
    obtain ⟨k, hk, rfl⟩ := List.mem_map.1 hx
    exact (good_O k (h k hk)).2.2.2.2.1) _ hg (cfL l) (fun _ => ends_no _ _ hS)
  exact hh
theorem catN_append (l m : List Nat) : catN (l ++ m) = catN l ++ catN m := by simp [catN]
theorem catN_one (k : Nat) : catN [k] = lineO k ++ [10] := by simp [catN]
theorem chkE_two (c : Cf) : chkE c = 0 ∨ chkE c = 1 := by
  unfold chkE
  split
  · exact .inl rfl
  · exact .inr rfl
end Go.Proofs.YtnmdiageigbphaaDoor
