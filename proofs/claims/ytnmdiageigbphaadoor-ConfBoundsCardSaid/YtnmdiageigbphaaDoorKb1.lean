/-
  ConfBounds, the plain law: a number is taken just within its bounds.
-/
import Derived.Test.YtnmdiageigbphaaDoorKl1
import Derived.Test.YtnmdiageigbphaaDoorKd1
namespace Go.Proofs.YtnmdiageigbphaaDoor
open Go.RowKit

theorem cutE_app (c : UInt8) : ∀ (a b : List UInt8), (∀ x ∈ a, x ≠ c) → cutE c (a ++ c :: b) = (a, b, true)
  | [], b, _ => by rw [List.nil_append, cutE, if_pos rfl]
  | x :: a, b, h => by rw [List.cons_append, cutE, if_neg (h x (by simp)), cutE_app c a b (fun y hy => h y (by simp [hy]))]
def bN5 (k : Nat) : List UInt8 := if k = 0 then nTime else if k = 1 then nUdp else if k = 2 then nTcp else if k = 3 then nIcmp else nLow
def bLo (k : Nat) : Nat := if k = 0 then 60 else if k = 4 then 1024 else 10
def bHi (k : Nat) : Nat := if k = 4 then 60000 else 86400
def bT (k v : Nat) : List UInt8 := bN5 k ++ 61 :: decB v
theorem five_cases (P : Nat → Prop) (k : Nat) (hk : k < 5) (h0 : P 0) (h1 : P 1) (h2 : P 2) (h3 : P 3) (h4 : P 4) : P k := by
  rcases (show k = 0 ∨ k = 1 ∨ k = 2 ∨ k = 3 ∨ k = 4 by omega) with h | h | h | h | h <;> rw [h] <;> assumption
def goodN (x : List UInt8) : Prop := (∀ b ∈ x, b ≠ 10 ∧ b ≠ 61 ∧ blk b = false ∧ b.toNat < 128) ∧ List.isPrefixOf [35] (x ++ [61]) = false ∧ x.length ≤ 8 ∧ Lib.trimS x [32, 9] = x ∧ kindsV x = [110] ∧ x ≠ nFixed ∧ x ≠ nOpen ∧ x ≠ nLan ∧ x ≠ []
theorem bN_good (k : Nat) (hk : k < 5) : goodN (bN5 k) := five_cases (fun k => goodN (bN5 k)) k hk
  ⟨by decide, by decide, by decide, by kernel_rfl, by kernel_rfl, by decide, by decide, by decide, by decide⟩
  ⟨by decide, by decide, by decide, by kernel_rfl, by kernel_rfl, by decide, by decide, by decide, by decide⟩
  ⟨by decide, by decide, by decide, by kernel_rfl, by kernel_rfl, by decide, by decide, by decide, by decide⟩
  ⟨by decide, by decide, by decide, by kernel_rfl, by kernel_rfl, by decide, by decide, by decide, by decide⟩
  ⟨by decide, by decide, by decide, by kernel_rfl, by kernel_rfl, by decide, by decide, by decide, by decide⟩
theorem lines_one {t : List UInt8} (h : t ≠ []) (hn : ∀ x ∈ t, x ≠ 10) : linesV t = [t] := by
  rw [linesV, cutB_none 10 t hn, if_neg (by simpa using h)]
theorem pre_head {c : UInt8} {x u : List UInt8} (h : List.isPrefixOf [c] (x ++ u) = false) (hx : x ≠ []) (v : List UInt8) : List.isPrefixOf [c] (x ++ v) = false := by
  rcases x with _ | ⟨b, x⟩
  · exact absurd rfl hx
  · simpa [List.isPrefixOf] using h
theorem num_ne (x : List UInt8) (v : Nat) : x ++ 61 :: decB v ≠ [] := by simp
section
variable {x : List UInt8} (g : goodN x) (v : Nat)
include g
theorem num_mem : ∀ b ∈ x ++ 61 :: decB v, b ≠ 10 ∧ blk b = false ∧ b.toNat < 128 := by
  intro b hb
  rcases List.mem_append.1 hb with hb | hb
  · exact ⟨(g.1 b hb).1, (g.1 b hb).2.2⟩
  · rcases List.mem_cons.1 hb with rfl | hb
    · decide
    · have := dec_digs v b hb
      refine ⟨?_, blk_digit this.1, by omega⟩
      rintro rfl
      simp at this
theorem num_lines : linesV (x ++ 61 :: decB v) = [x ++ 61 :: decB v] := lines_one (num_ne x v) fun b hb => (num_mem g v b hb).1
theorem num_quiet : quiet (x ++ 61 :: decB v) = false := by
  rw [quiet, words_one (num_ne x v) fun b hb => (num_mem g v b hb).2.1]
  simp only [List.isEmpty_cons, Bool.false_or, List.getD_cons_zero]
  exact pre_head g.2.1 g.2.2.2.2.2.2.2.2 _
theorem num_cut : cutE 61 (x ++ 61 :: decB v) = (x, decB v, true) := cutE_app 61 x _ fun b hb => (g.1 b hb).2.1
theorem num_name : nameOf (x ++ 61 :: decB v) = x := by rw [nameOf, num_cut g v]; exact g.2.2.2.1
theorem num_values (hv : v < 1000000000) : valuesV x (decB v) = some [.n v] := by
  rw [valuesV, g.2.2.2.2.1, words_dec, if_neg (by simp), valsGo, show valK 110 (decB v) = valN (decB v) from rfl, valN, numC_dec v hv]
  rfl
theorem num_line (hv : v < 1000000000) (c : Cf) : lineV c [] (x ++ 61 :: decB v) = (0, setC c x (.n v), [x]) := by
  rw [lineV, if_neg (by rw [num_quiet g v]; decide), num_name g v, num_cut g v]
  simp only
  rw [lineW_some (num_values g v hv), if_neg (by simp)]
theorem num_go (hv : v < 1000000000) : goL usC [] 0 (linesV (x ++ 61 :: decB v)) = (0, 1, setC usC x (.n v), [x]) := by
  rw [num_lines g v, goL, num_line g v hv, if_pos rfl]
  rfl
theorem num_parse (w : World) (hm : mlIs w) (hv : v < 1000000000) :
    Calls Tryd.prog 9 #[.string (str (x ++ 61 :: decB v))] w (ConfP w (if chkE (setC usC x (.n v)) = 0 then setC usC x (.n v) else cf0, 0, chkE (setC usC x (.n v)))) := by
  have hl := dec_len 8 v (by omega)
  have h := confParse_any w hm (x ++ 61 :: decB v) (by have := g.2.2.1; simp; omega) (by rw [num_lines g v]; simp) (by
    rw [num_lines g v]
    intro y hy
    obtain rfl := List.mem_singleton.1 hy
    exact ⟨fun b hb => (num_mem g v b hb).2.2, by have := g.2.2.1; simp; omega, by rw [num_name g v]; exact g.2.2.2.2.2.1, by rw [num_name g v]; exact g.2.2.2.2.2.2.1⟩) _ (num_go g v hv) (setC usC x (.n v))
    (fun _ => ends_no _ _ (by simpa using Ne.symm g.2.2.2.2.2.2.2.1))
  exact h
end
theorem us_net : netB usC = true ∧ poolB usC = true := by constructor <;> kernel_rfl
theorem chk_of {c : Cf} {b : Bool} (h1 : netB c = true) (h2 : poolB c = true) (h3 : timesB c = b) : chkE c = if b = true then 0 else 1 := by
  rw [chkE, checkB, h1, h2, h3]
  rfl
theorem bnd_chk (k v : Nat) (hk : k < 5) : chkE (setC usC (bN5 k) (.n v)) = if inR v (bLo k) (bHi k) = true then 0 else 1 := by
  refine five_cases (fun k => chkE (setC usC (bN5 k) (.n v)) = if inR v (bLo k) (bHi k) = true then 0 else 1) k hk ?_ ?_ ?_ ?_ ?_
  all_goals
    refine chk_of (by kernel_rfl) (by kernel_rfl) ?_
    simp [timesB, setC, bN5, bLo, bHi, usC, inR]
end Go.Proofs.YtnmdiageigbphaaDoor
