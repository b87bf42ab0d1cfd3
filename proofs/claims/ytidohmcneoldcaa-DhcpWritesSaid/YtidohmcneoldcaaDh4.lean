/-
  Contract of dhcp.Get.
-/
import Derived.Test.YtidohmcneoldcaaDh3
namespace Go.Proofs.Ytidohmcneoldcaa
open Go.RowKit

def MsPost (w : World) (r : (Hd × List Ob) × Int) (e : Ending) (w' : World) : Prop :=
  ∃ A n c l, e = .returned (.tuple #[msV r.1.1 A n c, .int .i64 r.2]) ∧ OS w' w'.heap.size A n c l ∧ obs l = r.1.2 ∧ Below w.heap.size w w'
theorem OS.nil_ (w : World) (B : Nat) : OS w B none 0 0 [] := ⟨rfl, Nat.le_refl _, by simp [maxLen], .inl rfl, by simp⟩
theorem MsPost.none_ {w w' : World} {k : Int} (hb : Below w.heap.size w w') : MsPost w ((Hd.zero, []), k) (.returned (.tuple #[msV Hd.zero none 0 0, .int .i64 k])) w' :=
  ⟨none, 0, 0, [], rfl, OS.nil_ _ _, rfl, hb⟩

abbrev mz : Array Value := #[.int .i64 0, .int .i64 0, .int .u32 0, .int .i64 0, .int .i64 0, .int .u8 0, .int .u8 0, .int .u8 0, .int .u8 0, .int .u8 0, .int .u8 0, .int .u8 0, .int .u8 0,
  .int .u8 0, .int .u8 0, .int .u8 0, .int .u8 0, .int .u8 0, .int .u8 0, .int .u8 0, .int .u8 0, .int .u8 0, .int .u8 0, .int .u8 0, .int .u8 0, .int .u8 0, .int .u8 0, .slice none 0 0]

theorem rd_at (l : List UInt8) (i k : Nat) (h : i + k ≤ l.length) : rdTake (l.drop i) k = (l.drop i).take k ∧ rdDrop (l.drop i) k = l.drop (i + k) ∧ rdSh (l.drop i) k false = false := by
  have h' : (0 : Int) ≤ (k : Int) ∧ (k : Int) ≤ (l.drop i).length := by rw [List.length_drop]; omega
  refine ⟨if_pos h', ?_, if_pos h'⟩
  rw [rdDrop, if_pos h', List.drop_drop]
  rfl

set_option maxRecDepth 100000 in
set_option maxHeartbeats 1000000 in
theorem dget_short (w : World) (A : Option Addr) (n c : Nat) (l : List UInt8) (h : BS w w.heap.size A n c l) (hn : n < 240) :
    Calls Try.prog 25 #[.slice A n c] w (MsPost w (getM l)) := by
  have e1 : getM l = ((Hd.zero, []), 3) := by rw [getM, if_pos (by have := h.1; omega)]
  rw [e1]
  clear e1 h
  go_enter Try.func25, Try.ntmps25
  go_wp2_with ((with_reducible apply at_store_new 56); (case hx => exact rfl); (case hy => exact rfl); (case hg => first | rfl | simp); (case hi => kernel_rfl); (case hold => rfl); (case h1 => kernel_rfl))
  refine bodyPost_cell_tmp w.heap.size _ _ _ rfl rfl (heap_alloc_at rfl) Try.underlying56 rfl (by kernel_rfl) rfl ?_
  have := MsPost.none_ (k := 3) (show Below w.heap.size w (w.alloc (.cells mz 56)) from (Below.refl _ w).alloc (Nat.le_refl _) _)
  rw [msV, msC_zero] at this
  exact this

set_option maxRecDepth 100000 in
set_option maxHeartbeats 1000000 in
theorem dget_form (w : World) (A : Option Addr) (n c : Nat) (l : List UInt8) (h : BS w w.heap.size A n c l) (hn : 240 ≤ n) (hmx : n ≤ 1099511627776) (hf : ¬ goodM l) :
    Calls Try.prog 25 #[.slice A n c] w (MsPost w (getM l)) := by
  have e1 : getM l = ((Hd.zero, []), 4) := by rw [getM, if_neg (by have := h.1; omega), if_neg hf]
  rw [e1]
  have HF := Lib.hid (show decide (goodM l) = false from decide_eq_false hf)
  have b0 : Below w.heap.size w (w.alloc (.cells mz 56)) := (Below.refl _ w).alloc (Nat.le_refl _) _
  have h1 := (h.below b0).more b0.size
  clear e1 h hf
  go_enter Try.func25, Try.ntmps25
  go_wp2_with fail
  refine (good_any _ A n c l h1 hn).mono ?_
  rw [HF.out]
  rintro e w1 ⟨rfl, hb1⟩
  have X1 : w1.heap[w.heap.size]? = some (.cells mz 56 (0, 0)) := below_at hb1 (heap_alloc_at rfl) (by simp)
  have q1 : Below w.heap.size w w1 := b0.trans (hb1.mono (by simp))
  clear h1 hb1 b0
  go_wp2_with ((with_reducible apply at_store_part 56); (case hx => exact rfl); (case hy => exact rfl); (case hg => exact X1); (case hle => simp); (case hi => kernel_rfl); (case h1 => kernel_rfl); (intro w2 g2 X2; replace X2 := Lib.hid X2))
  have X2' : w2.heap[w.heap.size]? = some (.cells mz 56 (0, 0)) := X2.out
  refine bodyPost_cell_tmp w.heap.size _ _ _ rfl rfl X2' Try.underlying56 rfl (by kernel_rfl) rfl ?_
  have := MsPost.none_ (k := 4) (below_grown q1 g2 q1.size (Nat.le_refl _))
  rw [msV, msC_zero] at this
  exact this

theorem getO_some_ne (l : List UInt8) (os : List Ob) (h : getO (l.drop 240) = some os) : 240 < l.length := by
  rcases Nat.lt_or_ge 240 l.length with h1 | h1
  · exact h1
  · rw [List.drop_eq_nil_of_le h1] at h
    cases h

set_option maxRecDepth 100000 in
set_option maxHeartbeats 1000000 in
theorem dget_none (w : World) (b o n c : Nat) (l : List UInt8) (h : BS w w.heap.size (some ⟨b, o, none⟩) n c l) (hn : 240 ≤ n) (hmx : n ≤ 1099511627776) (hf : goodM l) (hg : getO (l.drop 240) = none) :
    Calls Try.prog 25 #[.slice (some ⟨b, o, none⟩) n c] w (MsPost w (getM l)) := by
  have e1 : getM l = ((Hd.zero, []), 3) := by rw [getM, if_neg (by have := h.1; omega), if_pos hf, hg]
  rw [e1]
  have HF := Lib.hid (show decide (goodM l) = true from decide_eq_true hf)
  have HG := Lib.hid hg
  have b0 : Below w.heap.size w (w.alloc (.cells mz 56)) := (Below.refl _ w).alloc (Nat.le_refl _) _
  have h1 := (h.below b0).more b0.size
  have hnc := h.2.1
  have hnl := Lib.hid (show (l.drop 240).length ≤ 1099511627776 by rw [List.length_drop]; have := h.1; omega)
  have hd := h.drop (k := 240) (by omega)
  have hnm : n ≤ 9223372036854775807 := by omega
  have hcm : c ≤ 9223372036854775807 := by have h2 := h.2.2.1; unfold maxLen at h2; omega
  clear e1 h hf hg
  by_cases hc : c = 240
  case' pos =>
    obtain rfl : n = 240 := by omega
    subst hc
    rw [if_pos rfl, Nat.sub_self] at hd
  case' neg => rw [if_neg hc] at hd
  all_goals
    go_enter Try.func25, Try.ntmps25
    go_wp2_with fail
    refine (good_any _ _ _ _ l h1 hn).mono ?_
    rw [HF.out]
    rintro e w1 ⟨rfl, hb1⟩
    have X1 := Lib.hid (show w1.heap[w.heap.size]? = some (.cells mz 56 (0, 0)) from below_at hb1 (heap_alloc_at rfl) (by simp))
    have q1 : Below w.heap.size w w1 := b0.trans (hb1.mono (by simp))
    clear h1 hb1 b0
    go_wp2_with fail
    refine (oget_u w1 _ _ _ (l.drop 240) ((hd.below q1).more q1.size) hnl.out [] 3 false (.inr ⟨HG.out, rfl, rfl, rfl⟩)).mono ?_
    rintro e w2 ⟨A3, n3, c3, l3, rfl, _, _, hb2⟩
    have X2 := below_at hb2 X1.out (heap_lt X1.out)
    have q2 := q1.trans (hb2.mono q1.size)
    clear hb2 X1
    go_wp2_with ((with_reducible apply at_store_part 56); (case hx => exact rfl); (case hy => exact rfl); (case hg => exact X2); (case hle => simp); (case hi => kernel_rfl); (case h1 => kernel_rfl); (intro w3 g3 X3; replace X3 := Lib.hid X3))
    have X3' : w3.heap[w.heap.size]? = some (.cells mz 56 (0, 0)) := X3.out
    refine bodyPost_cell_tmp w.heap.size _ _ _ rfl rfl X3' Try.underlying56 rfl (by kernel_rfl) rfl ?_
    have := MsPost.none_ (k := 3) (below_grown q2 g3 q2.size (Nat.le_refl _))
    rw [msV, msC_zero] at this
    exact this
end Go.Proofs.Ytidohmcneoldcaa
