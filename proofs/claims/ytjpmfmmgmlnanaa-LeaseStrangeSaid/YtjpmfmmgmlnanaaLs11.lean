/-
  Contract of the client's Get, where a message is for it.
-/
import Derived.Test.YtjpmfmmgmlnanaaLs10
namespace Go.Proofs.Ytjpmfmmgmlnanaa
open Go.RowKit

set_option maxRecDepth 100000 in
set_option maxHeartbeats 4000000 in
theorem cget_offer (w : World) (g H : Nat) (c : Cl) (h : CB w g c) (m : Hd) (A : Option Addr) (n cc : Nat) (l : List Op1) (ho : OA w H A n cc l) (hgH : g < H) (hB : ∀ o ∈ l, o.body.length ≤ 1099511627776) (t : Int) (c1 : Cl) (hc1 : c.time t = c1) (k1 : c1.ok) (hm : c1.mine m)
    (hs : c1.state = 1) (hty : typeO (obs l) = 2) (hok : oK (obs l) 54 = true) (hyo : m.yo ≠ ad0) :
    Calls Try.prog 13 #[.pointer (some ⟨g, 0, none⟩), msV m A n cc, .int .i64 t] w (GetPost w g (({ c1 with want := m.yo, src := oA (obs l) 54 } : Cl).start 2 c1.now 4) (some (({ c1 with want := m.yo, src := oA (obs l) 54 } : Cl).start 2 c1.now 4).msg) false) := by
  have HC1 := Lib.hid hc1
  clear hc1
  have b0 : Below w.heap.size w (w.alloc (.cells (msC m A n cc) 37)) := (Below.refl _ w).alloc (Nat.le_refl _) _
  have P0 : (w.alloc (.cells (msC m A n cc) 37)).heap[w.heap.size]? = some (.cells (msC m A n cc) 37 (0, 0)) := heap_alloc_new w _
  have C0 : CB (w.alloc (.cells (msC m A n cc) 37)) g c := h.below b0
  have O0 := ho.below b0
  have gl := heap_lt h
  have hn0 := k1.now0
  have hn1 := k1.now1
  have HS := Lib.hid hs
  have HTY := Lib.hid hty
  have HOK := Lib.hid hok
  have HYO := Lib.hid hyo
  clear hs hty hok hyo
  obtain ⟨h1, h2, h3, h4, h5⟩ := hm
  have t1 : (m.op != 2) = false := by rw [h1]; rfl
  have em := fun w => run_neq_mac w m.mac c1.m
  rw [(meq_iff _ _).2 h2] at em
  have t3 : (m.xid != c1.xid) = false := by rw [h3]; exact bne_self_eq_false _
  have t4 : (c1.state == 0) = false := by rw [beq_eq_false_iff_ne]; exact h4
  have t5 : (c1.state == 3) = false := by rw [beq_eq_false_iff_ne]; exact h5
  clear h1 h2 h3 h4 h5 ho
  go_enter Try.func13, Try.ntmps13
  go_upto_region 1 with fail
  generalize w.alloc (.cells (msC m A n cc) 37) = w1 at b0 P0 C0 O0 ⊢
  obtain ⟨b, hb⟩ : ∃ b, w.heap.size = b := ⟨_, rfl⟩
  rw [hb] at P0 ⊢
  have HB := Lib.hid hb
  have hgb : g < b := by omega
  clear hb h
  go_wp2_with fail
  refine (ctime_any w1 g c t C0).mono ?_
  rw [HC1.out]
  rintro e w2 ⟨rfl, C2, g2⟩
  have P2 := grown_at g2 P0 (by omega)
  have O2 := O0.grown g2 hgH
  have G2 : w.grownBy w2 (some g) := grown_trans (grown_of_below _ b0) g2
  clear g2 P0 C0 b0 O0
  go_upto_region 2 with fail
  have f1 := Ext.cells (w := w2.drew) (M := fun _ => False) C2 (fun h => h)
  have f2 := Ext.cells (w := w2.drew) (M := fun _ => False) P2 (fun h => h)
  have G3 := grown_drew G2
  have C3 : CB w2.drew g c1 := C2
  have P3 : w2.drew.heap[b]? = some (.cells (msC m A n cc) 37 (0, 0)) := P2
  have O3 := O2.below ((Below.refl _ w2).drew)
  refine rg_begin (fun _ => False) (by kernel_rfl) ?_
  refine rg_take (v := ?_) 0 rfl (by kernel_rfl) (by kernel_rfl) (by kernel_rfl) (fun _ _ _ h => h) (by rfl) ?_ ?_; rotate_left
  · (intro x hx; go_simp; first | done | with_reducible rfl | (rw [if_pos (by omega)]; try with_reducible rfl) | (rw [if_neg (by omega)]; try with_reducible rfl))
  try simp only [Act.put, List.setIfInBounds_toArray, List.set_cons_zero, List.set_cons_succ]
  refine rg_take (v := ?_) 1 rfl (by kernel_rfl) (by kernel_rfl) (by kernel_rfl) (fun _ _ _ h => h) (by rfl) ?_ ?_; rotate_left
  · (intro x hx; go_simp; first | done | with_reducible rfl | (rw [if_pos (by omega)]; try with_reducible rfl) | (rw [if_neg (by omega)]; try with_reducible rfl))
  try simp only [Act.put, List.setIfInBounds_toArray, List.set_cons_zero, List.set_cons_succ]
  refine rg_take (v := ?_) 2 rfl (by kernel_rfl) (by kernel_rfl) (by kernel_rfl) (fun _ _ _ h => h) (by rfl) ?_ ?_; rotate_left
  · (intro x hx; go_simp; first | done | with_reducible rfl | (rw [if_pos (by omega)]; try with_reducible rfl) | (rw [if_neg (by omega)]; try with_reducible rfl))
  try simp only [Act.put, List.setIfInBounds_toArray, List.set_cons_zero, List.set_cons_succ]
  refine rg_take (v := ?_) 3 rfl (by kernel_rfl) (by kernel_rfl) (by kernel_rfl) (fun _ _ _ h => h) (by rfl) ?_ ?_; rotate_left
  · (intro x hx; go_simp; first | done | with_reducible rfl | (rw [if_pos (by omega)]; try with_reducible rfl) | (rw [if_neg (by omega)]; try with_reducible rfl))
  try simp only [Act.put, List.setIfInBounds_toArray, List.set_cons_zero, List.set_cons_succ]
  refine rg_take (v := ?_) 4 rfl (by kernel_rfl) (by kernel_rfl) (by kernel_rfl) (fun _ _ _ h => h) (by rfl) ?_ ?_; rotate_left
  · (intro x hx; go_simp; first | done | with_reducible rfl | (rw [if_pos (by omega)]; try with_reducible rfl) | (rw [if_neg (by omega)]; try with_reducible rfl))
  try simp only [Act.put, List.setIfInBounds_toArray, List.set_cons_zero, List.set_cons_succ]
  refine rg_take (v := ?_) 5 rfl (by kernel_rfl) (by kernel_rfl) (by kernel_rfl) (fun _ _ _ h => h) (by rfl) ?_ ?_; rotate_left
  · (intro x hx; go_simp; first | done | with_reducible rfl | (rw [if_pos (by omega)]; try with_reducible rfl) | (rw [if_neg (by omega)]; try with_reducible rfl))
  try simp only [Act.put, List.setIfInBounds_toArray, List.set_cons_zero, List.set_cons_succ]
  refine rg_take (v := ?_) 6 rfl (by kernel_rfl) (by kernel_rfl) (by kernel_rfl) (fun _ _ _ h => h) (by rfl) ?_ ?_; rotate_left
  · (intro x hx; go_simp; first | done | with_reducible rfl | (rw [if_pos (by omega)]; try with_reducible rfl) | (rw [if_neg (by omega)]; try with_reducible rfl))
  try simp only [Act.put, List.setIfInBounds_toArray, List.set_cons_zero, List.set_cons_succ]
  refine rg_take (v := ?_) 7 rfl (by kernel_rfl) (by kernel_rfl) (by kernel_rfl) (fun _ _ _ h => h) (by rfl) ?_ ?_; rotate_left
  · (intro x hx; go_simp; first | done | with_reducible rfl | (rw [if_pos (by omega)]; try with_reducible rfl) | (rw [if_neg (by omega)]; try with_reducible rfl))
  try simp only [Act.put, List.setIfInBounds_toArray, List.set_cons_zero, List.set_cons_succ]
  refine rg_take (v := ?_) 8 rfl (by kernel_rfl) (by kernel_rfl) (by kernel_rfl) (fun _ _ _ h => h) (by rfl) ?_ ?_; rotate_left
  · (intro x hx; go_simp; first | done | with_reducible rfl | (rw [if_pos (by omega)]; try with_reducible rfl) | (rw [if_neg (by omega)]; try with_reducible rfl))
  try simp only [Act.put, List.setIfInBounds_toArray, List.set_cons_zero, List.set_cons_succ]
  refine rg_take (v := ?_) 9 rfl (by kernel_rfl) (by kernel_rfl) (by kernel_rfl) (fun _ _ _ h => h) (by rfl) ?_ ?_; rotate_left
  · (intro x hx; go_simp; first | done | with_reducible rfl | (rw [if_pos (by omega)]; try with_reducible rfl) | (rw [if_neg (by omega)]; try with_reducible rfl))
  try simp only [Act.put, List.setIfInBounds_toArray, List.set_cons_zero, List.set_cons_succ]
  refine rg_take (v := ?_) 10 rfl (by kernel_rfl) (by kernel_rfl) (by kernel_rfl) (fun _ _ _ h => h) (by rfl) ?_ ?_; rotate_left
  · (intro x hx; go_simp; first | done | with_reducible rfl | (rw [if_pos (by omega)]; try with_reducible rfl) | (rw [if_neg (by omega)]; try with_reducible rfl))
  try simp only [Act.put, List.setIfInBounds_toArray, List.set_cons_zero, List.set_cons_succ]
  refine rg_take (v := ?_) 11 rfl (by kernel_rfl) (by kernel_rfl) (by kernel_rfl) (fun _ _ _ h => h) (by rfl) ?_ ?_; rotate_left
  · (intro x hx; go_simp; first | done | with_reducible rfl | (rw [if_pos (by omega)]; try with_reducible rfl) | (rw [if_neg (by omega)]; try with_reducible rfl))
  try simp only [Act.put, List.setIfInBounds_toArray, List.set_cons_zero, List.set_cons_succ]
  refine rg_take (v := ?_) 12 rfl (by kernel_rfl) (by kernel_rfl) (by kernel_rfl) (fun _ _ _ h => h) (by rfl) ?_ ?_; rotate_left
  · (intro x hx; go_simp; first | done | with_reducible rfl | (rw [if_pos (by omega)]; try with_reducible rfl) | (rw [if_neg (by omega)]; try with_reducible rfl))
  try simp only [Act.put, List.setIfInBounds_toArray, List.set_cons_zero, List.set_cons_succ]
  refine rg_take (v := ?_) 13 rfl (by kernel_rfl) (by kernel_rfl) (by kernel_rfl) (fun _ _ _ h => h) (by rfl) ?_ ?_; rotate_left
  · (intro x hx; go_simp; first | done | with_reducible rfl | (rw [if_pos (by omega)]; try with_reducible rfl) | (rw [if_neg (by omega)]; try with_reducible rfl))
  try simp only [Act.put, List.setIfInBounds_toArray, List.set_cons_zero, List.set_cons_succ]
  refine rg_take (v := ?_) 14 rfl (by kernel_rfl) (by kernel_rfl) (by kernel_rfl) (fun _ _ _ h => h) (by rfl) ?_ ?_; rotate_left
  · (intro x hx; go_simp; first | done | with_reducible rfl | (rw [if_pos (by omega)]; try with_reducible rfl) | (rw [if_neg (by omega)]; try with_reducible rfl))
  try simp only [Act.put, List.setIfInBounds_toArray, List.set_cons_zero, List.set_cons_succ]
  refine rg_take (v := ?_) 15 rfl (by kernel_rfl) (by kernel_rfl) (by kernel_rfl) (fun _ _ _ h => h) (by rfl) ?_ ?_; rotate_left
  · (intro x hx; go_simp; first | done | with_reducible rfl | (rw [if_pos (by omega)]; try with_reducible rfl) | (rw [if_neg (by omega)]; try with_reducible rfl))
  try simp only [Act.put, List.setIfInBounds_toArray, List.set_cons_zero, List.set_cons_succ]
  refine rg_take (v := ?_) 16 rfl (by kernel_rfl) (by kernel_rfl) (by kernel_rfl) (fun _ _ _ h => h) (by rfl) ?_ ?_; rotate_left
  · (intro x hx; go_simp; first | done | with_reducible rfl | (rw [if_pos (by omega)]; try with_reducible rfl) | (rw [if_neg (by omega)]; try with_reducible rfl))
  try simp only [Act.put, List.setIfInBounds_toArray, List.set_cons_zero, List.set_cons_succ]
  refine rg_take (v := ?_) 17 rfl (by kernel_rfl) (by kernel_rfl) (by kernel_rfl) (fun _ _ _ h => h) (by rfl) ?_ ?_; rotate_left
  · (intro x hx; go_simp; first | done | with_reducible rfl | (rw [if_pos (by omega)]; try with_reducible rfl) | (rw [if_neg (by omega)]; try with_reducible rfl))
  try simp only [Act.put, List.setIfInBounds_toArray, List.set_cons_zero, List.set_cons_succ]
  refine rg_take (v := ?_) 18 rfl (by kernel_rfl) (by kernel_rfl) (by kernel_rfl) (fun _ _ _ h => h) (by rfl) ?_ ?_; rotate_left
  · (intro x hx; go_simp; first | done | with_reducible rfl | (rw [if_pos (by omega)]; try with_reducible rfl) | (rw [if_neg (by omega)]; try with_reducible rfl))
  try simp only [Act.put, List.setIfInBounds_toArray, List.set_cons_zero, List.set_cons_succ]
  refine rg_take (v := ?_) 19 rfl (by kernel_rfl) (by kernel_rfl) (by kernel_rfl) (fun _ _ _ h => h) (by rfl) ?_ ?_; rotate_left
  · (intro x hx; go_simp; first | done | with_reducible rfl | (rw [if_pos (by omega)]; try with_reducible rfl) | (rw [if_neg (by omega)]; try with_reducible rfl))
  try simp only [Act.put, List.setIfInBounds_toArray, List.set_cons_zero, List.set_cons_succ]
  refine rg_take (v := ?_) 20 rfl (by kernel_rfl) (by kernel_rfl) (by kernel_rfl) (fun _ _ _ h => h) (by rfl) ?_ ?_; rotate_left
  · (intro x hx; go_simp; first | done | with_reducible rfl | (rw [if_pos (by omega)]; try with_reducible rfl) | (rw [if_neg (by omega)]; try with_reducible rfl))
  try simp only [Act.put, List.setIfInBounds_toArray, List.set_cons_zero, List.set_cons_succ]
  refine rg_take (v := ?_) 21 rfl (by kernel_rfl) (by kernel_rfl) (by kernel_rfl) (fun _ _ _ h => h) (by rfl) ?_ ?_; rotate_left
  · (intro x hx; go_simp; first | done | with_reducible rfl | (rw [if_pos (by omega)]; try with_reducible rfl) | (rw [if_neg (by omega)]; try with_reducible rfl))
  try simp only [Act.put, List.setIfInBounds_toArray, List.set_cons_zero, List.set_cons_succ]
  refine rg_take (v := ?_) 22 rfl (by kernel_rfl) (by kernel_rfl) (by kernel_rfl) (fun _ _ _ h => h) (by rfl) ?_ ?_; rotate_left
  · (intro x hx; go_simp; first | done | with_reducible rfl | (rw [if_pos (by omega)]; try with_reducible rfl) | (rw [if_neg (by omega)]; try with_reducible rfl))
  try simp only [Act.put, List.setIfInBounds_toArray, List.set_cons_zero, List.set_cons_succ]
  refine rg_take (v := ?_) 23 rfl (by kernel_rfl) (by kernel_rfl) (by kernel_rfl) (fun _ _ _ h => h) (by rfl) ?_ ?_; rotate_left
  · (intro x hx; go_simp; first | done | with_reducible rfl | (rw [if_pos (by omega)]; try with_reducible rfl) | (rw [if_neg (by omega)]; try with_reducible rfl))
  try simp only [Act.put, List.setIfInBounds_toArray, List.set_cons_zero, List.set_cons_succ]
  refine rg_take (v := ?_) 24 rfl (by kernel_rfl) (by kernel_rfl) (by kernel_rfl) (fun _ _ _ h => h) (by rfl) ?_ ?_; rotate_left
  · (intro x hx; go_simp; first | done | with_reducible rfl | (rw [if_pos (by omega)]; try with_reducible rfl) | (rw [if_neg (by omega)]; try with_reducible rfl))
  try simp only [Act.put, List.setIfInBounds_toArray, List.set_cons_zero, List.set_cons_succ]
  refine rg_take (v := ?_) 25 rfl (by kernel_rfl) (by kernel_rfl) (by kernel_rfl) (fun _ _ _ h => h) (by rfl) ?_ ?_; rotate_left
  · (intro x hx; go_simp; first | done | with_reducible rfl | (rw [if_pos (by omega)]; try with_reducible rfl) | (rw [if_neg (by omega)]; try with_reducible rfl))
  try simp only [Act.put, List.setIfInBounds_toArray, List.set_cons_zero, List.set_cons_succ]
  refine rg_take (v := ?_) 26 rfl (by kernel_rfl) (by kernel_rfl) (by kernel_rfl) (fun _ _ _ h => h) (by rfl) ?_ ?_; rotate_left
  · (intro x hx; go_simp; first | done | with_reducible rfl | (rw [if_pos (by omega)]; try with_reducible rfl) | (rw [if_neg (by omega)]; try with_reducible rfl))
  try simp only [Act.put, List.setIfInBounds_toArray, List.set_cons_zero, List.set_cons_succ]
  refine rg_take (v := ?_) 27 rfl (by kernel_rfl) (by kernel_rfl) (by kernel_rfl) (fun _ _ _ h => h) (by rfl) ?_ ?_; rotate_left
  · (intro x hx; go_simp; first | done | with_reducible rfl | (rw [if_pos (by omega)]; try with_reducible rfl) | (rw [if_neg (by omega)]; try with_reducible rfl))
  try simp only [Act.put, List.setIfInBounds_toArray, List.set_cons_zero, List.set_cons_succ]
  refine rg_take (v := ?_) 28 rfl (by kernel_rfl) (by kernel_rfl) (by kernel_rfl) (fun _ _ _ h => h) (by rfl) ?_ ?_; rotate_left
  · (intro x hx; go_simp; first | done | with_reducible rfl | (rw [if_pos (by omega)]; try with_reducible rfl) | (rw [if_neg (by omega)]; try with_reducible rfl))
  try simp only [Act.put, List.setIfInBounds_toArray, List.set_cons_zero, List.set_cons_succ]
  refine rg_take (v := ?_) 29 rfl (by kernel_rfl) (by kernel_rfl) (by kernel_rfl) (fun _ _ _ h => h) (by rfl) ?_ ?_; rotate_left
  · (intro x hx; go_simp; first | done | with_reducible rfl | (rw [if_pos (by omega)]; try with_reducible rfl) | (rw [if_neg (by omega)]; try with_reducible rfl))
  try simp only [Act.put, List.setIfInBounds_toArray, List.set_cons_zero, List.set_cons_succ]
  refine rg_take (v := ?_) 30 rfl (by kernel_rfl) (by kernel_rfl) (by kernel_rfl) (fun _ _ _ h => h) (by rfl) ?_ ?_; rotate_left
  · (intro x hx; go_simp; first | done | with_reducible rfl | (rw [if_pos (by omega)]; try with_reducible rfl) | (rw [if_neg (by omega)]; try with_reducible rfl))
  try simp only [Act.put, List.setIfInBounds_toArray, List.set_cons_zero, List.set_cons_succ]
  refine rg_take (v := ?_) 31 rfl (by kernel_rfl) (by kernel_rfl) (by kernel_rfl) (fun _ _ _ h => h) (by rfl) ?_ ?_; rotate_left
  · (intro x hx; go_simp; first | done | with_reducible rfl | (rw [if_pos (by omega)]; try with_reducible rfl) | (rw [if_neg (by omega)]; try with_reducible rfl))
  try simp only [Act.put, List.setIfInBounds_toArray, List.set_cons_zero, List.set_cons_succ]
  refine rg_take (v := ?_) 32 rfl (by kernel_rfl) (by kernel_rfl) (by kernel_rfl) (fun _ _ _ h => h) (by rfl) ?_ ?_; rotate_left
  · (intro x hx; go_simp; first | done | with_reducible rfl | (rw [if_pos (by omega)]; try with_reducible rfl) | (rw [if_neg (by omega)]; try with_reducible rfl))
  try simp only [Act.put, List.setIfInBounds_toArray, List.set_cons_zero, List.set_cons_succ]
  refine rg_take (v := ?_) 33 rfl (by kernel_rfl) (by kernel_rfl) (by kernel_rfl) (fun _ _ _ h => h) (by rfl) ?_ ?_; rotate_left
  · (intro x hx; go_simp; first | done | with_reducible rfl | (rw [if_pos (by omega)]; try with_reducible rfl) | (rw [if_neg (by omega)]; try with_reducible rfl))
  try simp only [Act.put, List.setIfInBounds_toArray, List.set_cons_zero, List.set_cons_succ]
  refine rg_take (v := ?_) 34 rfl (by kernel_rfl) (by kernel_rfl) (by kernel_rfl) (fun _ _ _ h => h) (by rfl) ?_ ?_; rotate_left
  · (intro x hx; go_simp; first | done | with_reducible rfl | (rw [if_pos (by omega)]; try with_reducible rfl) | (rw [if_neg (by omega)]; try with_reducible rfl))
  try simp only [Act.put, List.setIfInBounds_toArray, List.set_cons_zero, List.set_cons_succ]
  refine rg_done (by kernel_rfl) ?_
  clear f1 f2 em G2 C2 P2 O2 t3 t4 t5
  generalize w2.drew = w3 at C3 P3 O3 G3 ⊢
  obtain ⟨hc, _⟩ := cells_of P3
  have d27 : w3.cell? ⟨b, 27, none⟩ = some (.slice A n cc) := hc 27
  clear hc
  go_wp2_with fail
  refine (oaddr_any w3 A n cc l 54 O3.os hB).mono ?_
  rw [← oA_obs, ← oK_obs]
  rintro e w4 ⟨rfl, b4⟩
  have C4 := C3.below b4
  have P4 := below_at b4 P3 (heap_lt P3)
  have O4 := O3.below b4
  have G4 := grown_trans G3 (grown_of_below (some g) b4)
  clear C3 P3 O3 G3 b4 d27
  go_upto_region 5 with ((with_reducible apply at_store_new 34); (case hx => exact rfl); (case hy => exact rfl); (case hg => first | rfl | simp); (case hi => kernel_rfl); (case hold => rfl); (case h1 => kernel_rfl))
  have b5 : Below w4.heap.size w4 (w4.alloc (.cells (adC (oA (obs l) 54)) 34)) := (Below.refl _ w4).alloc (Nat.le_refl _) _
  have C5 := C4.below b5
  have P5 := below_at b5 P4 (heap_lt P4)
  have O5 := O4.below b5
  have F5 := heap_alloc_new w4 (.cells (adC (oA (obs l) 54)) 34)
  have G5 := grown_trans G4 (grown_of_below (some g) b5)
  have hbf := heap_lt P4
  have hgl4 : w.heap.size ≤ w4.heap.size := G4.size
  generalize w4.alloc (.cells (adC (oA (obs l) 54)) 34) = w5 at C5 P5 O5 F5 G5 ⊢
  obtain ⟨f, hf⟩ : ∃ f, w4.heap.size = f := ⟨_, rfl⟩
  rw [hf] at F5 hbf hgl4 ⊢
  clear hf C4 P4 O4 G4 b5
  go_wp2_with ((with_reducible apply at_load_row 37); (case hx => exact rfl); (case hg => exact P5); (case hu => exact Try.underlying37); (case hd => rfl); (case hi => kernel_rfl))
  refine (type_any w5 m A n cc l O5.os hB).mono ?_
  rintro e w6 ⟨rfl, b6⟩
  have C6 := C5.below b6
  have P6 := below_at b6 P5 (heap_lt P5)
  have F6 := below_at b6 F5 (heap_lt F5)
  have O6 := O5.below b6
  have G6 := grown_trans G5 (grown_of_below (some g) b6)
  clear C5 P5 F5 O5 G5 b6
  obtain ⟨hc, _⟩ := cells_of C6
  have d6 : w6.cell? ⟨g, 6, none⟩ = some (.int .i64 c1.state) := hc 6
  clear hc
  rw [HS.out] at d6
  rw [HTY.out, HOK.out]
  have eq0 : ∀ w, (binOp .eql 34 (adV m.yo) (.agg #[.int .u8 0, .int .u8 0, .int .u8 0, .int .u8 0])).run Try.prog w = .ok (.bool false) w := fun w => by
    have e := run_eql_ad w m.yo ad0
    rw [adeq_false HYO.out] at e
    exact e
  obtain ⟨hc, _⟩ := cells_of P6
  have y9 : w6.cell? ⟨b, 9, none⟩ = some (.int .u8 (m.yo.a.toNat : Int)) := hc 9
  have y10 : w6.cell? ⟨b, 10, none⟩ = some (.int .u8 (m.yo.b.toNat : Int)) := hc 10
  have y11 : w6.cell? ⟨b, 11, none⟩ = some (.int .u8 (m.yo.c.toNat : Int)) := hc 11
  have y12 : w6.cell? ⟨b, 12, none⟩ = some (.int .u8 (m.yo.d.toNat : Int)) := hc 12
  clear hc
  go_upto_region 9 with fail
  clear eq0 y9 y10 y11 y12 d6
  have f1 := Ext.cells (w := w6.drew) (M := fun x => x = g) P6 (by omega)
  have f2 := Ext.cells (w := w6.drew) (M := fun x => x = g) F6 (by omega)
  refine rg_begin (fun x => x = g) (by kernel_rfl) ?_
  refine rg_take (v := ?_) 0 rfl (by kernel_rfl) (by kernel_rfl) (by kernel_rfl) (fun _ _ _ h => h) (by rfl) ?_ ?_; rotate_left
  · (intro x hx; go_simp; first | done | with_reducible rfl | (rw [if_pos (by omega)]; try with_reducible rfl) | (rw [if_neg (by omega)]; try with_reducible rfl))
  try simp only [Act.put, List.setIfInBounds_toArray, List.set_cons_zero, List.set_cons_succ]
  refine rg_take (v := ?_) 1 rfl (by kernel_rfl) (by kernel_rfl) (by kernel_rfl) (fun _ _ _ h => h) (by rfl) ?_ ?_; rotate_left
  · (intro x hx; go_simp; first | done | with_reducible rfl | (rw [if_pos (by omega)]; try with_reducible rfl) | (rw [if_neg (by omega)]; try with_reducible rfl))
  try simp only [Act.put, List.setIfInBounds_toArray, List.set_cons_zero, List.set_cons_succ]
  refine rg_take (v := ?_) 2 rfl (by kernel_rfl) (by kernel_rfl) (by kernel_rfl) (fun _ _ _ h => h) (by rfl) ?_ ?_; rotate_left
  · (intro x hx; go_simp; first | done | with_reducible rfl | (rw [if_pos (by omega)]; try with_reducible rfl) | (rw [if_neg (by omega)]; try with_reducible rfl))
  try simp only [Act.put, List.setIfInBounds_toArray, List.set_cons_zero, List.set_cons_succ]
  refine rg_take (v := ?_) 3 rfl (by kernel_rfl) (by kernel_rfl) (by kernel_rfl) (fun _ _ _ h => h) (by rfl) ?_ ?_; rotate_left
  · (intro x hx; go_simp; first | done | with_reducible rfl | (rw [if_pos (by omega)]; try with_reducible rfl) | (rw [if_neg (by omega)]; try with_reducible rfl))
  try simp only [Act.put, List.setIfInBounds_toArray, List.set_cons_zero, List.set_cons_succ]
  refine rg_take (v := ?_) 4 rfl (by kernel_rfl) (by kernel_rfl) (by kernel_rfl) (fun _ _ _ h => h) (by rfl) ?_ ?_; rotate_left
  · (intro x hx; go_simp; first | done | with_reducible rfl | (rw [if_pos (by omega)]; try with_reducible rfl) | (rw [if_neg (by omega)]; try with_reducible rfl))
  try simp only [Act.put, List.setIfInBounds_toArray, List.set_cons_zero, List.set_cons_succ]
  refine rg_take (v := ?_) 5 rfl (by kernel_rfl) (by kernel_rfl) (by kernel_rfl) (fun _ _ _ h => h) (by rfl) ?_ ?_; rotate_left
  · (intro x hx; go_simp; first | done | with_reducible rfl | (rw [if_pos (by omega)]; try with_reducible rfl) | (rw [if_neg (by omega)]; try with_reducible rfl))
  try simp only [Act.put, List.setIfInBounds_toArray, List.set_cons_zero, List.set_cons_succ]
  refine rg_take (v := ?_) 6 rfl (by kernel_rfl) (by kernel_rfl) (by kernel_rfl) (fun _ _ _ h => h) (by rfl) ?_ ?_; rotate_left
  · (intro x hx; go_simp; first | done | with_reducible rfl | (rw [if_pos (by omega)]; try with_reducible rfl) | (rw [if_neg (by omega)]; try with_reducible rfl))
  try simp only [Act.put, List.setIfInBounds_toArray, List.set_cons_zero, List.set_cons_succ]
  refine rg_step 7 rfl (by kernel_rfl) (by rfl) (fun K hK => ?_)
  --RAW
  apply wp_store_part 34
  case ho => exact rfl
  case hx => exact rfl
  case hy => exact rfl
  case hg => exact C6
  case hle => simp
  case hi => kernel_rfl
  case h1 => kernel_rfl
  intro w7 g7 P7
  have C7 : CB w7 g { c1 with want := m.yo } := P7
  clear P7
  refine hK.out _ _ (Ext.of_grown g7 fun x hx => by injection hx with e; exact e.symm) ?_
  clear hK K
  refine rg_take (v := ?_) 8 rfl (by kernel_rfl) (by kernel_rfl) (by kernel_rfl) (fun _ _ _ h => h) (by rfl) ?_ ?_; rotate_left
  · (intro x hx; go_simp; first | done | with_reducible rfl | (rw [if_pos (by omega)]; try with_reducible rfl) | (rw [if_neg (by omega)]; try with_reducible rfl))
  try simp only [Act.put, List.setIfInBounds_toArray, List.set_cons_zero, List.set_cons_succ]
  refine rg_take (v := ?_) 9 rfl (by kernel_rfl) (by kernel_rfl) (by kernel_rfl) (fun _ _ _ h => h) (by rfl) ?_ ?_; rotate_left
  · (intro x hx; go_simp; first | done | with_reducible rfl | (rw [if_pos (by omega)]; try with_reducible rfl) | (rw [if_neg (by omega)]; try with_reducible rfl))
  try simp only [Act.put, List.setIfInBounds_toArray, List.set_cons_zero, List.set_cons_succ]
  refine rg_step 10 rfl (by kernel_rfl) (by rfl) (fun K hK => ?_)
  --RAW
  apply wp_store_part 34
  case ho => exact rfl
  case hx => exact rfl
  case hy => exact rfl
  case hg => exact C7
  case hle => simp
  case hi => kernel_rfl
  case h1 => kernel_rfl
  intro w8 g8 P8
  have C8 : CB w8 g { c1 with want := m.yo, src := oA (obs l) 54 } := P8
  clear P8
  refine hK.out _ _ (Ext.of_grown g8 fun x hx => by injection hx with e; exact e.symm) ?_
  clear hK K
  refine rg_done (by kernel_rfl) ?_
  have G8 : w.grownBy w8 (some g) := grown_trans (grown_trans (grown_drew G6) g7) g8
  clear f1 f2 P6 F6 O6 C6 C7 G6 g7 g8
  go_wp2_with fail
  refine (cbegin_any w8 g _ C8 2 c1.now 4).mono ?_
  rintro e w9 ⟨v, rfl, hc9, g9, hm9⟩
  go_wp2_with fail
  go_ret2
  refine ⟨v, rfl, hc9, grown_trans G8 g9, ?_⟩
  obtain ⟨b', A', n', c', l', e, hb', hp', ho', hl'⟩ := hm9
  exact ⟨b', A', n', c', l', e, Nat.le_trans G8.size hb', hp', ho'.lower G8.size, hl'⟩
end Go.Proofs.Ytjpmfmmgmlnanaa
