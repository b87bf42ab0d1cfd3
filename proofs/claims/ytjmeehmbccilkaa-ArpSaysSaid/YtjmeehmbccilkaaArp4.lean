/-
  Contracts of arp's frame, Ask, Answer.
-/
import Derived.Test.YtjmeehmbccilkaaArp3
namespace Go.Proofs.Ytjmeehmbccilkaa
open Go.RowKit

def Mac6.cells (m : Mac6) : Array Value := #[.int .u8 (m.a.toNat : Int), .int .u8 (m.b.toNat : Int), .int .u8 (m.c.toNat : Int), .int .u8 (m.d.toNat : Int), .int .u8 (m.e.toNat : Int), .int .u8 (m.f.toNat : Int)]
def Ad4.cells (m : Ad4) : Array Value := #[.int .u8 (m.a.toNat : Int), .int .u8 (m.b.toNat : Int), .int .u8 (m.c.toNat : Int), .int .u8 (m.d.toNat : Int)]
def FramePost (w : World) (t f : Mac6) (l : List UInt8) (e : Ending) (w' : World) : Prop :=
  ∃ A n c, e = .returned (frV t f 2054 A n c) ∧ OB w' w.heap.size A n c l ∧ Below w.heap.size w w'
abbrev fz : Array Value := #[.int .u8 0, .int .u8 0, .int .u8 0, .int .u8 0, .int .u8 0, .int .u8 0, .int .u8 0, .int .u8 0, .int .u8 0, .int .u8 0, .int .u8 0, .int .u8 0, .int .i64 0, .slice none 0 0]

set_option maxRecDepth 100000 in
set_option maxHeartbeats 1000000 in
theorem aframe_any (w : World) (t : Mac6) (p : Pk) : Calls Try.prog 48 #[macV t, pkV p] w (FramePost w t p.fm (putPk p).1) := by
  go_enter Try.func48, Try.ntmps48
  go_wp2_with ((with_reducible apply at_load_row 48); (case hx => exact rfl); (case hg => exact heap_alloc_of (heap_alloc_at (by simp))); (case hu => exact Try.underlying48); (case hd => rfl); (case hi => kernel_rfl))
  refine (aput_any _ p).mono ?_
  rintro e w1 ⟨A, n, c, rfl, ho, hb⟩
  have T1 := below_at hb (heap_alloc_of (heap_alloc_of (heap_alloc_at rfl))) (by simp; omega)
  have P1 : w1.heap[w.heap.size + 1]? = some (.cells (pkC p) 48 (0, 0)) := below_at hb (heap_alloc_of (heap_alloc_at (by simp))) (by simp)
  have R1 : w1.heap[w.heap.size + 1 + 1]? = some (.cells fz 27 (0, 0)) := below_at hb (heap_alloc_at (by simp)) (by simp)
  have z1 := hb.size
  simp at z1
  have q1 : Below w.heap.size w w1 := ((((Below.refl _ w).alloc (Nat.le_refl _) _).alloc (by simp) _).alloc (by simp; omega) _).trans (hb.mono (by simp; omega))
  obtain ⟨k0, f0⟩ := cells_of T1
  obtain ⟨k1, f1⟩ := cells_of P1
  have R := Lib.hid R1
  clear T1 P1 R1 hb
  go_upto_region 2 with fail
  go_wp2_with ((with_reducible apply at_store_part 27); (case hx => exact rfl); (case hy => exact rfl); (case hg => exact R.out); (case hle => simp); (case hi => kernel_rfl); (case h1 => kernel_rfl); (intro w2 g2 R2; replace R2 := Lib.hid R2))
  have R2' : w2.heap[w.heap.size + 1 + 1]? = some (.cells (frC t p.fm 2054 A n c) 27 (0, 0)) := R2.out
  refine bodyPost_cell (w.heap.size + 1 + 1) _ _ _ rfl rfl R2' Try.underlying27 rfl (by kernel_rfl) rfl ?_
  exact ⟨A, n, c, rfl, (ho.grown g2 (by simp)).lower (by simp; omega), below_grown q1 g2 (by omega) (by omega)⟩

def askPk (o : Mac6) (f t : Ad4) : Pk := ⟨1, o, f, zero6, t⟩
def ansPk (o : Mac6) (p : Pk) : Pk := ⟨2, o, p.ta, p.fm, p.fr⟩
def ansFr (o : Mac6) (p : Pk) : Fr × Int := if p.op = 1 then (⟨p.fm, o, 2054, pkB (ansPk o p)⟩, 0) else (Fr.zero, 1)
theorem putPk_ask (o : Mac6) (f t : Ad4) : (putPk (askPk o f t)).1 = pkB (askPk o f t) := by rw [putPk, if_pos (.inl rfl)]
theorem putPk_ans (o : Mac6) (p : Pk) : (putPk (ansPk o p)).1 = pkB (ansPk o p) := by rw [putPk, if_pos (.inr rfl)]

set_option maxRecDepth 100000 in
set_option maxHeartbeats 1000000 in
theorem aask_any (w : World) (o : Mac6) (f t : Ad4) : Calls Try.prog 28 #[macV o, adV f, adV t] w (FramePost w broad6 o (pkB (askPk o f t))) := by
  go_enter Try.func28, Try.ntmps28
  go_wp2_with fail
  refine rg_begin_with (fun k => w.heap.size + 1 + 1 < k) (fun W => (∀ x, Ext (fun k => w.heap.size + 1 + 1 < k) W x → ∀ j, x.cell? ⟨w.heap.size, j, none⟩ = o.cells[j]?) ∧
    (∀ x, Ext (fun k => w.heap.size + 1 + 1 < k) W x → ∀ j, x.cell? ⟨w.heap.size + 1, j, none⟩ = f.cells[j]?) ∧ (∀ x, Ext (fun k => w.heap.size + 1 + 1 < k) W x → ∀ j, x.cell? ⟨w.heap.size + 1 + 1, j, none⟩ = t.cells[j]?))
    (by kernel_rfl) ⟨Ext.cells (heap_alloc_of (heap_alloc_of (heap_alloc_of (heap_alloc_at rfl)))) (by omega), Ext.cells (heap_alloc_of (heap_alloc_of (heap_alloc_at (by simp)))) (by omega), Ext.cells (heap_alloc_of (heap_alloc_at (by simp))) (by omega)⟩ ?_
  rintro ⟨C0, C1, C2⟩
  simp only [Mac6.cells, Ad4.cells] at C0 C1 C2
  refine rg_take (v := ?_) 1 rfl (by kernel_rfl) (by kernel_rfl) (by kernel_rfl) (fun _ _ _ h => h) (by rfl) ?_ ?_; rotate_left
  · (intro x hx; go_simp; first | done | with_reducible rfl | (rw [if_pos (by omega)]; try with_reducible rfl))
  try simp only [Act.put, List.setIfInBounds_toArray, List.set_cons_zero, List.set_cons_succ]
  refine rg_take (v := ?_) 2 rfl (by kernel_rfl) (by kernel_rfl) (by kernel_rfl) (fun _ _ _ h => h) (by rfl) ?_ ?_; rotate_left
  · (intro x hx; go_simp; first | done | with_reducible rfl | (rw [if_pos (by omega)]; try with_reducible rfl))
  try simp only [Act.put, List.setIfInBounds_toArray, List.set_cons_zero, List.set_cons_succ]
  refine rg_take (v := ?_) 3 rfl (by kernel_rfl) (by kernel_rfl) (by kernel_rfl) (fun _ _ _ h => h) (by rfl) ?_ ?_; rotate_left
  · (intro x hx; go_simp; first | done | with_reducible rfl | (rw [if_pos (by omega)]; try with_reducible rfl))
  try simp only [Act.put, List.setIfInBounds_toArray, List.set_cons_zero, List.set_cons_succ]
  refine rg_take (v := ?_) 4 rfl (by kernel_rfl) (by kernel_rfl) (by kernel_rfl) (fun _ _ _ h => h) (by rfl) ?_ ?_; rotate_left
  · (intro x hx; go_simp; first | done | with_reducible rfl | (rw [if_pos (by omega)]; try with_reducible rfl))
  try simp only [Act.put, List.setIfInBounds_toArray, List.set_cons_zero, List.set_cons_succ]
  refine rg_step 0 rfl (by kernel_rfl) (by rfl) (fun K hK => ?_)
  go_simp
  refine (broad_any _).mono ?_
  rintro e w1 ⟨rfl, hb1⟩
  have R1 : w1.heap[w.heap.size + 1 + 1 + 1]? = some (.cells fz 27 (0, 0)) := below_at hb1 (heap_alloc_at (by simp)) (by simp)
  have z1 := hb1.size
  simp at z1
  have q1 : Below w.heap.size w w1 := (((((Below.refl _ w).alloc (Nat.le_refl _) _).alloc (by simp) _).alloc (by simp; omega) _).alloc (by simp; omega) _).drew.trans (hb1.mono (by simp; omega))
  refine hK.out _ _ (Ext.below_all _ hb1) ?_
  clear hK K; try simp only [Act.put, List.setIfInBounds_toArray, List.set_cons_zero, List.set_cons_succ]
  refine rg_step 5 rfl (by kernel_rfl) (by rfl) (fun K hK => ?_)
  go_simp
  refine (aframe_any _ broad6 (askPk o f t)).mono ?_
  rw [putPk_ask]
  rintro e w2 ⟨A, n, c, rfl, ho, hb2⟩
  have R2 := below_at hb2 R1 (by omega)
  have z2 := hb2.size
  have q2 : Below w.heap.size w w2 := q1.trans (hb2.mono (by omega))
  obtain ⟨k2, f2⟩ := cells_of R2
  clear C0 C1 C2
  refine hK.out _ _ (Ext.below_all _ hb2) ?_
  clear hK K; try simp only [Act.put, List.setIfInBounds_toArray, List.set_cons_zero, List.set_cons_succ]
  refine rg_step 6 rfl (by kernel_rfl) (by rfl) (fun K hK => ?_)
  go_simp
  refine hK.out _ _ ?_ ?_
  · repeat (refine Ext.set ?_ (.inr (Nat.lt_succ_self (w.heap.size + 1 + 1))) _)
    exact Ext.refl _ _
  clear hK K; try simp only [Act.put, List.setIfInBounds_toArray, List.set_cons_zero, List.set_cons_succ]
  refine rg_done (by kernel_rfl) ?_
  go_wp2_with fail
  refine bodyPost_ret (v := frV broad6 o 2054 A n c) (by simp [results, Try.results28, go_sem, k2, broad6, askPk]) rfl ?_
  refine ⟨A, n, c, rfl, ?_, ?_⟩
  · refine OB.lower (H := w1.heap.size) ?_ (by omega)
    repeat (refine OB.setLow ?_ (by simp; omega) _)
    exact ho
  · refine q2.trans ?_
    go_grown

set_option maxRecDepth 100000 in
set_option maxHeartbeats 1000000 in
theorem aans_none (w : World) (o : Mac6) (p : Pk) (hp : p.op ≠ 1) : Calls Try.prog 27 #[macV o, pkV p] w (FrPost w (ansFr o p)) := by
  rw [ansFr, if_neg hp]
  obtain ⟨op, fm, fr, tm, ta⟩ := p
  have b1 : (op != 1) = true := bne_iff_ne.2 hp
  clear hp
  go_enter Try.func27, Try.ntmps27
  go_wp2_with fail
  refine bodyPost_ret (v := .tuple #[frV zero6 zero6 0 none 0 0, .int .i64 1]) (by simp [results, Try.results27, go_sem, zero6]) rfl ?_
  exact ⟨none, 0, 0, rfl, OB.nil_ _ _, by go_grown⟩

set_option maxRecDepth 100000 in
set_option maxHeartbeats 1000000 in
theorem aans_ok (w : World) (o : Mac6) (p : Pk) (hp : p.op = 1) : Calls Try.prog 27 #[macV o, pkV p] w (FrPost w (ansFr o p)) := by
  rw [ansFr, if_pos hp]
  obtain ⟨op, fm, fr, tm, ta⟩ := p
  simp only at hp
  subst hp
  go_enter Try.func27, Try.ntmps27
  go_wp2_with fail
  refine (aframe_any _ fm (ansPk o ⟨1, fm, fr, tm, ta⟩)).mono ?_
  rw [putPk_ans]
  rintro e w1 ⟨A, n, c, rfl, ho, hb⟩
  have R1 : w1.heap[w.heap.size + 1 + 1]? = some (.cells fz 27 (0, 0)) := below_at hb (heap_alloc_at (by simp)) (by simp)
  have z1 := hb.size
  simp at z1
  have q1 : Below w.heap.size w w1 := ((((Below.refl _ w).alloc (Nat.le_refl _) _).alloc (by simp) _).alloc (by simp; omega) _).trans (hb.mono (by simp; omega))
  have R := Lib.hid R1
  clear R1 hb
  go_wp2_with ((with_reducible apply at_store_part 27); (case hx => exact rfl); (case hy => exact rfl); (case hg => exact R.out); (case hle => simp); (case hi => kernel_rfl); (case h1 => kernel_rfl); (intro w2 g2 R2; replace R2 := Lib.hid R2))
  have R2' : w2.heap[w.heap.size + 1 + 1]? = some (.cells (frC fm o 2054 A n c) 27 (0, 0)) := R2.out
  refine bodyPost_cell_tmp (w.heap.size + 1 + 1) _ _ _ rfl rfl R2' Try.underlying27 rfl (by kernel_rfl) rfl ?_
  exact ⟨A, n, c, rfl, (ho.grown g2 (by simp)).lower (by simp; omega), below_grown q1 g2 (by omega) (by omega)⟩
theorem aans_any (w : World) (o : Mac6) (p : Pk) : Calls Try.prog 27 #[macV o, pkV p] w (FrPost w (ansFr o p)) := by
  by_cases hp : p.op = 1
  · exact aans_ok w o p hp
  · exact aans_none w o p hp
end Go.Proofs.Ytjmeehmbccilkaa
