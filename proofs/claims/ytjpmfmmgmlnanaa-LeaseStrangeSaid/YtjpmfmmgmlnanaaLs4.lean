/-
  Contract of the client's message, in the other states.
-/
import Derived.Test.YtjpmfmmgmlnanaaLs3
namespace Go.Proofs.Ytjpmfmmgmlnanaa
open Go.RowKit

set_option maxRecDepth 100000 in
set_option maxHeartbeats 4000000 in
theorem cmsg_3 (w : World) (g : Nat) (c : Cl) (h : CB w g c) (hs : ¬ c.state = 1) (hs2 : ¬ c.state = 2) :
    Calls Try.prog 35 #[.pointer (some ⟨g, 0, none⟩)] w (MsgPost w c.msg) := by
  have hm : c.msg = (⟨1, 0, c.xid, 0, 0, c.addr, ad0, ad0, ad0, c.m⟩, [(53, [3])]) := by rw [Cl.msg, if_neg hs, if_neg hs2]
  rw [hm]
  have t1 : (c.state == 1) = false := by rw [beq_eq_false_iff_ne]; exact hs
  have t2 : (c.state == 2) = false := by rw [beq_eq_false_iff_ne]; exact hs2
  clear hm hs hs2
  have gl := heap_lt h
  have hcs := Ext.cells (w := w.drew) (M := fun k => w.heap.size ≤ k) h (by omega)
  have HC := Lib.hid h
  clear h
  go_enter Try.func35, Try.ntmps35
  go_upto_region 1 with fail
  refine rg_begin (fun k => w.heap.size ≤ k) (by kernel_rfl) ?_
  refine rg_take (v := ?_) 0 rfl (by kernel_rfl) (by kernel_rfl) (by kernel_rfl) (fun _ _ _ h => h) (by rfl) ?_ ?_; rotate_left
  · (intro x hx; go_simp; first | done | with_reducible rfl | (rw [if_pos (by omega)]; try with_reducible rfl) | (rw [if_neg (by omega)]; try with_reducible rfl))
  try simp only [Act.put, List.setIfInBounds_toArray, List.set_cons_zero, List.set_cons_succ]
  refine rg_take (v := ?_) 1 rfl (by kernel_rfl) (by kernel_rfl) (by kernel_rfl) (fun _ _ _ h => h) (by rfl) ?_ ?_; rotate_left
  · (intro x hx; go_simp; first | done | with_reducible rfl | (rw [if_pos (by omega)]; try with_reducible rfl) | (rw [if_neg (by omega)]; try with_reducible rfl))
  try simp only [Act.put, List.setIfInBounds_toArray, List.set_cons_zero, List.set_cons_succ]
  refine rg_take (v := ?_) 2 rfl (by kernel_rfl) (by kernel_rfl) (by kernel_rfl) (fun _ _ _ h => h) (by rfl) ?_ ?_; rotate_left
  · (intro x hx; go_simp; first | done | with_reducible rfl | (rw [if_pos (by omega)]; try with_reducible rfl) | (rw [if_neg (by omega)]; try with_reducible rfl))
  try simp only [Act.put, List.setIfInBounds_toArray, List.set_cons_zero, List.set_cons_succ]
  refine rg_take (v := ?_) 3 rfl (by kernel_rfl) (by kernel_rfl) (by kernel_rfl) (fun _ _ _ h => h) (by rfl) ?_ ?_; rotate_left
  · (intro x hx; go_simp; first | done | with_reducible rfl | (rw [if_pos (by omega)]; try with_reducible rfl) | (rw [if_neg (by omega)]; try with_reducible rfl))
  try simp only [Act.put, List.setIfInBounds_toArray, List.set_cons_zero, List.set_cons_succ]
  refine rg_take (v := ?_) 4 rfl (by kernel_rfl) (by kernel_rfl) (by kernel_rfl) (fun _ _ _ h => h) (by rfl) ?_ ?_; rotate_left
  · (intro x hx; go_simp; first | done | with_reducible rfl | (rw [if_pos (by omega)]; try with_reducible rfl) | (rw [if_neg (by omega)]; try with_reducible rfl))
  try simp only [Act.put, List.setIfInBounds_toArray, List.set_cons_zero, List.set_cons_succ]
  refine rg_take (v := ?_) 5 rfl (by kernel_rfl) (by kernel_rfl) (by kernel_rfl) (fun _ _ _ h => h) (by rfl) ?_ ?_; rotate_left
  · (intro x hx; go_simp; first | done | with_reducible rfl | (rw [if_pos (by omega)]; try with_reducible rfl) | (rw [if_neg (by omega)]; try with_reducible rfl))
  try simp only [Act.put, List.setIfInBounds_toArray, List.set_cons_zero, List.set_cons_succ]
  refine rg_take (v := ?_) 6 rfl (by kernel_rfl) (by kernel_rfl) (by kernel_rfl) (fun _ _ _ h => h) (by rfl) ?_ ?_; rotate_left
  · (intro x hx; go_simp; first | done | with_reducible rfl | (rw [if_pos (by omega)]; try with_reducible rfl) | (rw [if_neg (by omega)]; try with_reducible rfl))
  try simp only [Act.put, List.setIfInBounds_toArray, List.set_cons_zero, List.set_cons_succ]
  refine rg_take (v := ?_) 7 rfl (by kernel_rfl) (by kernel_rfl) (by kernel_rfl) (fun _ _ _ h => h) (by rfl) ?_ ?_; rotate_left
  · (intro x hx; go_simp; first | done | with_reducible rfl | (rw [if_pos (by omega)]; try with_reducible rfl) | (rw [if_neg (by omega)]; try with_reducible rfl))
  try simp only [Act.put, List.setIfInBounds_toArray, List.set_cons_zero, List.set_cons_succ]
  refine rg_take (v := ?_) 8 rfl (by kernel_rfl) (by kernel_rfl) (by kernel_rfl) (fun _ _ _ h => h) (by rfl) ?_ ?_; rotate_left
  · (intro x hx; go_simp; first | done | with_reducible rfl | (rw [if_pos (by omega)]; try with_reducible rfl) | (rw [if_neg (by omega)]; try with_reducible rfl))
  try simp only [Act.put, List.setIfInBounds_toArray, List.set_cons_zero, List.set_cons_succ]
  refine rg_step 9 rfl (by kernel_rfl) (by rfl) (fun K hK => ?_)
  go_simp
  refine hK.out _ _ ((Ext.refl _ _).alloc _) ?_
  clear hK K; try simp only [Act.put, List.setIfInBounds_toArray, List.set_cons_zero, List.set_cons_succ]
  refine rg_step 10 rfl (by kernel_rfl) (by rfl) (fun K hK => ?_)
  --RAW
  apply wp_store_part 37
  case ho => exact rfl
  case hx => exact rfl
  case hy => exact rfl
  case hg => exact heap_alloc_at rfl
  case hle => simp
  case hi => kernel_rfl
  case h1 => kernel_rfl
  intro w1 g1 P1
  refine hK.out _ _ (Ext.of_grown g1 fun k hk => by injection hk with e; have e' : w.drew.heap.size = w.heap.size := rfl; omega) ?_
  clear hK K
  refine rg_done (by kernel_rfl) ?_
  have P1' : w1.heap[w.heap.size]? = some (.cells (msC ⟨1, 0, c.xid, 0, 0, ad0, ad0, ad0, ad0, c.m⟩ none 0 0) 37 (0, 0)) := by rw [← msC_cl]; exact P1
  have b1 : Below w.heap.size w w1 := below_grown ((Below.refl _ w).drew.alloc (Nat.le_refl _) _) g1 (by simp) (Nat.le_refl _)
  have C1 : CB w1 g c := below_at b1 HC.out gl
  have l1 := heap_lt P1'
  clear P1 g1 hcs
  go_upto_region 3 with fail
  have s2 : MW w ((w1.alloc (.cells #[.int .u8 1, .int .u8 3, .int .u8 6] 5)).alloc (.cells #[.int .i64 55, .slice (some ⟨w1.heap.size, 0, none⟩) 3 3] 64)) g w.heap.size (w1.heap.size + 1) w1.heap.size c _ :=
    ⟨(b1.alloc b1.size _).alloc (by have := b1.size; simp; omega) _, heap_alloc_of (heap_alloc_of C1), heap_alloc_of (heap_alloc_of P1'), heap_alloc_at (by simp),
      ((BS.block [1, 3, 6] (heap_alloc_new w1 _) rfl (by simp [maxLen])).alloc (Nat.le_refl _) _).more (by simp), gl, Nat.le_refl _, by omega, by omega, by omega, by omega⟩
  generalize (w1.alloc (.cells #[.int .u8 1, .int .u8 3, .int .u8 6] 5)).alloc (.cells #[.int .i64 55, .slice (some ⟨w1.heap.size, 0, none⟩) 3 3] 64) = w2 at s2 ⊢
  obtain ⟨k, hk⟩ : ∃ k, w1.heap.size + 1 = k := ⟨_, rfl⟩
  obtain ⟨r, hr⟩ : ∃ r, w1.heap.size = r := ⟨_, rfl⟩
  obtain ⟨p, hp⟩ : ∃ p, w.heap.size = p := ⟨_, rfl⟩
  have s2' := s2
  rw [hk, hr] at s2'
  try rw [hk]
  try rw [hr]
  clear s2
  have s2 : MW w w2 g p k r c ⟨1, 0, c.xid, 0, 0, ad0, ad0, ad0, ad0, c.m⟩ := by rw [← hp]; exact s2'
  try rw [hp]
  have HPP := Lib.hid hp
  have hpw : w.heap.size ≤ p := by omega
  clear hk hr hp s2' P1' b1 C1 l1
  obtain ⟨hc, _⟩ := cells_of s2.C
  have d6 : w2.cell? ⟨g, 6, none⟩ = some (.int .i64 c.state) := hc 6
  clear hc
  obtain ⟨hc, _⟩ := cells_of s2.C
  have a9 : w2.cell? ⟨g, 9, none⟩ = some (.int .u8 (c.addr.a.toNat : Int)) := hc 9
  have a10 : w2.cell? ⟨g, 10, none⟩ = some (.int .u8 (c.addr.b.toNat : Int)) := hc 10
  have a11 : w2.cell? ⟨g, 11, none⟩ = some (.int .u8 (c.addr.c.toNat : Int)) := hc 11
  have a12 : w2.cell? ⟨g, 12, none⟩ = some (.int .u8 (c.addr.d.toNat : Int)) := hc 12
  clear hc
  go_wp2_with (((with_reducible apply at_store_part 34); (case hx => exact rfl); (case hy => exact rfl); (case hg => exact s2.P); (case hle => simp); (case hi => kernel_rfl); (case h1 => kernel_rfl); (intro w3 g3 P3; replace P3 := Lib.hid P3)); (refine Hid.out ?_))
  refine Lib.hid ?_
  have s3 := s2.put (hd' := ⟨1, 0, c.xid, 0, 0, c.addr, ad0, ad0, ad0, c.m⟩) g3 P3.out
  clear s2 g3 P3 d6 a9 a10 a11 a12
  go_wp2_with fail
  refine (typed_at _ 3 3 rfl).mono ?_
  rintro e w4 ⟨k1, rfl, hk1, bs1, hb4⟩
  have s4 := s3.below hb4
  have P4 := heap_alloc_of (o := .cells #[.int .i64 53, .slice (some ⟨k1, 0, none⟩) 1 1] 64) s4.P
  go_wp2_with (((with_reducible apply at_store_one 35); (case hx => exact rfl); (case hy => exact rfl); (case hg => exact P4); (case hle => simp); (case hv => rfl); (case hi => kernel_rfl); (case h1 => rfl); (intro w5 g5 P5; replace P5 := Lib.hid P5)); (refine Hid.out ?_))
  refine Lib.hid ?_
  replace P5 := P5.out
  have hk1' : p < k1 := by have h1 := s3.P; have h2 := heap_lt h1; omega
  have oa : OA (w4.alloc (.cells #[.int .i64 53, .slice (some ⟨k1, 0, none⟩) 1 1] 64)) (p + 1) (some ⟨w4.heap.size, 0, none⟩) 1 1 [⟨53, some ⟨k1, 0, none⟩, 1, 1, [3]⟩] := by
    refine ⟨OS.made (t := 64) [⟨53, some ⟨k1, 0, none⟩, 1, 1, [3]⟩] (heap_alloc_new w4 _) (by simp [maxLen]) ?_, ?_, ?_⟩
    · simp only [List.mem_cons, List.not_mem_nil, or_false, forall_eq]
      exact (bs1.alloc (Nat.le_refl _) _).more (by simp)
    · intro b o s e
      have := heap_lt s4.P
      injection e with e; injection e with e; omega
    · simp only [List.mem_cons, List.not_mem_nil, or_false, forall_eq]
      exact fun b o s e => by injection e with e; injection e with e; omega
  clear hb4 s3 bs1 P4
  have P5' : w5.heap[p]? = some (.cells (msC ⟨1, 0, c.xid, 0, 0, c.addr, ad0, ad0, ad0, c.m⟩ (some ⟨w4.heap.size, 0, none⟩) 1 1) 37 (0, 0)) := P5
  have z5 := s4.bel.size
  have b5 : Below w.heap.size w w5 := below_grown (s4.bel.alloc z5 _) g5 (by simp; omega) hpw
  have oa5 := oa.grown g5 (by omega)
  clear P5 g5 oa s4
  go_wp2_with ((with_reducible apply at_load_row 37); (case hx => exact rfl); (case hg => exact P5'); (case hu => exact Try.underlying37); (case hd => rfl); (case hi => kernel_rfl))
  go_ret
  exact ⟨_, rfl, ⟨w5.heap.size, _, _, _, [⟨53, some ⟨k1, 0, none⟩, 1, 1, [3]⟩], rfl, b5.size, heap_alloc_new w5 _, (oa5.lower (by omega)).below ((Below.refl _ _).alloc (Nat.le_refl _) _), rfl⟩, b5.alloc b5.size _⟩

set_option maxRecDepth 100000 in
set_option maxHeartbeats 4000000 in
theorem cmsg_2 (w : World) (g : Nat) (c : Cl) (h : CB w g c) (hs : c.state = 2) :
    Calls Try.prog 35 #[.pointer (some ⟨g, 0, none⟩)] w (MsgPost w c.msg) := by
  have hm : c.msg = (⟨1, 0, c.xid, 0, 32768, ad0, ad0, ad0, ad0, c.m⟩, [(53, [3]), (50, c.want.bytes), (54, c.src.bytes), (55, [1, 3, 6])]) := by rw [Cl.msg, if_neg (by omega), if_pos hs]
  rw [hm]
  have HS := Lib.hid hs
  clear hm hs
  have gl := heap_lt h
  have hcs := Ext.cells (w := w.drew) (M := fun k => w.heap.size ≤ k) h (by omega)
  have HC := Lib.hid h
  clear h
  go_enter Try.func35, Try.ntmps35
  go_upto_region 1 with fail
  refine rg_begin (fun k => w.heap.size ≤ k) (by kernel_rfl) ?_
  refine rg_take (v := ?_) 0 rfl (by kernel_rfl) (by kernel_rfl) (by kernel_rfl) (fun _ _ _ h => h) (by rfl) ?_ ?_; rotate_left
  · (intro x hx; go_simp; first | done | with_reducible rfl | (rw [if_pos (by omega)]; try with_reducible rfl) | (rw [if_neg (by omega)]; try with_reducible rfl))
  try simp only [Act.put, List.setIfInBounds_toArray, List.set_cons_zero, List.set_cons_succ]
  refine rg_take (v := ?_) 1 rfl (by kernel_rfl) (by kernel_rfl) (by kernel_rfl) (fun _ _ _ h => h) (by rfl) ?_ ?_; rotate_left
  · (intro x hx; go_simp; first | done | with_reducible rfl | (rw [if_pos (by omega)]; try with_reducible rfl) | (rw [if_neg (by omega)]; try with_reducible rfl))
  try simp only [Act.put, List.setIfInBounds_toArray, List.set_cons_zero, List.set_cons_succ]
  refine rg_take (v := ?_) 2 rfl (by kernel_rfl) (by kernel_rfl) (by kernel_rfl) (fun _ _ _ h => h) (by rfl) ?_ ?_; rotate_left
  · (intro x hx; go_simp; first | done | with_reducible rfl | (rw [if_pos (by omega)]; try with_reducible rfl) | (rw [if_neg (by omega)]; try with_reducible rfl))
  try simp only [Act.put, List.setIfInBounds_toArray, List.set_cons_zero, List.set_cons_succ]
  refine rg_take (v := ?_) 3 rfl (by kernel_rfl) (by kernel_rfl) (by kernel_rfl) (fun _ _ _ h => h) (by rfl) ?_ ?_; rotate_left
  · (intro x hx; go_simp; first | done | with_reducible rfl | (rw [if_pos (by omega)]; try with_reducible rfl) | (rw [if_neg (by omega)]; try with_reducible rfl))
  try simp only [Act.put, List.setIfInBounds_toArray, List.set_cons_zero, List.set_cons_succ]
  refine rg_take (v := ?_) 4 rfl (by kernel_rfl) (by kernel_rfl) (by kernel_rfl) (fun _ _ _ h => h) (by rfl) ?_ ?_; rotate_left
  · (intro x hx; go_simp; first | done | with_reducible rfl | (rw [if_pos (by omega)]; try with_reducible rfl) | (rw [if_neg (by omega)]; try with_reducible rfl))
  try simp only [Act.put, List.setIfInBounds_toArray, List.set_cons_zero, List.set_cons_succ]
  refine rg_take (v := ?_) 5 rfl (by kernel_rfl) (by kernel_rfl) (by kernel_rfl) (fun _ _ _ h => h) (by rfl) ?_ ?_; rotate_left
  · (intro x hx; go_simp; first | done | with_reducible rfl | (rw [if_pos (by omega)]; try with_reducible rfl) | (rw [if_neg (by omega)]; try with_reducible rfl))
  try simp only [Act.put, List.setIfInBounds_toArray, List.set_cons_zero, List.set_cons_succ]
  refine rg_take (v := ?_) 6 rfl (by kernel_rfl) (by kernel_rfl) (by kernel_rfl) (fun _ _ _ h => h) (by rfl) ?_ ?_; rotate_left
  · (intro x hx; go_simp; first | done | with_reducible rfl | (rw [if_pos (by omega)]; try with_reducible rfl) | (rw [if_neg (by omega)]; try with_reducible rfl))
  try simp only [Act.put, List.setIfInBounds_toArray, List.set_cons_zero, List.set_cons_succ]
  refine rg_take (v := ?_) 7 rfl (by kernel_rfl) (by kernel_rfl) (by kernel_rfl) (fun _ _ _ h => h) (by rfl) ?_ ?_; rotate_left
  · (intro x hx; go_simp; first | done | with_reducible rfl | (rw [if_pos (by omega)]; try with_reducible rfl) | (rw [if_neg (by omega)]; try with_reducible rfl))
  try simp only [Act.put, List.setIfInBounds_toArray, List.set_cons_zero, List.set_cons_succ]
  refine rg_take (v := ?_) 8 rfl (by kernel_rfl) (by kernel_rfl) (by kernel_rfl) (fun _ _ _ h => h) (by rfl) ?_ ?_; rotate_left
  · (intro x hx; go_simp; first | done | with_reducible rfl | (rw [if_pos (by omega)]; try with_reducible rfl) | (rw [if_neg (by omega)]; try with_reducible rfl))
  try simp only [Act.put, List.setIfInBounds_toArray, List.set_cons_zero, List.set_cons_succ]
  refine rg_step 9 rfl (by kernel_rfl) (by rfl) (fun K hK => ?_)
  go_simp
  refine hK.out _ _ ((Ext.refl _ _).alloc _) ?_
  clear hK K; try simp only [Act.put, List.setIfInBounds_toArray, List.set_cons_zero, List.set_cons_succ]
  refine rg_step 10 rfl (by kernel_rfl) (by rfl) (fun K hK => ?_)
  --RAW
  apply wp_store_part 37
  case ho => exact rfl
  case hx => exact rfl
  case hy => exact rfl
  case hg => exact heap_alloc_at rfl
  case hle => simp
  case hi => kernel_rfl
  case h1 => kernel_rfl
  intro w1 g1 P1
  refine hK.out _ _ (Ext.of_grown g1 fun k hk => by injection hk with e; have e' : w.drew.heap.size = w.heap.size := rfl; omega) ?_
  clear hK K
  refine rg_done (by kernel_rfl) ?_
  have P1' : w1.heap[w.heap.size]? = some (.cells (msC ⟨1, 0, c.xid, 0, 0, ad0, ad0, ad0, ad0, c.m⟩ none 0 0) 37 (0, 0)) := by rw [← msC_cl]; exact P1
  have b1 : Below w.heap.size w w1 := below_grown ((Below.refl _ w).drew.alloc (Nat.le_refl _) _) g1 (by simp) (Nat.le_refl _)
  have C1 : CB w1 g c := below_at b1 HC.out gl
  have l1 := heap_lt P1'
  clear P1 g1 hcs
  go_upto_region 3 with fail
  have s2 : MW w ((w1.alloc (.cells #[.int .u8 1, .int .u8 3, .int .u8 6] 5)).alloc (.cells #[.int .i64 55, .slice (some ⟨w1.heap.size, 0, none⟩) 3 3] 64)) g w.heap.size (w1.heap.size + 1) w1.heap.size c _ :=
    ⟨(b1.alloc b1.size _).alloc (by have := b1.size; simp; omega) _, heap_alloc_of (heap_alloc_of C1), heap_alloc_of (heap_alloc_of P1'), heap_alloc_at (by simp),
      ((BS.block [1, 3, 6] (heap_alloc_new w1 _) rfl (by simp [maxLen])).alloc (Nat.le_refl _) _).more (by simp), gl, Nat.le_refl _, by omega, by omega, by omega, by omega⟩
  generalize (w1.alloc (.cells #[.int .u8 1, .int .u8 3, .int .u8 6] 5)).alloc (.cells #[.int .i64 55, .slice (some ⟨w1.heap.size, 0, none⟩) 3 3] 64) = w2 at s2 ⊢
  obtain ⟨k, hk⟩ : ∃ k, w1.heap.size + 1 = k := ⟨_, rfl⟩
  obtain ⟨r, hr⟩ : ∃ r, w1.heap.size = r := ⟨_, rfl⟩
  obtain ⟨p, hp⟩ : ∃ p, w.heap.size = p := ⟨_, rfl⟩
  have s2' := s2
  rw [hk, hr] at s2'
  try rw [hk]
  try rw [hr]
  clear s2
  have s2 : MW w w2 g p k r c ⟨1, 0, c.xid, 0, 0, ad0, ad0, ad0, ad0, c.m⟩ := by rw [← hp]; exact s2'
  try rw [hp]
  have HPP := Lib.hid hp
  have hpw : w.heap.size ≤ p := by omega
  clear hk hr hp s2' P1' b1 C1 l1
  obtain ⟨hc, _⟩ := cells_of s2.C
  have d6 : w2.cell? ⟨g, 6, none⟩ = some (.int .i64 c.state) := hc 6
  clear hc
  rw [HS.out] at d6
  go_wp2_with (((with_reducible apply at_store_one 3); (case hx => exact rfl); (case hy => exact rfl); (case hg => exact s2.P); (case hle => simp); (case hv => rfl); (case hi => kernel_rfl); (case h1 => rfl); (intro w3 g3 P3; replace P3 := Lib.hid P3)); (refine Hid.out ?_))
  refine Lib.hid ?_
  have s3 := s2.put (hd' := ⟨1, 0, c.xid, 0, 32768, ad0, ad0, ad0, ad0, c.m⟩) g3 P3.out
  clear s2 g3 P3 d6
  go_upto_region 11 with fail
  have sd := s3.drew
  have kcs := Ext.cells (w := w3.drew) (M := fun x => x = p ∨ w3.heap.size ≤ x) s3.K (by have := heap_lt s3.K; have := s3.pk; omega)
  refine rg_begin (fun x => x = p ∨ w3.heap.size ≤ x) (by kernel_rfl) ?_
  refine rg_take (v := ?_) 1 rfl (by kernel_rfl) (by kernel_rfl) (by kernel_rfl) (fun _ _ _ h => h) (by rfl) ?_ ?_; rotate_left
  · (intro x hx; go_simp; first | done | with_reducible rfl | (rw [if_pos (by omega)]; try with_reducible rfl) | (rw [if_neg (by omega)]; try with_reducible rfl))
  try simp only [Act.put, List.setIfInBounds_toArray, List.set_cons_zero, List.set_cons_succ]
  refine rg_take (v := ?_) 2 rfl (by kernel_rfl) (by kernel_rfl) (by kernel_rfl) (fun _ _ _ h => h) (by rfl) ?_ ?_; rotate_left
  · (intro x hx; go_simp; first | done | with_reducible rfl | (rw [if_pos (by omega)]; try with_reducible rfl) | (rw [if_neg (by omega)]; try with_reducible rfl))
  try simp only [Act.put, List.setIfInBounds_toArray, List.set_cons_zero, List.set_cons_succ]
  refine rg_take (v := ?_) 3 rfl (by kernel_rfl) (by kernel_rfl) (by kernel_rfl) (fun _ _ _ h => h) (by rfl) ?_ ?_; rotate_left
  · (intro x hx; go_simp; first | done | with_reducible rfl | (rw [if_pos (by omega)]; try with_reducible rfl) | (rw [if_neg (by omega)]; try with_reducible rfl))
  try simp only [Act.put, List.setIfInBounds_toArray, List.set_cons_zero, List.set_cons_succ]
  refine rg_take (v := ?_) 4 rfl (by kernel_rfl) (by kernel_rfl) (by kernel_rfl) (fun _ _ _ h => h) (by rfl) ?_ ?_; rotate_left
  · (intro x hx; go_simp; first | done | with_reducible rfl | (rw [if_pos (by omega)]; try with_reducible rfl) | (rw [if_neg (by omega)]; try with_reducible rfl))
  try simp only [Act.put, List.setIfInBounds_toArray, List.set_cons_zero, List.set_cons_succ]
  refine rg_take (v := ?_) 7 rfl (by kernel_rfl) (by kernel_rfl) (by kernel_rfl) (fun _ _ _ h => h) (by rfl) ?_ ?_; rotate_left
  · (intro x hx; go_simp; first | done | with_reducible rfl | (rw [if_pos (by omega)]; try with_reducible rfl) | (rw [if_neg (by omega)]; try with_reducible rfl))
  try simp only [Act.put, List.setIfInBounds_toArray, List.set_cons_zero, List.set_cons_succ]
  refine rg_take (v := ?_) 8 rfl (by kernel_rfl) (by kernel_rfl) (by kernel_rfl) (fun _ _ _ h => h) (by rfl) ?_ ?_; rotate_left
  · (intro x hx; go_simp; first | done | with_reducible rfl | (rw [if_pos (by omega)]; try with_reducible rfl) | (rw [if_neg (by omega)]; try with_reducible rfl))
  try simp only [Act.put, List.setIfInBounds_toArray, List.set_cons_zero, List.set_cons_succ]
  refine rg_take (v := ?_) 9 rfl (by kernel_rfl) (by kernel_rfl) (by kernel_rfl) (fun _ _ _ h => h) (by rfl) ?_ ?_; rotate_left
  · (intro x hx; go_simp; first | done | with_reducible rfl | (rw [if_pos (by omega)]; try with_reducible rfl) | (rw [if_neg (by omega)]; try with_reducible rfl))
  try simp only [Act.put, List.setIfInBounds_toArray, List.set_cons_zero, List.set_cons_succ]
  refine rg_take (v := ?_) 10 rfl (by kernel_rfl) (by kernel_rfl) (by kernel_rfl) (fun _ _ _ h => h) (by rfl) ?_ ?_; rotate_left
  · (intro x hx; go_simp; first | done | with_reducible rfl | (rw [if_pos (by omega)]; try with_reducible rfl) | (rw [if_neg (by omega)]; try with_reducible rfl))
  try simp only [Act.put, List.setIfInBounds_toArray, List.set_cons_zero, List.set_cons_succ]
  refine rg_take (v := ?_) 13 rfl (by kernel_rfl) (by kernel_rfl) (by kernel_rfl) (fun _ _ _ h => h) (by rfl) ?_ ?_; rotate_left
  · (intro x hx; go_simp; first | done | with_reducible rfl | (rw [if_pos (by omega)]; try with_reducible rfl) | (rw [if_neg (by omega)]; try with_reducible rfl))
  try simp only [Act.put, List.setIfInBounds_toArray, List.set_cons_zero, List.set_cons_succ]
  refine rg_step 0 rfl (by kernel_rfl) (by rfl) (fun K hK => ?_)
  go_simp
  refine (typed_at _ 3 3 rfl).mono ?_
  rintro e w4 ⟨k1, rfl, hk1, bs1, hb4⟩
  have s4 := sd.below hb4
  refine hK.out _ _ (Ext.below_all _ hb4) ?_
  clear hK K; try simp only [Act.put, List.setIfInBounds_toArray, List.set_cons_zero, List.set_cons_succ]
  refine rg_step 5 rfl (by kernel_rfl) (by rfl) (fun K hK => ?_)
  go_simp
  refine (clone_any _ g 27 4 4 c.want.bytes ((BS.part (fr := (0, 0)) c.want.bytes 4 s4.C (by simp [bv, Ad4.bytes]) (by simp [Ad4.bytes]) (by simp [maxLen])).more (heap_lt s4.C)) (by simp [Ad4.bytes])).mono ?_
  rintro e w5 ⟨A5, n5, c5, rfl, ho5, hb5⟩
  have s5 := s4.below hb5
  refine hK.out _ _ (Ext.below_all _ hb5) ?_
  clear hK K; try simp only [Act.put, List.setIfInBounds_toArray, List.set_cons_zero, List.set_cons_succ]
  refine rg_take (v := ?_) 6 rfl (by kernel_rfl) (by kernel_rfl) (by kernel_rfl) (fun _ _ _ h => h) (by rfl) ?_ ?_; rotate_left
  · (intro x hx; go_simp; first | done | with_reducible rfl | (rw [if_pos (by omega)]; try with_reducible rfl) | (rw [if_neg (by omega)]; try with_reducible rfl))
  try simp only [Act.put, List.setIfInBounds_toArray, List.set_cons_zero, List.set_cons_succ]
  refine rg_step 11 rfl (by kernel_rfl) (by rfl) (fun K hK => ?_)
  go_simp
  refine (clone_any _ g 31 4 4 c.src.bytes ((BS.part (fr := (0, 0)) c.src.bytes 4 s5.C (by simp [bv, Ad4.bytes]) (by simp [Ad4.bytes]) (by simp [maxLen])).more (heap_lt s5.C)) (by simp [Ad4.bytes])).mono ?_
  rintro e w6 ⟨A6, n6, c6, rfl, ho6, hb6⟩
  have s6 := s5.below hb6
  refine hK.out _ _ (Ext.below_all _ hb6) ?_
  clear hK K; try simp only [Act.put, List.setIfInBounds_toArray, List.set_cons_zero, List.set_cons_succ]
  refine rg_take (v := ?_) 12 rfl (by kernel_rfl) (by kernel_rfl) (by kernel_rfl) (fun _ _ _ h => h) (by rfl) ?_ ?_; rotate_left
  · (intro x hx; go_simp; first | done | with_reducible rfl | (rw [if_pos (by omega)]; try with_reducible rfl) | (rw [if_neg (by omega)]; try with_reducible rfl))
  try simp only [Act.put, List.setIfInBounds_toArray, List.set_cons_zero, List.set_cons_succ]
  refine rg_step 14 rfl (by kernel_rfl) (by rfl) (fun K hK => ?_)
  go_simp
  refine hK.out _ _ ((Ext.refl _ _).alloc _) ?_
  clear hK K; try simp only [Act.put, List.setIfInBounds_toArray, List.set_cons_zero, List.set_cons_succ]
  refine rg_take (v := ?_) 15 rfl (by kernel_rfl) (by kernel_rfl) (by kernel_rfl) (fun _ _ _ h => h) (by rfl) ?_ ?_; rotate_left
  · (intro x hx; go_simp; first | done | with_reducible rfl | (rw [if_pos (by omega)]; try with_reducible rfl) | (rw [if_neg (by omega)]; try with_reducible rfl))
  try simp only [Act.put, List.setIfInBounds_toArray, List.set_cons_zero, List.set_cons_succ]
  refine rg_step 16 rfl (by kernel_rfl) (by rfl) (fun K hK => ?_)
  --RAW
  apply wp_store_one 35
  case ho => exact rfl
  case hx => exact rfl
  case hy => exact rfl
  case hg => exact heap_alloc_of s6.P
  case hle => simp
  case hv => rfl
  case hi => kernel_rfl
  case h1 => rfl
  intro w7 g5 P5
  refine hK.out _ _ (Ext.of_grown g5 fun x hx => by injection hx with e; exact .inl e.symm) ?_
  clear hK K
  refine rg_done (by kernel_rfl) ?_
  have hk1' : p < k1 := by have h1 := s3.P; have h2 := heap_lt h1; have h3 : w3.drew.heap.size = w3.heap.size := rfl; omega
  have p4 := heap_lt s4.P
  have p5 := heap_lt s5.P
  have oa : OA (w6.alloc (.cells #[.int .i64 53, .slice (some ⟨k1, 0, none⟩) 1 1, .int .i64 50, .slice A5 n5 c5, .int .i64 54, .slice A6 n6 c6, .int .i64 55, .slice (some ⟨r, 0, none⟩) 3 3] 64)) (p + 1) (some ⟨w6.heap.size, 0, none⟩) 4 4 [⟨53, some ⟨k1, 0, none⟩, 1, 1, [3]⟩, ⟨50, A5, n5, c5, c.want.bytes⟩, ⟨54, A6, n6, c6, c.src.bytes⟩, ⟨55, some ⟨r, 0, none⟩, 3, 3, [1, 3, 6]⟩] := by
    refine ⟨OS.made (t := 64) [⟨53, some ⟨k1, 0, none⟩, 1, 1, [3]⟩, ⟨50, A5, n5, c5, c.want.bytes⟩, ⟨54, A6, n6, c6, c.src.bytes⟩, ⟨55, some ⟨r, 0, none⟩, 3, 3, [1, 3, 6]⟩] (heap_alloc_new w6 _) (by simp [maxLen]) ?_, ?_, ?_⟩
    · simp only [List.mem_cons, List.not_mem_nil, or_false, forall_eq_or_imp, forall_eq]
      exact ⟨((((bs1.below hb5).more hb5.size).below hb6).more hb6.size |>.alloc (Nat.le_refl _) _).more (by simp), (((ho5.bs.below hb6).more hb6.size).alloc (Nat.le_refl _) _).more (by simp), (ho6.bs.alloc (Nat.le_refl _) _).more (by simp), (s6.Q.alloc (Nat.le_refl _) _).more (by simp)⟩
    · intro b o s e
      have := heap_lt s6.P
      injection e with e; injection e with e; omega
    · simp only [List.mem_cons, List.not_mem_nil, or_false, forall_eq_or_imp, forall_eq]
      have := s6.rp
      exact ⟨fun b o s e => by injection e with e; injection e with e; omega, fun b o s e => by have := ho5.above b o s e; omega, fun b o s e => by have := ho6.above b o s e; omega, fun b o s e => by injection e with e; injection e with e; omega⟩
  clear hb4 sd s3 bs1 kcs s4 s5 ho5 ho6 hb5 hb6 p4 p5
  have P5' : w7.heap[p]? = some (.cells (msC ⟨1, 0, c.xid, 0, 32768, ad0, ad0, ad0, ad0, c.m⟩ (some ⟨w6.heap.size, 0, none⟩) 4 4) 37 (0, 0)) := P5
  have z5 := s6.bel.size
  have b5 : Below w.heap.size w w7 := below_grown (s6.bel.alloc z5 _) g5 (by simp; omega) hpw
  have oa5 := oa.grown g5 (by omega)
  clear P5 g5 oa s6
  go_wp2_with ((with_reducible apply at_load_row 37); (case hx => exact rfl); (case hg => exact P5'); (case hu => exact Try.underlying37); (case hd => rfl); (case hi => kernel_rfl))
  go_ret
  exact ⟨_, rfl, ⟨w7.heap.size, _, _, _, [⟨53, some ⟨k1, 0, none⟩, 1, 1, [3]⟩, ⟨50, A5, n5, c5, c.want.bytes⟩, ⟨54, A6, n6, c6, c.src.bytes⟩, ⟨55, some ⟨r, 0, none⟩, 3, 3, [1, 3, 6]⟩], rfl, b5.size, heap_alloc_new w7 _, (oa5.lower (by omega)).below ((Below.refl _ _).alloc (Nat.le_refl _) _), rfl⟩, b5.alloc b5.size _⟩

theorem cmsg_any (w : World) (g : Nat) (c : Cl) (h : CB w g c) :
    Calls Try.prog 35 #[.pointer (some ⟨g, 0, none⟩)] w (MsgPost w c.msg) := by
  by_cases h1 : c.state = 1
  · exact cmsg_1 w g c h h1
  · by_cases h2 : c.state = 2
    · exact cmsg_2 w g c h h2
    · exact cmsg_3 w g c h h1 h2
end Go.Proofs.Ytjpmfmmgmlnanaa
