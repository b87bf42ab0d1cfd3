/-
  What the statements tell of a message: awake.
-/
import Derived.Test.YtidohmcneoldcaaDh5
import Derived.Test.YtidohmcneoldcaaDh12
import Derived.Test.YtidohmcneoldcaaBig2
namespace Go.Proofs.Ytidohmcneoldcaa
open Go.RowKit

/-- An option list of one, just made. -/
theorem OS.single {w : World} {g : Nat} {t : TypeId} (o : Op1) (hg : w.heap[g]? = some (.cells #[.int .i64 o.code, .slice o.A o.n o.c] t (0, 0))) (hb : BS w w.heap.size o.A o.n o.c o.body) :
    OS w w.heap.size (some ⟨g, 0, none⟩) 1 1 [o] := by
  refine ⟨rfl, Nat.le_refl _, by simp [maxLen], .inr ⟨g, 0, rfl, heap_lt hg, fun j u hu => ?_⟩, by simpa using hb⟩
  rw [Nat.zero_add, cell_of_row w g j _ _ _ hg]
  simpa [opCells] using hu
theorem BS.step1 {w : World} {n c : Nat} {A : Option Addr} {l : List UInt8} (h : BS w w.heap.size A n c l) (o : Obj) : BS (w.alloc o) (w.alloc o).heap.size A n c l := (h.alloc (Nat.le_refl _) o).more (by simp)
theorem OS.step1 {w : World} {n c : Nat} {A : Option Addr} {l : List Op1} (h : OS w w.heap.size A n c l) (o : Obj) : OS (w.alloc o) (w.alloc o).heap.size A n c l :=
  (h.below ((Below.refl _ w).alloc (Nat.le_refl _) o)).more (by simp)
theorem put_len (h : Hd) (os : List Ob) (o : List UInt8) (hok : okHd h) (ht : typeO os ≠ 0) (hp : putO os = (o, 0)) (hl : o.length ≤ 60) : (putM h os).2 = 0 ∧ (putM h os).1.length = 300 := by
  rw [putM, if_pos ⟨hok, ht⟩, hp, if_pos rfl]
  exact ⟨rfl, padM_short _ (by rw [List.length_append, headM_length]; dsimp only; omega)⟩

def hd1 : Hd := ⟨1, 0, 7, 0, 0, ad0, ad0, ad0, ad0, ⟨2, 0, 0, 0, 0, 0⟩⟩
theorem msC_hd1 (A : Option Addr) (n c : Nat) : #[.int .i64 1, .int .i64 0, .int .u32 7, .int .i64 0, .int .i64 0, .int .u8 0, .int .u8 0, .int .u8 0, .int .u8 0, .int .u8 0, .int .u8 0, .int .u8 0, .int .u8 0,
  .int .u8 0, .int .u8 0, .int .u8 0, .int .u8 0, .int .u8 0, .int .u8 0, .int .u8 0, .int .u8 0, .int .u8 2, .int .u8 0, .int .u8 0, .int .u8 0, .int .u8 0, .int .u8 0, .slice A n c] = msC hd1 A n c := by
  simp [hd1, ad0]

set_option maxRecDepth 100000 in
set_option maxHeartbeats 2000000 in
theorem awake13_any (w : World) : Calls Try.prog 24 #[] w (TruePost w) := by
  have hpl := put_len hd1 [(53, [1])] [53, 1, 1, 255] (by decide) (by decide) (by decide) (by decide)
  have hgp := get_put_m hd1 [(53, [1])] (by decide) (by decide) hpl.1
  obtain ⟨pb, hpb⟩ : ∃ pb, (putM hd1 [(53, [1])]).1 = pb := ⟨_, rfl⟩
  have hpm : putM hd1 [(53, [1])] = (pb, 0) := by rw [← hpb, ← hpl.1]
  rw [hpb] at hgp hpl
  have HPM := Lib.hid hpm
  have HGP := Lib.hid hgp
  have HPL := Lib.hid hpl.2
  have HTY := Lib.hid (show typeO [(53, [1])] = 1 by decide)
  clear hpm hgp hpl hpb
  go_enter Try.func24, Try.ntmps24
  go_upto_region 2 with ((with_reducible apply at_store_new 56); (case hx => exact rfl); (case hy => exact rfl); (case hg => first | rfl | simp); (case hi => kernel_rfl); (case hold => rfl); (case h1 => kernel_rfl))
  rw [msC_hd1]
  have hb1 : BS (w.alloc (.cells #[.int .u8 1] 5)) (w.alloc (.cells #[.int .u8 1] 5)).heap.size (some ⟨w.heap.size, 0, none⟩) 1 1 [1] := BS.block [1] (heap_alloc_new w _) rfl (by simp [maxLen])
  have ho1 := (OS.single (g := w.heap.size + 1) (t := 26) ⟨53, some ⟨w.heap.size, 0, none⟩, 1, 1, [1]⟩ (heap_alloc_at (by simp)) (hb1.step1 (.cells #[.int .i64 53, .slice (some ⟨w.heap.size, 0, none⟩) 1 1] 26))).step1 (.cells (msC hd1 (some ⟨w.heap.size + 1, 0, none⟩) 1 1) 56)
  have q1 : Below w.heap.size w (((w.alloc (.cells #[.int .u8 1] 5)).alloc (.cells #[.int .i64 53, .slice (some ⟨w.heap.size, 0, none⟩) 1 1] 26)).alloc (.cells (msC hd1 (some ⟨w.heap.size + 1, 0, none⟩) 1 1) 56)) :=
    (((Below.refl _ w).alloc (Nat.le_refl _) _).alloc (by simp) _).alloc (by simp; omega) _
  have P1 : (((w.alloc (.cells #[.int .u8 1] 5)).alloc (.cells #[.int .i64 53, .slice (some ⟨w.heap.size, 0, none⟩) 1 1] 26)).alloc (.cells (msC hd1 (some ⟨w.heap.size + 1, 0, none⟩) 1 1) 56)).heap[w.heap.size + 2]? = some (.cells (msC hd1 (some ⟨w.heap.size + 1, 0, none⟩) 1 1) 56 (0, 0)) := heap_alloc_at (by simp)
  clear hb1
  generalize ((w.alloc (.cells #[.int .u8 1] 5)).alloc (.cells #[.int .i64 53, .slice (some ⟨w.heap.size, 0, none⟩) 1 1] 26)).alloc (.cells (msC hd1 (some ⟨w.heap.size + 1, 0, none⟩) 1 1) 56) = w1 at ho1 q1 P1 ⊢
  go_wp2_with ((with_reducible apply at_load_row 56); (case hx => exact rfl); (case hg => exact P1); (case hu => exact Try.underlying56); (case hd => rfl); (case hi => kernel_rfl))
  refine (dput_any w1 hd1 _ 1 1 _ ho1 (by simp) (by simp) (by decide) (by decide)).mono ?_
  rw [show putM hd1 (obs [⟨53, some ⟨w.heap.size, 0, none⟩, 1, 1, [1]⟩]) = (pb, 0) from HPM.out]
  rintro e w2 ⟨A2, n2, c2, rfl, ob2, hb2⟩
  have hn2 : n2 = 300 := ob2.1.trans HPL.out
  subst hn2
  have q2 := q1.trans (hb2.mono q1.size)
  have P2 := below_at hb2 P1 (heap_lt P1)
  have ho2 := (ho1.below hb2).more hb2.size
  clear P1 ho1 hb2
  go_wp2_with fail
  refine (dget_any w2 A2 300 c2 pb ob2.bs (by omega)).mono ?_
  rw [HGP.out]
  rintro e w3 ⟨A3, n3, c3, l3, rfl, ho3, hl3, hb3⟩
  have HL3 := Lib.hid hl3
  have q3 := q2.trans (hb3.mono q2.size)
  have P3 := below_at hb3 P2 (heap_lt P2)
  have ho2' := (ho2.below hb3).more hb3.size
  clear hl3 P2 ho2 hb3 ob2
  go_upto_region 4 with ((with_reducible apply at_store_new 56); (case hx => exact rfl); (case hy => exact rfl); (case hg => first | rfl | simp); (case hi => kernel_rfl); (case hold => rfl); (case h1 => kernel_rfl))
  have P3' : w3.heap[w.heap.size + 1 + 1]? = some (.cells (msC hd1 (some ⟨w.heap.size + 1, 0, none⟩) 1 1) 56 (0, 0)) := P3
  have PM := heap_alloc_of (o := .cells (msC hd1 A3 n3 c3) 56) P3'
  have PN := heap_alloc_new w3 (.cells (msC hd1 A3 n3 c3) 56)
  have om := ho2'.step1 (.cells (msC hd1 A3 n3 c3) 56)
  have on := OS.step1 ho3 (.cells (msC hd1 A3 n3 c3) 56)
  have q4 := q3.alloc q3.size (.cells (msC hd1 A3 n3 c3) 56)
  generalize w3.alloc (.cells (msC hd1 A3 n3 c3) 56) = w4 at PM PN om on q4 ⊢
  clear P3 P3' ho2' ho3 q3
  have r4 : Below w4.heap.size w4 w4.drew := (Below.refl _ _).drew
  have C12 := Ext.at_ (M := fun k => w4.heap.size ≤ k) (w := w4.drew) PN (by have := heap_lt PN; omega)
  have C14 := Ext.at_ (M := fun k => w4.heap.size ≤ k) (w := w4.drew) PM (by have := heap_lt PM; omega)
  have hl3 : l3.length ≤ 1099511627776 := by
    have := congrArg List.length HL3.out
    rw [obs_length] at this
    simp at this
    omega
  refine rg_begin (fun k => w4.heap.size ≤ k) (by kernel_rfl) ?_
  refine rg_take (v := ?_) 0 rfl (by kernel_rfl) (by kernel_rfl) (by kernel_rfl) (fun _ _ _ h => h) (by rfl) ?_ ?_; rotate_left
  · (intro x hx; go_simp; first | done | with_reducible rfl | (rw [if_pos (by omega)]; try with_reducible rfl) | (rw [if_neg (by omega)]; try with_reducible rfl))
  try simp only [Act.put, List.setIfInBounds_toArray, List.set_cons_zero, List.set_cons_succ]
  refine rg_take (v := ?_) 1 rfl (by kernel_rfl) (by kernel_rfl) (by kernel_rfl) (fun _ _ _ h => h) (by rfl) ?_ ?_; rotate_left
  · (intro x hx; go_simp; first | done | with_reducible rfl | (rw [if_pos (by omega)]; try with_reducible rfl) | (rw [if_neg (by omega)]; try with_reducible rfl))
  try simp only [Act.put, List.setIfInBounds_toArray, List.set_cons_zero, List.set_cons_succ]
  refine rg_take (v := ?_) 2 rfl (by kernel_rfl) (by kernel_rfl) (by kernel_rfl) (fun _ _ _ h => h) (by rfl) ?_ ?_; rotate_left
  · (intro x hx; go_simp; first | done | with_reducible rfl | (rw [if_pos (by omega)]; try with_reducible rfl) | (rw [if_neg (by omega)]; try with_reducible rfl))
  try simp only [Act.put, List.setIfInBounds_toArray, List.set_cons_zero, List.set_cons_succ]
  refine rg_take (v := ?_) 3 rfl (by kernel_rfl) (by kernel_rfl) (by kernel_rfl) (fun _ _ _ h => h) (by rfl) ?_ ?_; rotate_left
  · (intro x hx; go_simp; first | done | with_reducible rfl | (rw [if_pos (by omega)]; try with_reducible rfl) | (rw [if_neg (by omega)]; try with_reducible rfl))
  try simp only [Act.put, List.setIfInBounds_toArray, List.set_cons_zero, List.set_cons_succ]
  refine rg_take (v := ?_) 4 rfl (by kernel_rfl) (by kernel_rfl) (by kernel_rfl) (fun _ _ _ h => h) (by rfl) ?_ ?_; rotate_left
  · (intro x hx; go_simp; first | done | with_reducible rfl | (rw [if_pos (by omega)]; try with_reducible rfl) | (rw [if_neg (by omega)]; try with_reducible rfl))
  try simp only [Act.put, List.setIfInBounds_toArray, List.set_cons_zero, List.set_cons_succ]
  refine rg_take (v := ?_) 5 rfl (by kernel_rfl) (by kernel_rfl) (by kernel_rfl) (fun _ _ _ h => h) (by rfl) ?_ ?_; rotate_left
  · (intro x hx; go_simp; first | done | with_reducible rfl | (rw [if_pos (by omega)]; try with_reducible rfl) | (rw [if_neg (by omega)]; try with_reducible rfl))
  try simp only [Act.put, List.setIfInBounds_toArray, List.set_cons_zero, List.set_cons_succ]
  refine rg_take (v := ?_) 6 rfl (by kernel_rfl) (by kernel_rfl) (by kernel_rfl) (fun _ _ _ h => h) (by rfl) ?_ ?_; rotate_left
  · (intro x hx; go_simp; first | done | with_reducible rfl | (rw [if_pos (by omega)]; try with_reducible rfl) | (rw [if_neg (by omega)]; try with_reducible rfl))
  try simp only [Act.put, List.setIfInBounds_toArray, List.set_cons_zero, List.set_cons_succ]
  refine rg_take (v := ?_) 7 rfl (by kernel_rfl) (by kernel_rfl) (by kernel_rfl) (fun _ _ _ h => h) (by rfl) ?_ ?_; rotate_left
  · (intro x hx; go_simp; first | done | with_reducible rfl | (rw [if_pos (by omega)]; try with_reducible rfl) | (rw [if_neg (by omega)]; try with_reducible rfl))
  try simp only [Act.put, List.setIfInBounds_toArray, List.set_cons_zero, List.set_cons_succ]
  refine rg_take (v := ?_) 8 rfl (by kernel_rfl) (by kernel_rfl) (by kernel_rfl) (fun _ _ _ h => h) (by rfl) ?_ ?_; rotate_left
  · (intro x hx; go_simp; first | done | with_reducible rfl | (rw [if_pos (by omega)]; try with_reducible rfl) | (rw [if_neg (by omega)]; try with_reducible rfl))
  try simp only [Act.put, List.setIfInBounds_toArray, List.set_cons_zero, List.set_cons_succ]
  refine rg_take (v := ?_) 9 rfl (by kernel_rfl) (by kernel_rfl) (by kernel_rfl) (fun _ _ _ h => h) (by rfl) ?_ ?_; rotate_left
  · (intro x hx; go_simp; first | done | with_reducible rfl | (rw [if_pos (by omega)]; try with_reducible rfl) | (rw [if_neg (by omega)]; try with_reducible rfl))
  try simp only [Act.put, List.setIfInBounds_toArray, List.set_cons_zero, List.set_cons_succ]
  refine rg_take (v := ?_) 10 rfl (by kernel_rfl) (by kernel_rfl) (by kernel_rfl) (fun _ _ _ h => h) (by rfl) ?_ ?_; rotate_left
  · (intro x hx; go_simp; first | done | with_reducible rfl | (rw [if_pos (by omega)]; try with_reducible rfl) | (rw [if_neg (by omega)]; try with_reducible rfl))
  try simp only [Act.put, List.setIfInBounds_toArray, List.set_cons_zero, List.set_cons_succ]
  refine rg_take (v := ?_) 11 rfl (by kernel_rfl) (by kernel_rfl) (by kernel_rfl) (fun _ _ _ h => h) (by rfl) ?_ ?_; rotate_left
  · (intro x hx; go_simp; first | done | with_reducible rfl | (rw [if_pos (by omega)]; try with_reducible rfl) | (rw [if_neg (by omega)]; try with_reducible rfl))
  try simp only [Act.put, List.setIfInBounds_toArray, List.set_cons_zero, List.set_cons_succ]
  refine rg_take (v := .agg (msC hd1 A3 n3 c3)) 12 rfl (by kernel_rfl) (by kernel_rfl) (by kernel_rfl) (fun _ _ _ h => h) (by rfl) ?_ ?_
  · (intro x hx; apply run_load_big; (case ho => exact rfl); (case hv => exact rfl); (case hg => exact C12 x hx); (case hu => exact Try.underlying56); (case hd => rfl); (case hi => kernel_rfl))
  try simp only [Act.put, List.setIfInBounds_toArray, List.set_cons_zero, List.set_cons_succ]
  refine rg_take (v := .agg (msC hd1 (some ⟨w.heap.size + 1, 0, none⟩) 1 1)) 14 rfl (by kernel_rfl) (by kernel_rfl) (by kernel_rfl) (fun _ _ _ h => h) (by rfl) ?_ ?_
  · (intro x hx; apply run_load_big; (case ho => exact rfl); (case hv => exact rfl); (case hg => exact C14 x hx); (case hu => exact Try.underlying56); (case hd => rfl); (case hi => kernel_rfl))
  try simp only [Act.put, List.setIfInBounds_toArray, List.set_cons_zero, List.set_cons_succ]
  refine rg_step 13 rfl (by kernel_rfl) (by rfl) (fun K hK => ?_)
  go_simp
  refine (own13_any _ hd1 A3 n3 c3 l3 ((on.below r4).more r4.size) hl3).mono ?_
  rintro e w5 ⟨A5, n5, c5, rfl, ho5, hb5⟩
  have r5 := r4.trans (hb5.mono r4.size)
  refine hK.out _ _ (Ext.below_all _ hb5) ?_
  clear hK K; try simp only [Act.put, List.setIfInBounds_toArray, List.set_cons_zero, List.set_cons_succ]
  refine rg_step 15 rfl (by kernel_rfl) (by rfl) (fun K hK => ?_)
  go_simp
  refine (own13_any _ hd1 _ 1 1 _ ((om.below r5).more r5.size) (by simp)).mono ?_
  rintro e w6 ⟨A6, n6, c6, rfl, ho6, hb6⟩
  have r6 := r5.trans (hb6.mono r5.size)
  refine hK.out _ _ (Ext.below_all _ hb6) ?_
  clear hK K; try simp only [Act.put, List.setIfInBounds_toArray, List.set_cons_zero, List.set_cons_succ]
  refine rg_step 16 rfl (by kernel_rfl) (by rfl) (fun K hK => ?_)
  go_simp
  refine (same13_eq _ hd1 A5 n5 c5 l3 ((ho5.below hb6).more hb6.size) A6 n6 c6 _ ho6 hl3 HL3.out).mono ?_
  rintro e w7 ⟨rfl, hb7⟩
  have r7 := r6.trans (hb7.mono r6.size)
  have C19 := Ext.at_ (M := fun k => w4.heap.size ≤ k) (below_at r7 PM (heap_lt PM)) (by have := heap_lt PM; omega)
  refine hK.out _ _ (Ext.below_all _ hb7) ?_
  clear hK K; try simp only [Act.put, List.setIfInBounds_toArray, List.set_cons_zero, List.set_cons_succ]
  refine rg_take (v := ?_) 17 rfl (by kernel_rfl) (by kernel_rfl) (by kernel_rfl) (fun _ _ _ h => h) (by rfl) ?_ ?_; rotate_left
  · (intro x hx; go_simp; first | done | with_reducible rfl | (rw [if_pos (by omega)]; try with_reducible rfl) | (rw [if_neg (by omega)]; try with_reducible rfl))
  try simp only [Act.put, List.setIfInBounds_toArray, List.set_cons_zero, List.set_cons_succ]
  refine rg_take (v := ?_) 18 rfl (by kernel_rfl) (by kernel_rfl) (by kernel_rfl) (fun _ _ _ h => h) (by rfl) ?_ ?_; rotate_left
  · (intro x hx; go_simp; first | done | with_reducible rfl | (rw [if_pos (by omega)]; try with_reducible rfl) | (rw [if_neg (by omega)]; try with_reducible rfl))
  try simp only [Act.put, List.setIfInBounds_toArray, List.set_cons_zero, List.set_cons_succ]
  refine rg_take (v := .agg (msC hd1 (some ⟨w.heap.size + 1, 0, none⟩) 1 1)) 19 rfl (by kernel_rfl) (by kernel_rfl) (by kernel_rfl) (fun _ _ _ h => h) (by rfl) ?_ ?_
  · (intro x hx; apply run_load_big; (case ho => exact rfl); (case hv => exact rfl); (case hg => exact C19 x hx); (case hu => exact Try.underlying56); (case hd => rfl); (case hi => kernel_rfl))
  try simp only [Act.put, List.setIfInBounds_toArray, List.set_cons_zero, List.set_cons_succ]
  refine rg_step 20 rfl (by kernel_rfl) (by rfl) (fun K hK => ?_)
  go_simp
  refine (type_any _ hd1 _ 1 1 _ ((om.below r7).more r7.size) (by simp)).mono ?_
  rw [show typeO (obs [⟨53, some ⟨w.heap.size, 0, none⟩, 1, 1, [1]⟩]) = 1 from HTY.out]
  rintro e w8 ⟨rfl, hb8⟩
  have r8 := r7.trans (hb8.mono r7.size)
  refine hK.out _ _ (Ext.below_all _ hb8) ?_
  clear hK K; try simp only [Act.put, List.setIfInBounds_toArray, List.set_cons_zero, List.set_cons_succ]
  refine rg_take (v := ?_) 21 rfl (by kernel_rfl) (by kernel_rfl) (by kernel_rfl) (fun _ _ _ h => h) (by rfl) ?_ ?_; rotate_left
  · (intro x hx; go_simp; first | done | with_reducible rfl | (rw [if_pos (by omega)]; try with_reducible rfl) | (rw [if_neg (by omega)]; try with_reducible rfl))
  try simp only [Act.put, List.setIfInBounds_toArray, List.set_cons_zero, List.set_cons_succ]
  refine rg_take (v := ?_) 22 rfl (by kernel_rfl) (by kernel_rfl) (by kernel_rfl) (fun _ _ _ h => h) (by rfl) ?_ ?_; rotate_left
  · (intro x hx; go_simp; first | done | with_reducible rfl | (rw [if_pos (by omega)]; try with_reducible rfl) | (rw [if_neg (by omega)]; try with_reducible rfl))
  try simp only [Act.put, List.setIfInBounds_toArray, List.set_cons_zero, List.set_cons_succ]
  refine rg_take (v := ?_) 23 rfl (by kernel_rfl) (by kernel_rfl) (by kernel_rfl) (fun _ _ _ h => h) (by rfl) ?_ ?_; rotate_left
  · (intro x hx; go_simp; first | done | with_reducible rfl | (rw [if_pos (by omega)]; try with_reducible rfl) | (rw [if_neg (by omega)]; try with_reducible rfl))
  try simp only [Act.put, List.setIfInBounds_toArray, List.set_cons_zero, List.set_cons_succ]
  refine rg_done (by kernel_rfl) ?_
  go_wp2_with fail
  go_ret
  exact ⟨rfl, q4.trans (r8.mono q4.size)⟩
end Go.Proofs.Ytidohmcneoldcaa
