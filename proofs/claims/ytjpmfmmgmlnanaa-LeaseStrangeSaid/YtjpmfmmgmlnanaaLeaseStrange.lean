/-
  The walk of the statement LeaseStrange.
-/
import Derived.Test.YtjpmfmmgmlnanaaLs18
namespace Go.Proofs.Ytjpmfmmgmlnanaa
open Go.RowKit

/-- Is a message more than is asked of? -/
def greatM (l : List Op1) : Prop := 20 < l.length ∨ ∃ o ∈ l, 1300 < o.body.length
def GreatPost (w : World) (l : List Op1) (e : Ending) (w' : World) : Prop := ∃ b : Bool, e = .returned (.bool b) ∧ (b = true ↔ greatM l) ∧ Below w.heap.size w w'
theorem GreatPost.mk {w w' : World} {l : List Op1} (b : Bool) (h : b = true ↔ greatM l) (hb : Below w.heap.size w w') : GreatPost w l (.returned (.bool b)) w' := ⟨b, rfl, h, hb⟩
set_option maxRecDepth 100000 in
set_option maxHeartbeats 1000000 in
theorem great16_any (w : World) (h : Hd) (A : Option Addr) (n c : Nat) (l : List Op1) (ho : OS w w.heap.size A n c l) :
    Calls Try.prog 18 #[msV h A n c] w (GreatPost w l) := by
  have hn := ho.1
  have HN := Lib.hid hn
  have b0 : Below w.heap.size w (w.alloc (.cells (msC h A n c) 37)) := (Below.refl _ w).alloc (Nat.le_refl _) _
  have P1 : (w.alloc (.cells (msC h A n c) 37)).heap[w.heap.size]? = some (.cells (msC h A n c) 37 (0, 0)) := heap_alloc_new w _
  have oa := (ho.below b0).more b0.size
  have hnm : n ≤ 9223372036854775807 := by have h1 := ho.2.1; have h2 := ho.2.2.1; unfold maxLen at h2; omega
  clear ho hn
  go_enter Try.func18, Try.ntmps18
  go_upto_region 1 with fail
  generalize w.alloc (.cells (msC h A n c) 37) = w1 at b0 P1 oa ⊢
  obtain ⟨g, hg⟩ : ∃ g, w.heap.size = g := ⟨_, rfl⟩
  rw [hg] at P1 ⊢
  have HG := Lib.hid hg
  clear hg
  obtain ⟨hc1, _⟩ := cells_of P1
  clear P1
  by_cases h20 : 20 < n
  · have HB := Lib.hid (show greatM l from .inl (by have := HN.out; omega))
    go_wp2_with fail
    go_ret
    exact GreatPost.mk true (iff_of_true rfl HB.out) b0
  · go_wp2_with fail
    go_loop [3] (fun i => ∃ j : Nat, i = .int .i64 j ∧ j ≤ n ∧ ∀ o ∈ l.take j, ¬ 1300 < o.body.length) (fun i => n - (intOf i).toNat)
    case atStart => exact ⟨0, rfl, Nat.zero_le _, by simp⟩
    case round =>
      obtain ⟨j, rfl, hj, hall⟩ := hrel
      have HA := Lib.hid hall
      clear hall
      by_cases hlt : j < n
      · obtain ⟨b, o, x, rfl, hbl, hx, h0, h1, hbs⟩ := oa.at_ hlt
        have hjn : (0 : Int) ≤ (j : Int) ∧ (j : Int) < (n : Int) := ⟨by omega, by omega⟩
        have HX := Lib.hid hx
        have HBL := Lib.hid hbs.1
        clear hx hbs
        by_cases hbig : 1300 < x.n
        · have HB := Lib.hid (show greatM l from .inr ⟨x, List.mem_of_getElem? HX.out, by have := HBL.out; omega⟩)
          go_wp2_with fail
          go_ret
          exact GreatPost.mk true (iff_of_true rfl HB.out) b0
        · go_wp2_with fail
          go_round
          case rel =>
            refine ⟨j + 1, by go_num, by omega, ?_⟩
            rw [List.take_add_one, HX.out]
            intro o ho
            rcases List.mem_append.1 ho with ho | ho
            · exact HA.out o ho
            · simp at ho
              subst ho
              have := HBL.out
              omega
          case measure => simp [intOf]; omega
      · have HB := Lib.hid (show ¬ greatM l by
          rintro (h1 | ⟨o, ho, hb⟩)
          · have := HN.out; omega
          · refine HA.out o ?_ hb
            rwa [List.take_of_length_le (by have := HN.out; omega)])
        go_wp2_with fail
        go_ret
        exact GreatPost.mk false (iff_of_false (by simp) HB.out) b0

set_option maxRecDepth 100000 in
set_option maxHeartbeats 4000000 in
theorem leaseStrange_yes (w : World) (m : Hd) (A : Option Addr) (n c : Nat) (l : List Op1) (h : OS w w.heap.size A n c l) (draw : Int) (hy : greatM l ∨ (m.op = 2 ∧ m.xid = draw ∧ m.mac = lmac)) :
    Calls Try.prog 5 #[msV m A n c, .int .u32 draw] w (TruePost w) := by
  have b0 : Below w.heap.size w (w.alloc (.cells (msC m A n c) 37)) := (Below.refl _ w).alloc (Nat.le_refl _) _
  have P0 : (w.alloc (.cells (msC m A n c) 37)).heap[w.heap.size]? = some (.cells (msC m A n c) 37 (0, 0)) := heap_alloc_new w _
  have o0 := (h.below b0).more b0.size
  have HY := Lib.hid hy
  clear h hy
  go_enter Try.func5, Try.ntmps5
  go_upto_region 1 with fail
  generalize w.alloc (.cells (msC m A n c) 37) = w1 at b0 P0 o0 ⊢
  obtain ⟨x, hx⟩ : ∃ x, w.heap.size = x := ⟨_, rfl⟩
  rw [hx] at P0 ⊢
  have HX := Lib.hid hx
  clear hx
  go_wp2_with fail
  refine (awake16_any w1).mono ?_
  rintro e w2 ⟨rfl, q2⟩
  have P2 := below_at q2 P0 (heap_lt P0)
  have o2 := (o0.below q2).more q2.size
  have b2 := b0.trans (q2.mono b0.size)
  clear P0 o0 q2 b0
  go_upto_region 3 with fail
  have r0 : Below w2.heap.size w2 w2.drew := (Below.refl _ _).drew
  have C0 := Ext.at_ (M := fun _ => False) (w := w2.drew) P2 (fun h => h)
  by_cases hg : greatM l
  · have HG := Lib.hid hg
    clear hg
    refine rg_begin (fun _ => False) (by kernel_rfl) ?_
    refine rg_take (v := .agg (msC m A n c)) 0 rfl (by kernel_rfl) (by kernel_rfl) (by kernel_rfl) (fun _ _ _ h => h) (by rfl) ?_ ?_
    · (intro x hx; apply run_load_big; (case ho => exact rfl); (case hv => exact rfl); (case hg => exact C0 x hx); (case hu => exact Try.underlying37); (case hd => rfl); (case hi => kernel_rfl))
    try simp only [Act.put, List.setIfInBounds_toArray, List.set_cons_zero, List.set_cons_succ]
    refine rg_step 1 rfl (by kernel_rfl) (by rfl) (fun K hK => ?_)
    go_simp
    refine (great16_any _ m A n c l ((o2.below r0).more r0.size)).mono ?_
    rintro e w3 ⟨bb, rfl, hb, q3⟩
    obtain rfl : bb = true := hb.2 HG.out
    clear hb
    have r3 := r0.trans (q3.mono r0.size)
    refine hK.out _ _ (Ext.below_all _ q3) ?_
    clear hK K; try simp only [Act.put, List.setIfInBounds_toArray, List.set_cons_zero, List.set_cons_succ]
    refine rg_take (v := ?_) 2 rfl (by kernel_rfl) (by kernel_rfl) (by kernel_rfl) (fun _ _ _ h => h) (by rfl) ?_ ?_; rotate_left
    · (intro x hx; go_simp; first | done | with_reducible rfl | (rw [if_pos (by omega)]; try with_reducible rfl) | (rw [if_neg (by omega)]; try with_reducible rfl))
    try simp only [Act.put, List.setIfInBounds_toArray, List.set_cons_zero, List.set_cons_succ]
    refine rg_skip 3 rfl (by kernel_rfl) (by kernel_rfl) (by kernel_rfl) (fun _ _ _ h => h) (by rfl) ?_; simp only [Act.put, List.setIfInBounds_toArray, List.set_cons_zero, List.set_cons_succ]
    refine rg_skip 4 rfl (by kernel_rfl) (by kernel_rfl) (by kernel_rfl) (fun _ _ _ h => h) (by rfl) ?_; simp only [Act.put, List.setIfInBounds_toArray, List.set_cons_zero, List.set_cons_succ]
    refine rg_skip 5 rfl (by kernel_rfl) (by kernel_rfl) (by kernel_rfl) (fun _ _ _ h => h) (by rfl) ?_; simp only [Act.put, List.setIfInBounds_toArray, List.set_cons_zero, List.set_cons_succ]
    refine rg_skip 6 rfl (by kernel_rfl) (by kernel_rfl) (by kernel_rfl) (fun _ _ _ h => h) (by rfl) ?_; simp only [Act.put, List.setIfInBounds_toArray, List.set_cons_zero, List.set_cons_succ]
    refine rg_skip 7 rfl (by kernel_rfl) (by kernel_rfl) (by kernel_rfl) (fun _ _ _ h => h) (by rfl) ?_; simp only [Act.put, List.setIfInBounds_toArray, List.set_cons_zero, List.set_cons_succ]
    refine rg_skip 8 rfl (by kernel_rfl) (by kernel_rfl) (by kernel_rfl) (fun _ _ _ h => h) (by rfl) ?_; simp only [Act.put, List.setIfInBounds_toArray, List.set_cons_zero, List.set_cons_succ]
    refine rg_skip 9 rfl (by kernel_rfl) (by kernel_rfl) (by kernel_rfl) (fun _ _ _ h => h) (by rfl) ?_; simp only [Act.put, List.setIfInBounds_toArray, List.set_cons_zero, List.set_cons_succ]
    refine rg_skip 10 rfl (by kernel_rfl) (by kernel_rfl) (by kernel_rfl) (fun _ _ _ h => h) (by rfl) ?_; simp only [Act.put, List.setIfInBounds_toArray, List.set_cons_zero, List.set_cons_succ]
    refine rg_skip 11 rfl (by kernel_rfl) (by kernel_rfl) (by kernel_rfl) (fun _ _ _ h => h) (by rfl) ?_; simp only [Act.put, List.setIfInBounds_toArray, List.set_cons_zero, List.set_cons_succ]
    refine rg_skip 12 rfl (by kernel_rfl) (by kernel_rfl) (by kernel_rfl) (fun _ _ _ h => h) (by rfl) ?_; simp only [Act.put, List.setIfInBounds_toArray, List.set_cons_zero, List.set_cons_succ]
    refine rg_skip 13 rfl (by kernel_rfl) (by kernel_rfl) (by kernel_rfl) (fun _ _ _ h => h) (by rfl) ?_; simp only [Act.put, List.setIfInBounds_toArray, List.set_cons_zero, List.set_cons_succ]
    refine rg_skip 14 rfl (by kernel_rfl) (by kernel_rfl) (by kernel_rfl) (fun _ _ _ h => h) (by rfl) ?_; simp only [Act.put, List.setIfInBounds_toArray, List.set_cons_zero, List.set_cons_succ]
    refine rg_skip 15 rfl (by kernel_rfl) (by kernel_rfl) (by kernel_rfl) (fun _ _ _ h => h) (by rfl) ?_; simp only [Act.put, List.setIfInBounds_toArray, List.set_cons_zero, List.set_cons_succ]
    refine rg_skip 16 rfl (by kernel_rfl) (by kernel_rfl) (by kernel_rfl) (fun _ _ _ h => h) (by rfl) ?_; simp only [Act.put, List.setIfInBounds_toArray, List.set_cons_zero, List.set_cons_succ]
    refine rg_skip 17 rfl (by kernel_rfl) (by kernel_rfl) (by kernel_rfl) (fun _ _ _ h => h) (by rfl) ?_; simp only [Act.put, List.setIfInBounds_toArray, List.set_cons_zero, List.set_cons_succ]
    refine rg_take (v := ?_) 18 rfl (by kernel_rfl) (by kernel_rfl) (by kernel_rfl) (fun _ _ _ h => h) (by rfl) ?_ ?_; rotate_left
    · (intro x hx; go_simp; first | done | with_reducible rfl | (rw [if_pos (by omega)]; try with_reducible rfl) | (rw [if_neg (by omega)]; try with_reducible rfl))
    try simp only [Act.put, List.setIfInBounds_toArray, List.set_cons_zero, List.set_cons_succ]
    refine rg_done (by kernel_rfl) ?_
    go_wp2_with fail
    go_ret
    exact ⟨rfl, b2.trans (r3.mono b2.size)⟩
  · have HG := Lib.hid hg
    obtain ⟨h1, h2, h3⟩ := HY.out.resolve_left hg
    clear hg
    have t1 : (m.op == 2) = true := by rw [h1]; rfl
    have t2 : (m.xid == draw) = true := by rw [h2]; exact beq_self_eq_true _
    have em := fun w => run_eql_mac w m.mac lmac
    rw [(meq_iff _ _).2 h3] at em
    clear h1 h2 h3
    refine rg_begin (fun _ => False) (by kernel_rfl) ?_
    refine rg_take (v := .agg (msC m A n c)) 0 rfl (by kernel_rfl) (by kernel_rfl) (by kernel_rfl) (fun _ _ _ h => h) (by rfl) ?_ ?_
    · (intro x hx; apply run_load_big; (case ho => exact rfl); (case hv => exact rfl); (case hg => exact C0 x hx); (case hu => exact Try.underlying37); (case hd => rfl); (case hi => kernel_rfl))
    try simp only [Act.put, List.setIfInBounds_toArray, List.set_cons_zero, List.set_cons_succ]
    refine rg_step 1 rfl (by kernel_rfl) (by rfl) (fun K hK => ?_)
    go_simp
    refine (great16_any _ m A n c l ((o2.below r0).more r0.size)).mono ?_
    rintro e w3 ⟨bb, rfl, hb, q3⟩
    obtain rfl : bb = false := by
      rcases bb with _ | _
      · rfl
      · exact absurd (hb.1 rfl) HG.out
    clear hb
    have r3 := r0.trans (q3.mono r0.size)
    have f3 := Ext.cells (w := w3) (M := fun _ => False) (below_at r3 P2 (heap_lt P2)) (fun h => h)
    refine hK.out _ _ (Ext.below_all _ q3) ?_
    clear hK K; try simp only [Act.put, List.setIfInBounds_toArray, List.set_cons_zero, List.set_cons_succ]
    refine rg_take (v := ?_) 2 rfl (by kernel_rfl) (by kernel_rfl) (by kernel_rfl) (fun _ _ _ h => h) (by rfl) ?_ ?_; rotate_left
    · (intro x hx; go_simp; first | done | with_reducible rfl | (rw [if_pos (by omega)]; try with_reducible rfl) | (rw [if_neg (by omega)]; try with_reducible rfl))
    try simp only [Act.put, List.setIfInBounds_toArray, List.set_cons_zero, List.set_cons_succ]
    refine rg_take (v := ?_) 3 rfl (by kernel_rfl) (by kernel_rfl) (by kernel_rfl) (fun _ _ _ h => h) (by rfl) ?_ ?_; rotate_left
    · (intro x hx; go_simp; first | done | with_reducible rfl | (rw [if_pos (by omega)]; try with_reducible rfl) | (rw [if_neg (by omega)]; try with_reducible rfl))
    try simp only [Act.put, List.setIfInBounds_toArray, List.set_cons_zero, List.set_cons_succ]
    refine rg_take (v := ?_) 4 rfl (by kernel_rfl) (by kernel_rfl) (by kernel_rfl) (fun _ _ _ h => h) (by rfl) ?_ ?_; rotate_left
    · (intro x hx; go_simp; first | done | with_reducible rfl | (rw [if_pos (by omega)]; try with_reducible rfl) | (rw [if_neg (by omega)]; try with_reducible rfl))
    try simp only [Act.put, List.setIfInBounds_toArray, List.set_cons_zero, List.set_cons_succ]
    refine rg_take (v := ?_) 5 rfl (by kernel_rfl) (by kernel_rfl) (by kernel_rfl) (fun _ _ _ h => h) (by rfl) ?_ ?_; rotate_left
    · (intro x hx; go_simp; first | done | with_reducible rfl | (rw [if_pos (by omega)]; try with_reducible rfl) | (rw [if_neg (by omega)]; try with_reducible rfl))
    try simp only [Act.put, List.setIfInBounds_toArray, List.set_cons_zero, List.set_cons_succ]
    refine rg_take (v := ?_) 6 rfl (by kernel_rfl) (by kernel_rfl) (by kernel_rfl) (fun _ _ _ h => h) (by rfl) ?_ ?_; rotate_left
    · (intro x hx; go_simp; first | done | with_reducible rfl | (rw [if_pos (by omega)]; try with_reducible rfl) | (rw [if_neg (by omega)]; try with_reducible rfl))
    try simp only [Act.put, List.setIfInBounds_toArray, List.set_cons_zero, List.set_cons_succ]
    refine rg_take (v := ?_) 7 rfl (by kernel_rfl) (by kernel_rfl) (by kernel_rfl) (fun _ _ _ h => h) (by rfl) ?_ ?_; rotate_left
    · (intro x hx; go_simp; first | done | with_reducible rfl | (rw [if_pos (by omega)]; try with_reducible rfl) | (rw [if_neg (by omega)]; try with_reducible rfl))
    try simp only [Act.put, List.setIfInBounds_toArray, List.set_cons_zero, List.set_cons_succ]
    refine rg_take (v := ?_) 8 rfl (by kernel_rfl) (by kernel_rfl) (by kernel_rfl) (fun _ _ _ h => h) (by rfl) ?_ ?_; rotate_left
    · (intro x hx; go_simp; first | done | with_reducible rfl | (rw [if_pos (by omega)]; try with_reducible rfl) | (rw [if_neg (by omega)]; try with_reducible rfl))
    try simp only [Act.put, List.setIfInBounds_toArray, List.set_cons_zero, List.set_cons_succ]
    refine rg_take (v := ?_) 9 rfl (by kernel_rfl) (by kernel_rfl) (by kernel_rfl) (fun _ _ _ h => h) (by rfl) ?_ ?_; rotate_left
    · (intro x hx; go_simp; first | done | with_reducible rfl | (rw [if_pos (by omega)]; try with_reducible rfl) | (rw [if_neg (by omega)]; try with_reducible rfl))
    try simp only [Act.put, List.setIfInBounds_toArray, List.set_cons_zero, List.set_cons_succ]
    refine rg_take (v := ?_) 10 rfl (by kernel_rfl) (by kernel_rfl) (by kernel_rfl) (fun _ _ _ h => h) (by rfl) ?_ ?_; rotate_left
    · (intro x hx; go_simp; first | done | with_reducible rfl | (rw [if_pos (by omega)]; try with_reducible rfl) | (rw [if_neg (by omega)]; try with_reducible rfl))
    try simp only [Act.put, List.setIfInBounds_toArray, List.set_cons_zero, List.set_cons_succ]
    refine rg_take (v := ?_) 11 rfl (by kernel_rfl) (by kernel_rfl) (by kernel_rfl) (fun _ _ _ h => h) (by rfl) ?_ ?_; rotate_left
    · (intro x hx; go_simp; first | done | with_reducible rfl | (rw [if_pos (by omega)]; try with_reducible rfl) | (rw [if_neg (by omega)]; try with_reducible rfl))
    try simp only [Act.put, List.setIfInBounds_toArray, List.set_cons_zero, List.set_cons_succ]
    refine rg_take (v := ?_) 12 rfl (by kernel_rfl) (by kernel_rfl) (by kernel_rfl) (fun _ _ _ h => h) (by rfl) ?_ ?_; rotate_left
    · (intro x hx; go_simp; first | done | with_reducible rfl | (rw [if_pos (by omega)]; try with_reducible rfl) | (rw [if_neg (by omega)]; try with_reducible rfl))
    try simp only [Act.put, List.setIfInBounds_toArray, List.set_cons_zero, List.set_cons_succ]
    refine rg_take (v := ?_) 13 rfl (by kernel_rfl) (by kernel_rfl) (by kernel_rfl) (fun _ _ _ h => h) (by rfl) ?_ ?_; rotate_left
    · (intro x hx; go_simp; first | done | with_reducible rfl | (rw [if_pos (by omega)]; try with_reducible rfl) | (rw [if_neg (by omega)]; try with_reducible rfl))
    try simp only [Act.put, List.setIfInBounds_toArray, List.set_cons_zero, List.set_cons_succ]
    refine rg_take (v := ?_) 14 rfl (by kernel_rfl) (by kernel_rfl) (by kernel_rfl) (fun _ _ _ h => h) (by rfl) ?_ ?_; rotate_left
    · (intro x hx; go_simp; first | done | with_reducible rfl | (rw [if_pos (by omega)]; try with_reducible rfl) | (rw [if_neg (by omega)]; try with_reducible rfl))
    try simp only [Act.put, List.setIfInBounds_toArray, List.set_cons_zero, List.set_cons_succ]
    refine rg_step 15 rfl (by kernel_rfl) (by rfl) (fun K hK => ?_)
    go_simp
    refine (lmac_any _).mono ?_
    rintro e w4 ⟨rfl, q4⟩
    have r4 := r3.trans (q4.mono r3.size)
    refine hK.out _ _ (Ext.below_all _ q4) ?_
    clear hK K; try simp only [Act.put, List.setIfInBounds_toArray, List.set_cons_zero, List.set_cons_succ]
    refine rg_take (v := ?_) 16 rfl (by kernel_rfl) (by kernel_rfl) (by kernel_rfl) (fun _ _ _ h => h) (by rfl) ?_ ?_; rotate_left
    · (intro x hx; go_simp; first | done | with_reducible rfl | (rw [if_pos (by omega)]; try with_reducible rfl) | (rw [if_neg (by omega)]; try with_reducible rfl))
    try simp only [Act.put, List.setIfInBounds_toArray, List.set_cons_zero, List.set_cons_succ]
    refine rg_take (v := ?_) 17 rfl (by kernel_rfl) (by kernel_rfl) (by kernel_rfl) (fun _ _ _ h => h) (by rfl) ?_ ?_; rotate_left
    · (intro x hx; go_simp; first | done | with_reducible rfl | (rw [if_pos (by omega)]; try with_reducible rfl) | (rw [if_neg (by omega)]; try with_reducible rfl))
    try simp only [Act.put, List.setIfInBounds_toArray, List.set_cons_zero, List.set_cons_succ]
    refine rg_take (v := ?_) 18 rfl (by kernel_rfl) (by kernel_rfl) (by kernel_rfl) (fun _ _ _ h => h) (by rfl) ?_ ?_; rotate_left
    · (intro x hx; go_simp; first | done | with_reducible rfl | (rw [if_pos (by omega)]; try with_reducible rfl) | (rw [if_neg (by omega)]; try with_reducible rfl))
    try simp only [Act.put, List.setIfInBounds_toArray, List.set_cons_zero, List.set_cons_succ]
    refine rg_done (by kernel_rfl) ?_
    clear f3 em C0
    go_wp2_with fail
    go_ret
    exact ⟨rfl, b2.trans (r4.mono b2.size)⟩

set_option maxRecDepth 100000 in
set_option maxHeartbeats 4000000 in
theorem leaseStrange_no (w : World) (m : Hd) (A : Option Addr) (n c : Nat) (l : List Op1) (h : OS w w.heap.size A n c l) (draw : Int) (d0 : 0 ≤ draw) (d1 : draw < 4294967296) (hn : ¬ greatM l) (hm : ¬ (m.op = 2 ∧ m.xid = draw ∧ m.mac = lmac)) :
    Calls Try.prog 5 #[msV m A n c, .int .u32 draw] w (TruePost w) := by
  have b0 : Below w.heap.size w (w.alloc (.cells (msC m A n c) 37)) := (Below.refl _ w).alloc (Nat.le_refl _) _
  have P0 : (w.alloc (.cells (msC m A n c) 37)).heap[w.heap.size]? = some (.cells (msC m A n c) 37 (0, 0)) := heap_alloc_new w _
  have o0 := (h.below b0).more b0.size
  have HM := Lib.hid hm
  have HG := Lib.hid hn
  clear h hm hn
  go_enter Try.func5, Try.ntmps5
  go_upto_region 1 with fail
  generalize w.alloc (.cells (msC m A n c) 37) = w1 at b0 P0 o0 ⊢
  obtain ⟨x, hx⟩ : ∃ x, w.heap.size = x := ⟨_, rfl⟩
  rw [hx] at P0 ⊢
  have HX := Lib.hid hx
  clear hx
  go_wp2_with fail
  refine (awake16_any w1).mono ?_
  rintro e w2 ⟨rfl, q2⟩
  have P2 := below_at q2 P0 (heap_lt P0)
  have o2 := (o0.below q2).more q2.size
  have b2 := b0.trans (q2.mono b0.size)
  clear P0 o0 q2 b0
  go_upto_region 3 with fail
  go_cut [31] (fun v wx => v = .bool false ∧ Below w2.heap.size w2 wx)
  case first =>
    have r0 : Below w2.heap.size w2 w2.drew := (Below.refl _ _).drew
    have C0 := Ext.at_ (M := fun _ => False) (w := w2.drew) P2 (fun h => h)
    by_cases h1 : m.op = 2
    · have t1 : (m.op == 2) = true := by rw [h1]; rfl
      by_cases h2 : m.xid = draw
      · have t2 : (m.xid == draw) = true := by rw [h2]; exact beq_self_eq_true _
        have h3 : m.mac ≠ lmac := fun e => HM.out ⟨h1, h2, e⟩
        have em := fun w => run_eql_mac w m.mac lmac
        rw [show meq m.mac lmac = false from Bool.eq_false_iff.2 fun e => h3 ((meq_iff _ _).1 e)] at em
        clear h1 h2 h3
        refine rg_begin (fun _ => False) (by kernel_rfl) ?_
        refine rg_take (v := .agg (msC m A n c)) 0 rfl (by kernel_rfl) (by kernel_rfl) (by kernel_rfl) (fun _ _ _ h => h) (by rfl) ?_ ?_
        · (intro x hx; apply run_load_big; (case ho => exact rfl); (case hv => exact rfl); (case hg => exact C0 x hx); (case hu => exact Try.underlying37); (case hd => rfl); (case hi => kernel_rfl))
        try simp only [Act.put, List.setIfInBounds_toArray, List.set_cons_zero, List.set_cons_succ]
        refine rg_step 1 rfl (by kernel_rfl) (by rfl) (fun K hK => ?_)
        go_simp
        refine (great16_any _ m A n c l ((o2.below r0).more r0.size)).mono ?_
        rintro e w3 ⟨bb, rfl, hb, q3⟩
        obtain rfl : bb = false := by
          rcases bb with _ | _
          · rfl
          · exact absurd (hb.1 rfl) HG.out
        clear hb
        have r3 := r0.trans (q3.mono r0.size)
        have f3 := Ext.cells (w := w3) (M := fun _ => False) (below_at r3 P2 (heap_lt P2)) (fun h => h)
        refine hK.out _ _ (Ext.below_all _ q3) ?_
        clear hK K; try simp only [Act.put, List.setIfInBounds_toArray, List.set_cons_zero, List.set_cons_succ]
        refine rg_take (v := ?_) 2 rfl (by kernel_rfl) (by kernel_rfl) (by kernel_rfl) (fun _ _ _ h => h) (by rfl) ?_ ?_; rotate_left
        · (intro x hx; go_simp; first | done | with_reducible rfl | (rw [if_pos (by omega)]; try with_reducible rfl) | (rw [if_neg (by omega)]; try with_reducible rfl))
        try simp only [Act.put, List.setIfInBounds_toArray, List.set_cons_zero, List.set_cons_succ]
        refine rg_take (v := ?_) 3 rfl (by kernel_rfl) (by kernel_rfl) (by kernel_rfl) (fun _ _ _ h => h) (by rfl) ?_ ?_; rotate_left
        · (intro x hx; go_simp; first | done | with_reducible rfl | (rw [if_pos (by omega)]; try with_reducible rfl) | (rw [if_neg (by omega)]; try with_reducible rfl))
        try simp only [Act.put, List.setIfInBounds_toArray, List.set_cons_zero, List.set_cons_succ]
        refine rg_take (v := ?_) 4 rfl (by kernel_rfl) (by kernel_rfl) (by kernel_rfl) (fun _ _ _ h => h) (by rfl) ?_ ?_; rotate_left
        · (intro x hx; go_simp; first | done | with_reducible rfl | (rw [if_pos (by omega)]; try with_reducible rfl) | (rw [if_neg (by omega)]; try with_reducible rfl))
        try simp only [Act.put, List.setIfInBounds_toArray, List.set_cons_zero, List.set_cons_succ]
        refine rg_take (v := ?_) 5 rfl (by kernel_rfl) (by kernel_rfl) (by kernel_rfl) (fun _ _ _ h => h) (by rfl) ?_ ?_; rotate_left
        · (intro x hx; go_simp; first | done | with_reducible rfl | (rw [if_pos (by omega)]; try with_reducible rfl) | (rw [if_neg (by omega)]; try with_reducible rfl))
        try simp only [Act.put, List.setIfInBounds_toArray, List.set_cons_zero, List.set_cons_succ]
        refine rg_take (v := ?_) 6 rfl (by kernel_rfl) (by kernel_rfl) (by kernel_rfl) (fun _ _ _ h => h) (by rfl) ?_ ?_; rotate_left
        · (intro x hx; go_simp; first | done | with_reducible rfl | (rw [if_pos (by omega)]; try with_reducible rfl) | (rw [if_neg (by omega)]; try with_reducible rfl))
        try simp only [Act.put, List.setIfInBounds_toArray, List.set_cons_zero, List.set_cons_succ]
        refine rg_take (v := ?_) 7 rfl (by kernel_rfl) (by kernel_rfl) (by kernel_rfl) (fun _ _ _ h => h) (by rfl) ?_ ?_; rotate_left
        · (intro x hx; go_simp; first | done | with_reducible rfl | (rw [if_pos (by omega)]; try with_reducible rfl) | (rw [if_neg (by omega)]; try with_reducible rfl))
        try simp only [Act.put, List.setIfInBounds_toArray, List.set_cons_zero, List.set_cons_succ]
        refine rg_take (v := ?_) 8 rfl (by kernel_rfl) (by kernel_rfl) (by kernel_rfl) (fun _ _ _ h => h) (by rfl) ?_ ?_; rotate_left
        · (intro x hx; go_simp; first | done | with_reducible rfl | (rw [if_pos (by omega)]; try with_reducible rfl) | (rw [if_neg (by omega)]; try with_reducible rfl))
        try simp only [Act.put, List.setIfInBounds_toArray, List.set_cons_zero, List.set_cons_succ]
        refine rg_take (v := ?_) 9 rfl (by kernel_rfl) (by kernel_rfl) (by kernel_rfl) (fun _ _ _ h => h) (by rfl) ?_ ?_; rotate_left
        · (intro x hx; go_simp; first | done | with_reducible rfl | (rw [if_pos (by omega)]; try with_reducible rfl) | (rw [if_neg (by omega)]; try with_reducible rfl))
        try simp only [Act.put, List.setIfInBounds_toArray, List.set_cons_zero, List.set_cons_succ]
        refine rg_take (v := ?_) 10 rfl (by kernel_rfl) (by kernel_rfl) (by kernel_rfl) (fun _ _ _ h => h) (by rfl) ?_ ?_; rotate_left
        · (intro x hx; go_simp; first | done | with_reducible rfl | (rw [if_pos (by omega)]; try with_reducible rfl) | (rw [if_neg (by omega)]; try with_reducible rfl))
        try simp only [Act.put, List.setIfInBounds_toArray, List.set_cons_zero, List.set_cons_succ]
        refine rg_take (v := ?_) 11 rfl (by kernel_rfl) (by kernel_rfl) (by kernel_rfl) (fun _ _ _ h => h) (by rfl) ?_ ?_; rotate_left
        · (intro x hx; go_simp; first | done | with_reducible rfl | (rw [if_pos (by omega)]; try with_reducible rfl) | (rw [if_neg (by omega)]; try with_reducible rfl))
        try simp only [Act.put, List.setIfInBounds_toArray, List.set_cons_zero, List.set_cons_succ]
        refine rg_take (v := ?_) 12 rfl (by kernel_rfl) (by kernel_rfl) (by kernel_rfl) (fun _ _ _ h => h) (by rfl) ?_ ?_; rotate_left
        · (intro x hx; go_simp; first | done | with_reducible rfl | (rw [if_pos (by omega)]; try with_reducible rfl) | (rw [if_neg (by omega)]; try with_reducible rfl))
        try simp only [Act.put, List.setIfInBounds_toArray, List.set_cons_zero, List.set_cons_succ]
        refine rg_take (v := ?_) 13 rfl (by kernel_rfl) (by kernel_rfl) (by kernel_rfl) (fun _ _ _ h => h) (by rfl) ?_ ?_; rotate_left
        · (intro x hx; go_simp; first | done | with_reducible rfl | (rw [if_pos (by omega)]; try with_reducible rfl) | (rw [if_neg (by omega)]; try with_reducible rfl))
        try simp only [Act.put, List.setIfInBounds_toArray, List.set_cons_zero, List.set_cons_succ]
        refine rg_take (v := ?_) 14 rfl (by kernel_rfl) (by kernel_rfl) (by kernel_rfl) (fun _ _ _ h => h) (by rfl) ?_ ?_; rotate_left
        · (intro x hx; go_simp; first | done | with_reducible rfl | (rw [if_pos (by omega)]; try with_reducible rfl) | (rw [if_neg (by omega)]; try with_reducible rfl))
        try simp only [Act.put, List.setIfInBounds_toArray, List.set_cons_zero, List.set_cons_succ]
        refine rg_step 15 rfl (by kernel_rfl) (by rfl) (fun K hK => ?_)
        go_simp
        refine (lmac_any _).mono ?_
        rintro e w4 ⟨rfl, q4⟩
        have r4 := r3.trans (q4.mono r3.size)
        refine hK.out _ _ (Ext.below_all _ q4) ?_
        clear hK K; try simp only [Act.put, List.setIfInBounds_toArray, List.set_cons_zero, List.set_cons_succ]
        refine rg_take (v := ?_) 16 rfl (by kernel_rfl) (by kernel_rfl) (by kernel_rfl) (fun _ _ _ h => h) (by rfl) ?_ ?_; rotate_left
        · (intro x hx; go_simp; first | done | with_reducible rfl | (rw [if_pos (by omega)]; try with_reducible rfl) | (rw [if_neg (by omega)]; try with_reducible rfl))
        try simp only [Act.put, List.setIfInBounds_toArray, List.set_cons_zero, List.set_cons_succ]
        refine rg_take (v := ?_) 17 rfl (by kernel_rfl) (by kernel_rfl) (by kernel_rfl) (fun _ _ _ h => h) (by rfl) ?_ ?_; rotate_left
        · (intro x hx; go_simp; first | done | with_reducible rfl | (rw [if_pos (by omega)]; try with_reducible rfl) | (rw [if_neg (by omega)]; try with_reducible rfl))
        try simp only [Act.put, List.setIfInBounds_toArray, List.set_cons_zero, List.set_cons_succ]
        refine rg_take (v := ?_) 18 rfl (by kernel_rfl) (by kernel_rfl) (by kernel_rfl) (fun _ _ _ h => h) (by rfl) ?_ ?_; rotate_left
        · (intro x hx; go_simp; first | done | with_reducible rfl | (rw [if_pos (by omega)]; try with_reducible rfl) | (rw [if_neg (by omega)]; try with_reducible rfl))
        try simp only [Act.put, List.setIfInBounds_toArray, List.set_cons_zero, List.set_cons_succ]
        refine rg_done (by kernel_rfl) ?_
        clear f3 em C0
        go_wp2_with fail
        go_meet
        exact ⟨rfl, r4⟩
      · have t2 : (m.xid == draw) = false := by rw [beq_eq_false_iff_ne]; exact h2
        clear h1 h2
        refine rg_begin (fun _ => False) (by kernel_rfl) ?_
        refine rg_take (v := .agg (msC m A n c)) 0 rfl (by kernel_rfl) (by kernel_rfl) (by kernel_rfl) (fun _ _ _ h => h) (by rfl) ?_ ?_
        · (intro x hx; apply run_load_big; (case ho => exact rfl); (case hv => exact rfl); (case hg => exact C0 x hx); (case hu => exact Try.underlying37); (case hd => rfl); (case hi => kernel_rfl))
        try simp only [Act.put, List.setIfInBounds_toArray, List.set_cons_zero, List.set_cons_succ]
        refine rg_step 1 rfl (by kernel_rfl) (by rfl) (fun K hK => ?_)
        go_simp
        refine (great16_any _ m A n c l ((o2.below r0).more r0.size)).mono ?_
        rintro e w3 ⟨bb, rfl, hb, q3⟩
        obtain rfl : bb = false := by
          rcases bb with _ | _
          · rfl
          · exact absurd (hb.1 rfl) HG.out
        clear hb
        have r3 := r0.trans (q3.mono r0.size)
        have f3 := Ext.cells (w := w3) (M := fun _ => False) (below_at r3 P2 (heap_lt P2)) (fun h => h)
        refine hK.out _ _ (Ext.below_all _ q3) ?_
        clear hK K; try simp only [Act.put, List.setIfInBounds_toArray, List.set_cons_zero, List.set_cons_succ]
        refine rg_take (v := ?_) 2 rfl (by kernel_rfl) (by kernel_rfl) (by kernel_rfl) (fun _ _ _ h => h) (by rfl) ?_ ?_; rotate_left
        · (intro x hx; go_simp; first | done | with_reducible rfl | (rw [if_pos (by omega)]; try with_reducible rfl) | (rw [if_neg (by omega)]; try with_reducible rfl))
        try simp only [Act.put, List.setIfInBounds_toArray, List.set_cons_zero, List.set_cons_succ]
        refine rg_take (v := ?_) 3 rfl (by kernel_rfl) (by kernel_rfl) (by kernel_rfl) (fun _ _ _ h => h) (by rfl) ?_ ?_; rotate_left
        · (intro x hx; go_simp; first | done | with_reducible rfl | (rw [if_pos (by omega)]; try with_reducible rfl) | (rw [if_neg (by omega)]; try with_reducible rfl))
        try simp only [Act.put, List.setIfInBounds_toArray, List.set_cons_zero, List.set_cons_succ]
        refine rg_take (v := ?_) 4 rfl (by kernel_rfl) (by kernel_rfl) (by kernel_rfl) (fun _ _ _ h => h) (by rfl) ?_ ?_; rotate_left
        · (intro x hx; go_simp; first | done | with_reducible rfl | (rw [if_pos (by omega)]; try with_reducible rfl) | (rw [if_neg (by omega)]; try with_reducible rfl))
        try simp only [Act.put, List.setIfInBounds_toArray, List.set_cons_zero, List.set_cons_succ]
        refine rg_take (v := ?_) 5 rfl (by kernel_rfl) (by kernel_rfl) (by kernel_rfl) (fun _ _ _ h => h) (by rfl) ?_ ?_; rotate_left
        · (intro x hx; go_simp; first | done | with_reducible rfl | (rw [if_pos (by omega)]; try with_reducible rfl) | (rw [if_neg (by omega)]; try with_reducible rfl))
        try simp only [Act.put, List.setIfInBounds_toArray, List.set_cons_zero, List.set_cons_succ]
        refine rg_take (v := ?_) 6 rfl (by kernel_rfl) (by kernel_rfl) (by kernel_rfl) (fun _ _ _ h => h) (by rfl) ?_ ?_; rotate_left
        · (intro x hx; go_simp; first | done | with_reducible rfl | (rw [if_pos (by omega)]; try with_reducible rfl) | (rw [if_neg (by omega)]; try with_reducible rfl))
        try simp only [Act.put, List.setIfInBounds_toArray, List.set_cons_zero, List.set_cons_succ]
        refine rg_take (v := ?_) 7 rfl (by kernel_rfl) (by kernel_rfl) (by kernel_rfl) (fun _ _ _ h => h) (by rfl) ?_ ?_; rotate_left
        · (intro x hx; go_simp; first | done | with_reducible rfl | (rw [if_pos (by omega)]; try with_reducible rfl) | (rw [if_neg (by omega)]; try with_reducible rfl))
        try simp only [Act.put, List.setIfInBounds_toArray, List.set_cons_zero, List.set_cons_succ]
        refine rg_take (v := ?_) 8 rfl (by kernel_rfl) (by kernel_rfl) (by kernel_rfl) (fun _ _ _ h => h) (by rfl) ?_ ?_; rotate_left
        · (intro x hx; go_simp; first | done | with_reducible rfl | (rw [if_pos (by omega)]; try with_reducible rfl) | (rw [if_neg (by omega)]; try with_reducible rfl))
        try simp only [Act.put, List.setIfInBounds_toArray, List.set_cons_zero, List.set_cons_succ]
        refine rg_take (v := ?_) 9 rfl (by kernel_rfl) (by kernel_rfl) (by kernel_rfl) (fun _ _ _ h => h) (by rfl) ?_ ?_; rotate_left
        · (intro x hx; go_simp; first | done | with_reducible rfl | (rw [if_pos (by omega)]; try with_reducible rfl) | (rw [if_neg (by omega)]; try with_reducible rfl))
        try simp only [Act.put, List.setIfInBounds_toArray, List.set_cons_zero, List.set_cons_succ]
        refine rg_take (v := ?_) 10 rfl (by kernel_rfl) (by kernel_rfl) (by kernel_rfl) (fun _ _ _ h => h) (by rfl) ?_ ?_; rotate_left
        · (intro x hx; go_simp; first | done | with_reducible rfl | (rw [if_pos (by omega)]; try with_reducible rfl) | (rw [if_neg (by omega)]; try with_reducible rfl))
        try simp only [Act.put, List.setIfInBounds_toArray, List.set_cons_zero, List.set_cons_succ]
        refine rg_take (v := ?_) 11 rfl (by kernel_rfl) (by kernel_rfl) (by kernel_rfl) (fun _ _ _ h => h) (by rfl) ?_ ?_; rotate_left
        · (intro x hx; go_simp; first | done | with_reducible rfl | (rw [if_pos (by omega)]; try with_reducible rfl) | (rw [if_neg (by omega)]; try with_reducible rfl))
        try simp only [Act.put, List.setIfInBounds_toArray, List.set_cons_zero, List.set_cons_succ]
        refine rg_take (v := ?_) 12 rfl (by kernel_rfl) (by kernel_rfl) (by kernel_rfl) (fun _ _ _ h => h) (by rfl) ?_ ?_; rotate_left
        · (intro x hx; go_simp; first | done | with_reducible rfl | (rw [if_pos (by omega)]; try with_reducible rfl) | (rw [if_neg (by omega)]; try with_reducible rfl))
        try simp only [Act.put, List.setIfInBounds_toArray, List.set_cons_zero, List.set_cons_succ]
        refine rg_skip 13 rfl (by kernel_rfl) (by kernel_rfl) (by kernel_rfl) (fun _ _ _ h => h) (by rfl) ?_; simp only [Act.put, List.setIfInBounds_toArray, List.set_cons_zero, List.set_cons_succ]
        refine rg_skip 14 rfl (by kernel_rfl) (by kernel_rfl) (by kernel_rfl) (fun _ _ _ h => h) (by rfl) ?_; simp only [Act.put, List.setIfInBounds_toArray, List.set_cons_zero, List.set_cons_succ]
        refine rg_skip 15 rfl (by kernel_rfl) (by kernel_rfl) (by kernel_rfl) (fun _ _ _ h => h) (by rfl) ?_; simp only [Act.put, List.setIfInBounds_toArray, List.set_cons_zero, List.set_cons_succ]
        refine rg_skip 16 rfl (by kernel_rfl) (by kernel_rfl) (by kernel_rfl) (fun _ _ _ h => h) (by rfl) ?_; simp only [Act.put, List.setIfInBounds_toArray, List.set_cons_zero, List.set_cons_succ]
        refine rg_take (v := ?_) 17 rfl (by kernel_rfl) (by kernel_rfl) (by kernel_rfl) (fun _ _ _ h => h) (by rfl) ?_ ?_; rotate_left
        · (intro x hx; go_simp; first | done | with_reducible rfl | (rw [if_pos (by omega)]; try with_reducible rfl) | (rw [if_neg (by omega)]; try with_reducible rfl))
        try simp only [Act.put, List.setIfInBounds_toArray, List.set_cons_zero, List.set_cons_succ]
        refine rg_take (v := ?_) 18 rfl (by kernel_rfl) (by kernel_rfl) (by kernel_rfl) (fun _ _ _ h => h) (by rfl) ?_ ?_; rotate_left
        · (intro x hx; go_simp; first | done | with_reducible rfl | (rw [if_pos (by omega)]; try with_reducible rfl) | (rw [if_neg (by omega)]; try with_reducible rfl))
        try simp only [Act.put, List.setIfInBounds_toArray, List.set_cons_zero, List.set_cons_succ]
        refine rg_done (by kernel_rfl) ?_
        clear f3 C0
        go_wp2_with fail
        go_meet
        exact ⟨rfl, r3⟩
    · have t1 : (m.op == 2) = false := by rw [beq_eq_false_iff_ne]; exact h1
      clear h1
      refine rg_begin (fun _ => False) (by kernel_rfl) ?_
      refine rg_take (v := .agg (msC m A n c)) 0 rfl (by kernel_rfl) (by kernel_rfl) (by kernel_rfl) (fun _ _ _ h => h) (by rfl) ?_ ?_
      · (intro x hx; apply run_load_big; (case ho => exact rfl); (case hv => exact rfl); (case hg => exact C0 x hx); (case hu => exact Try.underlying37); (case hd => rfl); (case hi => kernel_rfl))
      try simp only [Act.put, List.setIfInBounds_toArray, List.set_cons_zero, List.set_cons_succ]
      refine rg_step 1 rfl (by kernel_rfl) (by rfl) (fun K hK => ?_)
      go_simp
      refine (great16_any _ m A n c l ((o2.below r0).more r0.size)).mono ?_
      rintro e w3 ⟨bb, rfl, hb, q3⟩
      obtain rfl : bb = false := by
        rcases bb with _ | _
        · rfl
        · exact absurd (hb.1 rfl) HG.out
      clear hb
      have r3 := r0.trans (q3.mono r0.size)
      have f3 := Ext.cells (w := w3) (M := fun _ => False) (below_at r3 P2 (heap_lt P2)) (fun h => h)
      refine hK.out _ _ (Ext.below_all _ q3) ?_
      clear hK K; try simp only [Act.put, List.setIfInBounds_toArray, List.set_cons_zero, List.set_cons_succ]
      refine rg_take (v := ?_) 2 rfl (by kernel_rfl) (by kernel_rfl) (by kernel_rfl) (fun _ _ _ h => h) (by rfl) ?_ ?_; rotate_left
      · (intro x hx; go_simp; first | done | with_reducible rfl | (rw [if_pos (by omega)]; try with_reducible rfl) | (rw [if_neg (by omega)]; try with_reducible rfl))
      try simp only [Act.put, List.setIfInBounds_toArray, List.set_cons_zero, List.set_cons_succ]
      refine rg_take (v := ?_) 3 rfl (by kernel_rfl) (by kernel_rfl) (by kernel_rfl) (fun _ _ _ h => h) (by rfl) ?_ ?_; rotate_left
      · (intro x hx; go_simp; first | done | with_reducible rfl | (rw [if_pos (by omega)]; try with_reducible rfl) | (rw [if_neg (by omega)]; try with_reducible rfl))
      try simp only [Act.put, List.setIfInBounds_toArray, List.set_cons_zero, List.set_cons_succ]
      refine rg_take (v := ?_) 4 rfl (by kernel_rfl) (by kernel_rfl) (by kernel_rfl) (fun _ _ _ h => h) (by rfl) ?_ ?_; rotate_left
      · (intro x hx; go_simp; first | done | with_reducible rfl | (rw [if_pos (by omega)]; try with_reducible rfl) | (rw [if_neg (by omega)]; try with_reducible rfl))
      try simp only [Act.put, List.setIfInBounds_toArray, List.set_cons_zero, List.set_cons_succ]
      refine rg_take (v := ?_) 5 rfl (by kernel_rfl) (by kernel_rfl) (by kernel_rfl) (fun _ _ _ h => h) (by rfl) ?_ ?_; rotate_left
      · (intro x hx; go_simp; first | done | with_reducible rfl | (rw [if_pos (by omega)]; try with_reducible rfl) | (rw [if_neg (by omega)]; try with_reducible rfl))
      try simp only [Act.put, List.setIfInBounds_toArray, List.set_cons_zero, List.set_cons_succ]
      refine rg_take (v := ?_) 6 rfl (by kernel_rfl) (by kernel_rfl) (by kernel_rfl) (fun _ _ _ h => h) (by rfl) ?_ ?_; rotate_left
      · (intro x hx; go_simp; first | done | with_reducible rfl | (rw [if_pos (by omega)]; try with_reducible rfl) | (rw [if_neg (by omega)]; try with_reducible rfl))
      try simp only [Act.put, List.setIfInBounds_toArray, List.set_cons_zero, List.set_cons_succ]
      refine rg_skip 7 rfl (by kernel_rfl) (by kernel_rfl) (by kernel_rfl) (fun _ _ _ h => h) (by rfl) ?_; simp only [Act.put, List.setIfInBounds_toArray, List.set_cons_zero, List.set_cons_succ]
      refine rg_skip 8 rfl (by kernel_rfl) (by kernel_rfl) (by kernel_rfl) (fun _ _ _ h => h) (by rfl) ?_; simp only [Act.put, List.setIfInBounds_toArray, List.set_cons_zero, List.set_cons_succ]
      refine rg_skip 9 rfl (by kernel_rfl) (by kernel_rfl) (by kernel_rfl) (fun _ _ _ h => h) (by rfl) ?_; simp only [Act.put, List.setIfInBounds_toArray, List.set_cons_zero, List.set_cons_succ]
      refine rg_skip 10 rfl (by kernel_rfl) (by kernel_rfl) (by kernel_rfl) (fun _ _ _ h => h) (by rfl) ?_; simp only [Act.put, List.setIfInBounds_toArray, List.set_cons_zero, List.set_cons_succ]
      refine rg_take (v := ?_) 11 rfl (by kernel_rfl) (by kernel_rfl) (by kernel_rfl) (fun _ _ _ h => h) (by rfl) ?_ ?_; rotate_left
      · (intro x hx; go_simp; first | done | with_reducible rfl | (rw [if_pos (by omega)]; try with_reducible rfl) | (rw [if_neg (by omega)]; try with_reducible rfl))
      try simp only [Act.put, List.setIfInBounds_toArray, List.set_cons_zero, List.set_cons_succ]
      refine rg_take (v := ?_) 12 rfl (by kernel_rfl) (by kernel_rfl) (by kernel_rfl) (fun _ _ _ h => h) (by rfl) ?_ ?_; rotate_left
      · (intro x hx; go_simp; first | done | with_reducible rfl | (rw [if_pos (by omega)]; try with_reducible rfl) | (rw [if_neg (by omega)]; try with_reducible rfl))
      try simp only [Act.put, List.setIfInBounds_toArray, List.set_cons_zero, List.set_cons_succ]
      refine rg_skip 13 rfl (by kernel_rfl) (by kernel_rfl) (by kernel_rfl) (fun _ _ _ h => h) (by rfl) ?_; simp only [Act.put, List.setIfInBounds_toArray, List.set_cons_zero, List.set_cons_succ]
      refine rg_skip 14 rfl (by kernel_rfl) (by kernel_rfl) (by kernel_rfl) (fun _ _ _ h => h) (by rfl) ?_; simp only [Act.put, List.setIfInBounds_toArray, List.set_cons_zero, List.set_cons_succ]
      refine rg_skip 15 rfl (by kernel_rfl) (by kernel_rfl) (by kernel_rfl) (fun _ _ _ h => h) (by rfl) ?_; simp only [Act.put, List.setIfInBounds_toArray, List.set_cons_zero, List.set_cons_succ]
      refine rg_skip 16 rfl (by kernel_rfl) (by kernel_rfl) (by kernel_rfl) (fun _ _ _ h => h) (by rfl) ?_; simp only [Act.put, List.setIfInBounds_toArray, List.set_cons_zero, List.set_cons_succ]
      refine rg_take (v := ?_) 17 rfl (by kernel_rfl) (by kernel_rfl) (by kernel_rfl) (fun _ _ _ h => h) (by rfl) ?_ ?_; rotate_left
      · (intro x hx; go_simp; first | done | with_reducible rfl | (rw [if_pos (by omega)]; try with_reducible rfl) | (rw [if_neg (by omega)]; try with_reducible rfl))
      try simp only [Act.put, List.setIfInBounds_toArray, List.set_cons_zero, List.set_cons_succ]
      refine rg_take (v := ?_) 18 rfl (by kernel_rfl) (by kernel_rfl) (by kernel_rfl) (fun _ _ _ h => h) (by rfl) ?_ ?_; rotate_left
      · (intro x hx; go_simp; first | done | with_reducible rfl | (rw [if_pos (by omega)]; try with_reducible rfl) | (rw [if_neg (by omega)]; try with_reducible rfl))
      try simp only [Act.put, List.setIfInBounds_toArray, List.set_cons_zero, List.set_cons_succ]
      refine rg_done (by kernel_rfl) ?_
      clear f3 C0
      go_wp2_with fail
      go_meet
      exact ⟨rfl, r3⟩
  case rest =>
    obtain ⟨rfl, qc⟩ := hcut
    have P3 := below_at qc P2 (heap_lt P2)
    have b3 := b2.trans (qc.mono b2.size)
    clear P2 o2 qc b2
    go_wp2_with fail
    refine (lmac_any wc).mono ?_
    rintro e w4 ⟨rfl, q4⟩
    have P4 := below_at q4 P3 (heap_lt P3)
    have b4 := b3.trans (q4.mono b3.size)
    have xw : x < w4.heap.size := heap_lt P4
    clear P3 q4 b3
    go_wp2_with fail
    refine (cnew_any w4 lmac).mono ?_
    rintro e w5 ⟨g, rfl, hg1, C5, q5⟩
    have G0 : w.heap.size ≤ g := Nat.le_trans b4.size hg1
    have xg : x ≠ g := by omega
    have P5 := below_at q5 P4 (heap_lt P4)
    have b5 := b4.trans (q5.mono b4.size)
    clear P4 q5 b4 xw hg1
    go_wp2_with fail
    refine (ctick_any w5 g _ C5 0 draw (new_ok lmac)).mono ?_
    rw [tick_new 0 draw (by decide) (by decide)]
    rintro e w6 ⟨v6, rfl, C6, g6, -⟩
    have P6 := grown_at g6 P5 xg
    have b6 := below_row b5 g6 G0 (Nat.le_refl _)
    clear C5 P5 g6 b5
    have n1 : ¬ ((cS 0 draw).time 0).mine m := by
      rw [time_same (cS 0 draw) 0 (Int.le_refl _)]
      rintro ⟨e1, e2, e3, _, _⟩
      exact HM.out ⟨e1, e3, e2⟩
    have n2 : ¬ ((cO 0 draw).time 0).mine m := by
      rw [time_same (cO 0 draw) 0 (Int.le_refl _)]
      rintro ⟨e1, e2, e3, _, _⟩
      exact HM.out ⟨e1, e3, e2⟩
    have N1 := Lib.hid n1
    have N2 := Lib.hid n2
    clear n1 n2
    go_wp2_with ((with_reducible apply at_load_row 37); (case hx => exact rfl); (case hg => exact P6); (case hu => exact Try.underlying37); (case hd => rfl); (case hi => kernel_rfl))
    refine (cget_no w6 g _ C6 m A n c 0 N1.out).mono ?_
    rw [time_same (cS 0 draw) 0 (Int.le_refl _)]
    rintro e w7 ⟨v7, rfl, C7, g7, M7⟩
    have hv : v7 = .slice none 0 0 := M7
    subst hv
    have P7 := grown_at g7 P6 xg
    have b7 := below_row b6 g7 G0 (Nat.le_refl _)
    have hg7 : g < w7.heap.size := heap_lt C7
    clear C6 P6 g7 b6 M7 N1
    go_wp2_with fail
    refine (cstate_any w7 g _ C7).mono ?_
    rw [show (cS 0 draw).state = 1 from rfl]
    rintro e wz ⟨rfl, rfl⟩
    go_wp2_with fail
    refine (word_at w7 2 2 rfl draw a5 _ rfl 600 (by decide) (by decide)).mono ?_
    rintro e w8 ⟨A8, n8, cc8, l8, rfl, O8, L8, q8⟩
    have C8 := C7.below q8
    have P8 := below_at q8 P7 (heap_lt P7)
    have b8 := b7.trans (q8.mono b7.size)
    clear C7 P7 q8 b7
    go_wp2_with fail
    refine (get_offer w8 g w7.heap.size (cS 0 draw) C8 draw a5 600 A8 n8 cc8 l8 O8 L8 hg7 0 (cS 0 draw) (time_same _ _ (Int.le_refl _)) (cS_ok 0 draw (by decide) (by decide) d0 d1) rfl rfl rfl a5_ne).mono ?_
    rw [cS_asks]
    rintro e w9 ⟨v9, rfl, C9, g9, -⟩
    have P9 := grown_at g9 P8 xg
    have b9 := below_row b8 g9 G0 (Nat.le_refl _)
    clear C8 P8 g9 b8 O8 L8
    go_wp2_with ((with_reducible apply at_load_row 37); (case hx => exact rfl); (case hg => exact P9); (case hu => exact Try.underlying37); (case hd => rfl); (case hi => kernel_rfl))
    refine (cget_no w9 g _ C9 m A n c 0 N2.out).mono ?_
    rw [time_same (cO 0 draw) 0 (Int.le_refl _)]
    rintro e wa ⟨va, rfl, Ca, ga, Ma⟩
    have hv : va = .slice none 0 0 := Ma
    subst hv
    have ba := below_row b9 ga G0 (Nat.le_refl _)
    clear C9 P9 ga b9 Ma N2
    go_wp2_with fail
    refine (cstate_any wa g _ Ca).mono ?_
    rw [show (cO 0 draw).state = 2 from rfl]
    rintro e wy ⟨rfl, rfl⟩
    go_wp2_with fail
    go_ret
    exact ⟨rfl, ba⟩
theorem leaseStrange_all (w : World) (m : Hd) (A : Option Addr) (n c : Nat) (l : List Op1) (h : OS w w.heap.size A n c l) (_ : 0 ≤ m.xid) (_ : m.xid < 4294967296) (draw : Int) (w1 : (Lit.int .u32 draw).wf = true) :
    Calls Try.prog 5 #[msV m A n c, .int .u32 draw] w (TruePost w) := by
  have hd := wf_u32 w1
  by_cases hy : greatM l ∨ (m.op = 2 ∧ m.xid = draw ∧ m.mac = lmac)
  · exact leaseStrange_yes w m A n c l h draw hy
  · exact leaseStrange_no w m A n c l h draw hd.1 hd.2 (fun e => hy (.inl e)) (fun e => hy (.inr e))
end Go.Proofs.Ytjpmfmmgmlnanaa
