/-
  The statements' same (of equal messages) and great.
-/
import Derived.Test.YtidohmcneoldcaaDh11
namespace Go.Proofs.Ytidohmcneoldcaa
open Go.RowKit

set_option maxRecDepth 100000 in
set_option maxHeartbeats 2000000 in
theorem same13_eq (w : World) (h : Hd) (A : Option Addr) (n c : Nat) (la : List Op1) (ha : OS w w.heap.size A n c la) (A2 : Option Addr) (n2 c2 : Nat) (lb : List Op1) (hb : OS w w.heap.size A2 n2 c2 lb) (hl : la.length ≤ 1099511627776) (he : obs la = obs lb) :
    Calls Try.prog 29 #[msV h A n c, msV h A2 n2 c2] w (ValPost w (.bool true)) := by
  have hn := ha.1
  have hnn : n = n2 := by
    have h1 := congrArg List.length he
    rw [obs_length, obs_length] at h1
    have h2 := hb.1
    omega
  subst hnn
  have HN := Lib.hid hn
  have hnl : n ≤ 1099511627776 := by omega
  clear hn
  have HE := Lib.hid he
  clear he
  have b0 : Below w.heap.size w ((w.alloc (.cells (msC h A n c) 62)).alloc (.cells (msC h A2 n c2) 62)) := ((Below.refl _ w).alloc (Nat.le_refl _) _).alloc (by simp) _
  have P1 : ((w.alloc (.cells (msC h A n c) 62)).alloc (.cells (msC h A2 n c2) 62)).heap[w.heap.size]? = some (.cells (msC h A n c) 62 (0, 0)) := heap_alloc_of (heap_alloc_new w _)
  have P2 : ((w.alloc (.cells (msC h A n c) 62)).alloc (.cells (msC h A2 n c2) 62)).heap[w.heap.size + 1]? = some (.cells (msC h A2 n c2) 62 (0, 0)) := heap_alloc_at (by simp)
  have oa := (ha.below b0).more b0.size
  have ob := (hb.below b0).more b0.size
  clear ha hb
  go_enter Try.func29, Try.ntmps29
  go_upto_region 1 with fail
  generalize (w.alloc (.cells (msC h A n c) 62)).alloc (.cells (msC h A2 n c2) 62) = w1 at b0 P1 P2 oa ob ⊢
  obtain ⟨g, hg⟩ : ∃ g, w.heap.size = g := ⟨_, rfl⟩
  rw [hg] at P1 P2 ⊢
  have HG := Lib.hid hg
  clear hg
  have g1 := heap_lt P2
  have HP1 := Lib.hid P1
  have HP2 := Lib.hid P2
  obtain ⟨hc1, _⟩ := cells_of P1
  obtain ⟨hc2, _⟩ := cells_of P2
  clear P1 P2
  have e1 := fun w => run_neq_ad_self w h.cl
  have e2 := fun w => run_neq_ad_self w h.yo
  have e3 := fun w => run_neq_ad_self w h.se
  have e4 := fun w => run_neq_ad_self w h.re
  have e5 := fun w => run_neq_mac_self w h.mac
  go_wp2_with fail
  clear e1 e2 e3 e4 e5
  go_loopw [5] (fun i wr => ∃ j : Nat, i = .int .i64 j ∧ j ≤ n ∧ Below w1.heap.size w1 wr) (fun i _ => n - (intOf i).toNat)
  case atStart => exact ⟨0, rfl, Nat.zero_le _, Below.refl _ _⟩
  case round =>
    clear hc1 hc2
    obtain ⟨j, rfl, hj, hq⟩ := hrel
    have zq := hq.size
    have Q1 := below_at hq HP1.out (by omega)
    have Q2 := below_at hq HP2.out g1
    by_cases hlt : j < n
    · obtain ⟨b, o, x, rfl, hbl, hx, h0, h1, hbs⟩ := (oa.below hq).at_ hlt
      obtain ⟨b2, o2, y, rfl, hbl2, hy, h20, h21, hbs2⟩ := (ob.below hq).at_ hlt
      have hjn : (0 : Int) ≤ (j : Int) ∧ (j : Int) < (n : Int) := ⟨by omega, by omega⟩
      have hxy : x.ob = y.ob := by
        have h1 : (obs la)[j]? = some x.ob := by rw [obs_get, hx]; rfl
        rw [HE.out, obs_get, hy] at h1
        injection h1 with h1
        exact h1.symm
      have hcc : x.code = y.code := congrArg Prod.fst hxy
      have hbb : x.body = y.body := congrArg Prod.snd hxy
      rw [← hcc] at h20
      rw [← hbb] at hbs2
      have f1 := Ext.cells (w := wr.drew) (M := fun k => w1.heap.size ≤ k) Q1 (by omega)
      have f2 := Ext.cells (w := wr.drew) (M := fun k => w1.heap.size ≤ k) Q2 (by omega)
      have g0 := Ext.cell (w := wr.drew) (M := fun k => w1.heap.size ≤ k) h0 (by omega)
      have g1' := Ext.cell (w := wr.drew) (M := fun k => w1.heap.size ≤ k) h1 (by omega)
      have g20 := Ext.cell (w := wr.drew) (M := fun k => w1.heap.size ≤ k) h20 (by omega)
      have g21 := Ext.cell (w := wr.drew) (M := fun k => w1.heap.size ≤ k) h21 (by omega)
      have s1 := (hbs.drew).reads (M := fun k => w1.heap.size ≤ k) (by simp; omega) (fun k hk => by omega)
      have s2 := (hbs2.drew).reads (M := fun k => w1.heap.size ≤ k) (by simp; omega) (fun k hk => by omega)
      have k1 := Ext.cell (w := wr) (M := fun k => w1.heap.size ≤ k) h0 (by omega) wr (Ext.refl _ _)
      obtain ⟨hc1, _⟩ := cells_of Q1
      obtain ⟨hc2, _⟩ := cells_of Q2
      clear h0 h1 h20 h21 hx hy hxy hcc hbb k1 hbs hbs2 Q1 Q2
      go_wp2_with fail
      clear hc1 hc2
      refine rg_begin (fun k => w1.heap.size ≤ k) (by kernel_rfl) ?_
      refine rg_take (v := ?_) 0 rfl (by kernel_rfl) (by kernel_rfl) (by kernel_rfl) (fun _ _ _ h => h) (by rfl) ?_ ?_; rotate_left
      · (intro x hx; go_simp; first | done | with_reducible rfl | (rw [if_pos (by omega)]; try with_reducible rfl) | (rw [if_neg (by omega)]; try with_reducible rfl))
      try simp only [Act.put, List.setIfInBounds_toArray, List.set_cons_zero, List.set_cons_succ]
      refine rg_take (v := ?_) 1 rfl (by kernel_rfl) (by kernel_rfl) (by kernel_rfl) (fun _ _ _ h => h) (by rfl) ?_ ?_; rotate_left
      · (intro x hx; go_simp; first | done | with_reducible rfl | (rw [if_pos (by omega)]; try with_reducible rfl) | (rw [if_neg (by omega)]; try with_reducible rfl))
      try simp only [Act.put, List.setIfInBounds_toArray, List.set_cons_zero, List.set_cons_succ]
      refine rg_take (v := ?_) 2 rfl (by kernel_rfl) (by kernel_rfl) (by kernel_rfl) (fun _ _ _ h => h) (by rfl) ?_ ?_; rotate_left
      · (intro x hx; go_simp; first | done | with_reducible rfl | (rw [if_pos (by omega)]; try with_reducible rfl) | (rw [if_neg (by omega)]; try with_reducible rfl))
      try simp only [Act.put, List.setIfInBounds_toArray, List.set_cons_zero, List.set_cons_succ]
      refine rg_take (v := ?_) 3 rfl (by kernel_rfl) (by kernel_rfl) (by kernel_rfl) (fun _ _ _ h => h) (by rfl) ?_ ?_; rotate_left
      · (intro x hx; go_simp; first | done | with_reducible rfl | (rw [if_pos (by omega)]; try with_reducible rfl) | (rw [if_neg (by omega)]; try with_reducible rfl))
      try simp only [Act.put, List.setIfInBounds_toArray, List.set_cons_zero, List.set_cons_succ]
      refine rg_take (v := ?_) 4 rfl (by kernel_rfl) (by kernel_rfl) (by kernel_rfl) (fun _ _ _ h => h) (by rfl) ?_ ?_; rotate_left
      · (intro x hx; go_simp; first | done | with_reducible rfl | (rw [if_pos (by omega)]; try with_reducible rfl) | (rw [if_neg (by omega)]; try with_reducible rfl))
      try simp only [Act.put, List.setIfInBounds_toArray, List.set_cons_zero, List.set_cons_succ]
      refine rg_take (v := ?_) 5 rfl (by kernel_rfl) (by kernel_rfl) (by kernel_rfl) (fun _ _ _ h => h) (by rfl) ?_ ?_; rotate_left
      · (intro x hx; go_simp; first | done | with_reducible rfl | (rw [if_pos (by omega)]; try with_reducible rfl) | (rw [if_neg (by omega)]; try with_reducible rfl))
      try simp only [Act.put, List.setIfInBounds_toArray, List.set_cons_zero, List.set_cons_succ]
      refine rg_take (v := ?_) 6 rfl (by kernel_rfl) (by kernel_rfl) (by kernel_rfl) (fun _ _ _ h => h) (by rfl) ?_ ?_; rotate_left
      · (intro x hx; go_simp; first | done | with_reducible rfl | (rw [if_pos (by omega)]; try with_reducible rfl) | (rw [if_neg (by omega)]; try with_reducible rfl))
      try simp only [Act.put, List.setIfInBounds_toArray, List.set_cons_zero, List.set_cons_succ]
      refine rg_take (v := ?_) 7 rfl (by kernel_rfl) (by kernel_rfl) (by kernel_rfl) (fun _ _ _ h => h) (by rfl) ?_ ?_; rotate_left
      · (intro x hx; go_simp; first | done | with_reducible rfl | (rw [if_pos (by omega)]; try with_reducible rfl) | (rw [if_neg (by omega)]; try with_reducible rfl))
      try simp only [Act.put, List.setIfInBounds_toArray, List.set_cons_zero, List.set_cons_succ]
      refine rg_take (v := ?_) 8 rfl (by kernel_rfl) (by kernel_rfl) (by kernel_rfl) (fun _ _ _ h => h) (by rfl) ?_ ?_; rotate_left
      · (intro x hx; go_simp; first | done | with_reducible rfl | (rw [if_pos (by omega)]; try with_reducible rfl) | (rw [if_neg (by omega)]; try with_reducible rfl))
      try simp only [Act.put, List.setIfInBounds_toArray, List.set_cons_zero, List.set_cons_succ]
      refine rg_take (v := ?_) 9 rfl (by kernel_rfl) (by kernel_rfl) (by kernel_rfl) (fun _ _ _ h => h) (by rfl) ?_ ?_; rotate_left
      · (intro x hx; go_simp; first | done | with_reducible rfl | (rw [if_pos (by omega)]; try with_reducible rfl) | (rw [if_neg (by omega)]; try with_reducible rfl))
      try simp only [Act.put, List.setIfInBounds_toArray, List.set_cons_zero, List.set_cons_succ]
      refine rg_take (v := ?_) 10 rfl (by kernel_rfl) (by kernel_rfl) (by kernel_rfl) (fun _ _ _ h => h) (by rfl) ?_ ?_; rotate_left
      · (intro x hx; go_simp; first | done | with_reducible rfl | (rw [if_pos (by omega)]; try with_reducible rfl) | (rw [if_neg (by omega)]; try with_reducible rfl))
      try simp only [Act.put, List.setIfInBounds_toArray, List.set_cons_zero, List.set_cons_succ]
      refine rg_take (v := ?_) 11 rfl (by kernel_rfl) (by kernel_rfl) (by kernel_rfl) (fun _ _ _ h => h) (by rfl) ?_ ?_; rotate_left
      · (intro x hx; go_simp; first | done | with_reducible rfl | (rw [if_pos (by omega)]; try with_reducible rfl) | (rw [if_neg (by omega)]; try with_reducible rfl))
      try simp only [Act.put, List.setIfInBounds_toArray, List.set_cons_zero, List.set_cons_succ]
      refine rg_take (v := ?_) 12 rfl (by kernel_rfl) (by kernel_rfl) (by kernel_rfl) (fun _ _ _ h => h) (by rfl) ?_ ?_; rotate_left
      · (intro x hx; go_simp; first | done | with_reducible rfl | (rw [if_pos (by omega)]; try with_reducible rfl) | (rw [if_neg (by omega)]; try with_reducible rfl))
      try simp only [Act.put, List.setIfInBounds_toArray, List.set_cons_zero, List.set_cons_succ]
      refine rg_take (v := ?_) 13 rfl (by kernel_rfl) (by kernel_rfl) (by kernel_rfl) (fun _ _ _ h => h) (by rfl) ?_ ?_; rotate_left
      · (intro x hx; go_simp; first | done | with_reducible rfl | (rw [if_pos (by omega)]; try with_reducible rfl) | (rw [if_neg (by omega)]; try with_reducible rfl))
      try simp only [Act.put, List.setIfInBounds_toArray, List.set_cons_zero, List.set_cons_succ]
      refine rg_take (v := ?_) 14 rfl (by kernel_rfl) (by kernel_rfl) (by kernel_rfl) (fun _ _ _ h => h) (by rfl) ?_ ?_; rotate_left
      · (intro x hx; go_simp; first | done | with_reducible rfl | (rw [if_pos (by omega)]; try with_reducible rfl) | (rw [if_neg (by omega)]; try with_reducible rfl))
      try simp only [Act.put, List.setIfInBounds_toArray, List.set_cons_zero, List.set_cons_succ]
      refine rg_take (v := ?_) 15 rfl (by kernel_rfl) (by kernel_rfl) (by kernel_rfl) (fun _ _ _ h => h) (by rfl) ?_ ?_; rotate_left
      · (intro x hx; go_simp; first | done | with_reducible rfl | (rw [if_pos (by omega)]; try with_reducible rfl) | (rw [if_neg (by omega)]; try with_reducible rfl))
      try simp only [Act.put, List.setIfInBounds_toArray, List.set_cons_zero, List.set_cons_succ]
      refine rg_take (v := ?_) 16 rfl (by kernel_rfl) (by kernel_rfl) (by kernel_rfl) (fun _ _ _ h => h) (by rfl) ?_ ?_; rotate_left
      · (intro x hx; go_simp; first | done | with_reducible rfl | (rw [if_pos (by omega)]; try with_reducible rfl) | (rw [if_neg (by omega)]; try with_reducible rfl))
      try simp only [Act.put, List.setIfInBounds_toArray, List.set_cons_zero, List.set_cons_succ]
      refine rg_take (v := ?_) 17 rfl (by kernel_rfl) (by kernel_rfl) (by kernel_rfl) (fun _ _ _ h => h) (by rfl) ?_ ?_; rotate_left
      · (intro x hx; go_simp; first | done | with_reducible rfl | (rw [if_pos (by omega)]; try with_reducible rfl) | (rw [if_neg (by omega)]; try with_reducible rfl))
      try simp only [Act.put, List.setIfInBounds_toArray, List.set_cons_zero, List.set_cons_succ]
      refine rg_take (v := ?_) 18 rfl (by kernel_rfl) (by kernel_rfl) (by kernel_rfl) (fun _ _ _ h => h) (by rfl) ?_ ?_; rotate_left
      · (intro x hx; go_simp; first | done | with_reducible rfl | (rw [if_pos (by omega)]; try with_reducible rfl) | (rw [if_neg (by omega)]; try with_reducible rfl))
      try simp only [Act.put, List.setIfInBounds_toArray, List.set_cons_zero, List.set_cons_succ]
      refine rg_take (v := ?_) 19 rfl (by kernel_rfl) (by kernel_rfl) (by kernel_rfl) (fun _ _ _ h => h) (by rfl) ?_ ?_; rotate_left
      · (intro x hx; go_simp; first | done | with_reducible rfl | (rw [if_pos (by omega)]; try with_reducible rfl) | (rw [if_neg (by omega)]; try with_reducible rfl))
      try simp only [Act.put, List.setIfInBounds_toArray, List.set_cons_zero, List.set_cons_succ]
      refine rg_take (v := ?_) 20 rfl (by kernel_rfl) (by kernel_rfl) (by kernel_rfl) (fun _ _ _ h => h) (by rfl) ?_ ?_; rotate_left
      · (intro x hx; go_simp; first | done | with_reducible rfl | (rw [if_pos (by omega)]; try with_reducible rfl) | (rw [if_neg (by omega)]; try with_reducible rfl))
      try simp only [Act.put, List.setIfInBounds_toArray, List.set_cons_zero, List.set_cons_succ]
      refine rg_take (v := ?_) 21 rfl (by kernel_rfl) (by kernel_rfl) (by kernel_rfl) (fun _ _ _ h => h) (by rfl) ?_ ?_; rotate_left
      · (intro x hx; go_simp; first | done | with_reducible rfl | (rw [if_pos (by omega)]; try with_reducible rfl) | (rw [if_neg (by omega)]; try with_reducible rfl))
      try simp only [Act.put, List.setIfInBounds_toArray, List.set_cons_zero, List.set_cons_succ]
      refine rg_take (v := ?_) 22 rfl (by kernel_rfl) (by kernel_rfl) (by kernel_rfl) (fun _ _ _ h => h) (by rfl) ?_ ?_; rotate_left
      · (intro x hx; go_simp; first | done | with_reducible rfl | (rw [if_pos (by omega)]; try with_reducible rfl) | (rw [if_neg (by omega)]; try with_reducible rfl))
      try simp only [Act.put, List.setIfInBounds_toArray, List.set_cons_zero, List.set_cons_succ]
      refine rg_take (v := ?_) 23 rfl (by kernel_rfl) (by kernel_rfl) (by kernel_rfl) (fun _ _ _ h => h) (by rfl) ?_ ?_; rotate_left
      · (intro x hx; go_simp; first | done | with_reducible rfl | (rw [if_pos (by omega)]; try with_reducible rfl) | (rw [if_neg (by omega)]; try with_reducible rfl))
      try simp only [Act.put, List.setIfInBounds_toArray, List.set_cons_zero, List.set_cons_succ]
      refine rg_take (v := ?_) 24 rfl (by kernel_rfl) (by kernel_rfl) (by kernel_rfl) (fun _ _ _ h => h) (by rfl) ?_ ?_; rotate_left
      · (intro x hx; go_simp; first | done | with_reducible rfl | (rw [if_pos (by omega)]; try with_reducible rfl) | (rw [if_neg (by omega)]; try with_reducible rfl))
      try simp only [Act.put, List.setIfInBounds_toArray, List.set_cons_zero, List.set_cons_succ]
      refine rg_take (v := ?_) 25 rfl (by kernel_rfl) (by kernel_rfl) (by kernel_rfl) (fun _ _ _ h => h) (by rfl) ?_ ?_; rotate_left
      · (intro x hx; go_simp; first | done | with_reducible rfl | (rw [if_pos (by omega)]; try with_reducible rfl) | (rw [if_neg (by omega)]; try with_reducible rfl))
      try simp only [Act.put, List.setIfInBounds_toArray, List.set_cons_zero, List.set_cons_succ]
      refine rg_take (v := ?_) 26 rfl (by kernel_rfl) (by kernel_rfl) (by kernel_rfl) (fun _ _ _ h => h) (by rfl) ?_ ?_; rotate_left
      · (intro x hx; go_simp; first | done | with_reducible rfl | (rw [if_pos (by omega)]; try with_reducible rfl) | (rw [if_neg (by omega)]; try with_reducible rfl))
      try simp only [Act.put, List.setIfInBounds_toArray, List.set_cons_zero, List.set_cons_succ]
      refine rg_take (v := ?_) 27 rfl (by kernel_rfl) (by kernel_rfl) (by kernel_rfl) (fun _ _ _ h => h) (by rfl) ?_ ?_; rotate_left
      · (intro x hx; go_simp; first | done | with_reducible rfl | (rw [if_pos (by omega)]; try with_reducible rfl) | (rw [if_neg (by omega)]; try with_reducible rfl))
      try simp only [Act.put, List.setIfInBounds_toArray, List.set_cons_zero, List.set_cons_succ]
      refine rg_take (v := ?_) 28 rfl (by kernel_rfl) (by kernel_rfl) (by kernel_rfl) (fun _ _ _ h => h) (by rfl) ?_ ?_; rotate_left
      · (intro x hx; go_simp; first | done | with_reducible rfl | (rw [if_pos (by omega)]; try with_reducible rfl) | (rw [if_neg (by omega)]; try with_reducible rfl))
      try simp only [Act.put, List.setIfInBounds_toArray, List.set_cons_zero, List.set_cons_succ]
      refine rg_take (v := ?_) 29 rfl (by kernel_rfl) (by kernel_rfl) (by kernel_rfl) (fun _ _ _ h => h) (by rfl) ?_ ?_; rotate_left
      · (intro x hx; go_simp; first | done | with_reducible rfl | (rw [if_pos (by omega)]; try with_reducible rfl) | (rw [if_neg (by omega)]; try with_reducible rfl))
      try simp only [Act.put, List.setIfInBounds_toArray, List.set_cons_zero, List.set_cons_succ]
      refine rg_done (by kernel_rfl) ?_
      go_wp2_with fail
      go_roundw
      case rel => exact ⟨j + 1, by go_num, by omega, hq.drew⟩
      case measure => simp [intOf]; omega
    · obtain ⟨hc1, _⟩ := cells_of Q1
      obtain ⟨hc2, _⟩ := cells_of Q2
      clear Q1 Q2
      go_wp2_with fail
      go_ret
      exact ⟨rfl, b0.trans (hq.mono b0.size)⟩

/-- Is a message more than is asked of? -/
def greatM (l : List Op1) : Prop := 20 < l.length ∨ ∃ o ∈ l, 1300 < o.body.length
def GreatPost (w : World) (l : List Op1) (e : Ending) (w' : World) : Prop := ∃ b : Bool, e = .returned (.bool b) ∧ (b = true ↔ greatM l) ∧ Below w.heap.size w w'
theorem GreatPost.mk {w w' : World} {l : List Op1} (b : Bool) (h : b = true ↔ greatM l) (hb : Below w.heap.size w w') : GreatPost w l (.returned (.bool b)) w' := ⟨b, rfl, h, hb⟩
set_option maxRecDepth 100000 in
set_option maxHeartbeats 1000000 in
theorem great13_any (w : World) (h : Hd) (A : Option Addr) (n c : Nat) (l : List Op1) (ho : OS w w.heap.size A n c l) :
    Calls Try.prog 31 #[msV h A n c] w (GreatPost w l) := by
  have hn := ho.1
  have HN := Lib.hid hn
  have b0 : Below w.heap.size w (w.alloc (.cells (msC h A n c) 56)) := (Below.refl _ w).alloc (Nat.le_refl _) _
  have P1 : (w.alloc (.cells (msC h A n c) 56)).heap[w.heap.size]? = some (.cells (msC h A n c) 56 (0, 0)) := heap_alloc_new w _
  have oa := (ho.below b0).more b0.size
  have hnm : n ≤ 9223372036854775807 := by have h1 := ho.2.1; have h2 := ho.2.2.1; unfold maxLen at h2; omega
  clear ho hn
  go_enter Try.func31, Try.ntmps31
  go_upto_region 1 with fail
  generalize w.alloc (.cells (msC h A n c) 56) = w1 at b0 P1 oa ⊢
  obtain ⟨g, hg⟩ : ∃ g, w.heap.size = g := ⟨_, rfl⟩
  rw [hg] at P1 ⊢
  have HG := Lib.hid hg
  clear hg
  obtain ⟨hc1, _⟩ := cells_of P1
  clear P1
  by_cases h20 : 20 < n
  · have HB := Lib.hid (show greatM l from .inl (by have := HN.out; omega))
    go_wp2_with fail
    go_ret
    exact GreatPost.mk true (iff_of_true rfl HB.out) b0
  · go_wp2_with fail
    go_loop [3] (fun i => ∃ j : Nat, i = .int .i64 j ∧ j ≤ n ∧ ∀ o ∈ l.take j, ¬ 1300 < o.body.length) (fun i => n - (intOf i).toNat)
    case atStart => exact ⟨0, rfl, Nat.zero_le _, by simp⟩
    case round =>
      obtain ⟨j, rfl, hj, hall⟩ := hrel
      have HA := Lib.hid hall
      clear hall
      by_cases hlt : j < n
      · obtain ⟨b, o, x, rfl, hbl, hx, h0, h1, hbs⟩ := oa.at_ hlt
        have hjn : (0 : Int) ≤ (j : Int) ∧ (j : Int) < (n : Int) := ⟨by omega, by omega⟩
        have HX := Lib.hid hx
        have HBL := Lib.hid hbs.1
        clear hx hbs
        by_cases hbig : 1300 < x.n
        · have HB := Lib.hid (show greatM l from .inr ⟨x, List.mem_of_getElem? HX.out, by have := HBL.out; omega⟩)
          go_wp2_with fail
          go_ret
          exact GreatPost.mk true (iff_of_true rfl HB.out) b0
        · go_wp2_with fail
          go_round
          case rel =>
            refine ⟨j + 1, by go_num, by omega, ?_⟩
            rw [List.take_add_one, HX.out]
            intro o ho
            rcases List.mem_append.1 ho with ho | ho
            · exact HA.out o ho
            · simp at ho
              subst ho
              have := HBL.out
              omega
          case measure => simp [intOf]; omega
      · have HB := Lib.hid (show ¬ greatM l by
          rintro (h1 | ⟨o, ho, hb⟩)
          · have := HN.out; omega
          · refine HA.out o ?_ hb
            rwa [List.take_of_length_le (by have := HN.out; omega)])
        go_wp2_with fail
        go_ret
        exact GreatPost.mk false (iff_of_false (by simp) HB.out) b0
end Go.Proofs.Ytidohmcneoldcaa
