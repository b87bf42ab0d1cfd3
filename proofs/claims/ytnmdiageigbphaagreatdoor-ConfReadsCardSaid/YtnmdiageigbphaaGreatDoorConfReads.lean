/-
  The walk of the statement ConfReads.
-/
import Derived.Test.YtnmdiageigbphaaGreatDoorRe7
import Derived.Test.YtnmdiageigbphaaGreatDoorKq15
namespace Go.Proofs.YtnmdiageigbphaaGreatDoor
section
open Go.RowKit

set_option maxRecDepth 100000 in
set_option maxHeartbeats 4000000 in
theorem rparse_out (w : World) (t : List UInt8) (hl : t.length ≤ 16384) (hn : 400 < (linesV t).length) :
    Calls Tryz.prog 9 #[.string (str t)] w (ParseGP w (zG, 0, 2)) := by
  have R0 := heap_alloc_new w (.cells cfZ 40)
  have b0 : Below w.heap.size w (w.alloc (.cells cfZ 40)) := (Below.refl _ w).alloc (Nat.le_refl _) _
  have hts : (str t).size = t.length := rfl
  have hli := fun w => rlines_any w t (by omega)
  unfold LinesP at hli
  obtain ⟨ll, hll⟩ : ∃ n, (linesV t).length = n := ⟨_, rfl⟩
  rw [hll] at hn
  have HLL := Lib.hid hll
  have d1 : decide (16384 < (t.length : Int)) = false := decide_eq_false (by omega)
  have d2 : decide (400 < (ll : Int)) = true := decide_eq_true (by omega)
  clear hll hn hl
  go_enter Tryz.func9, Tryz.ntmps9
  go_upto_region 1 with fail
  change Code.wp _ _ _ _ (w.alloc (.cells cfZ 40))
  generalize w.alloc (.cells cfZ 40) = w0 at R0 b0 ⊢
  have hbs := b0.size
  obtain ⟨g0, hg0⟩ : ∃ g, w.heap.size = g := ⟨_, rfl⟩
  rw [hg0] at R0 b0 hbs ⊢
  have HG0 := Lib.hid hg0
  clear hg0
  go_wp2_with fail
  refine (hli w0).mono ?_
  rintro e w1 ⟨A, n, cc, rfl, hnL, hnc, hrow, q1⟩
  have R1 := below_at q1 R0 (heap_lt R0)
  have b1 := b0.trans (q1.mono hbs)
  obtain rfl : n = ll := by rw [hnL, HLL.out]
  have hz1 := q1.size
  clear hli R0 b0 q1 hnL hrow hnc
  go_wp2_with ((with_reducible apply at_store_part 40); (case hx => exact rfl); (case hy => exact rfl); (case hg => exact R1); (case hle => simp); (case hi => kernel_rfl); (case h1 => kernel_rfl); (intro w7 g7 R7; replace R7 := Lib.hid R7))
  have R8 : w7.heap[g0]? = some (.cells (spliceAt cfZ 0 (cfC cf0 nilS nilS).toList) 40 (0, 0)) := R7.out
  rw [spliceZ] at R8
  refine bodyPost_cell_tmp2 g0 _ _ _ rfl rfl R8 Tryz.underlying40 rfl (by kernel_rfl) rfl ?_
  exact ⟨none, 0, 0, none, 0, 0, rfl, Nat.le_refl _, Nat.le_refl _, CR.zero _ _, by rw [HG0.out]; exact below_grown b1 g7 (by omega) (Nat.le_refl _)⟩
/-- The two read any text of some length alike. -/
theorem rparse_all (w : World) (t : List UInt8) (hl : t.length ≤ 16384) : Calls Tryz.prog 9 #[.string (str t)] w (ParseGP w (parseG t)) := by
  unfold parseG
  by_cases h : 16384 < t.length ∨ 400 < (linesV t).length
  · rw [if_pos h]; exact rparse_out w t hl (by omega)
  · rw [if_neg h, ← resR_eq]; exact rparse_in w t hl (by omega) _ rfl
end
section
open Go.RowKit

set_option maxRecDepth 100000 in
set_option maxHeartbeats 8000000 in
theorem confReads_long (w : World) (hm : mlIs w) (s : ByteArray) (hs : 3000 < s.size) : Calls Tryz.prog 3 #[.string s] w (TruePost w) := by
  have d1 : decide (3000 < (s.size : Int)) = true := decide_eq_true (by omega)
  go_enter Tryz.func3, Tryz.ntmps3
  go_wp2_with fail
  refine (awake10_any w hm).mono ?_
  rintro e w1 ⟨rfl, q1⟩
  go_wp2_with fail
  go_ret
  exact ⟨rfl, q1⟩
set_option maxRecDepth 100000 in
set_option maxHeartbeats 16000000 in
theorem confReads_in (w : World) (hm : mlIs w) (t : List UInt8) (ht : t.length ≤ 3000) (c : Cf) (lf : List Fx) (lo : List Opn) (ln er : Int) (hp : parseG t = (⟨c, lf, lo⟩, ln, er)) : Calls Tryz.prog 3 #[.string (str t)] w (TruePost w) := by
  have hts : (str t).size = t.length := rfl
  have d1 : decide (3000 < (t.length : Int)) = false := decide_eq_false (by omega)
  have hpar := fun w hm => parse_all w hm t (by omega)
  rw [hp] at hpar
  have HP := Lib.hid hpar
  have hpar2 := fun w => rparse_all w t (by omega)
  rw [hp] at hpar2
  have HP2 := Lib.hid hpar2
  have hmp := hm.pos
  clear hpar hpar2 hp ht
  go_enter Tryz.func3, Tryz.ntmps3
  go_wp2_with fail
  refine (awake10_any w hm).mono ?_
  rintro e w1 ⟨rfl, q1⟩
  have m1 := hm.below q1 hmp
  clear hm
  go_wp2_with fail
  refine (HP.out w1 m1).mono ?_
  rintro e w2 ⟨A, n, k, A2, n2, k2, rfl, _, _, CX, q2⟩
  have b2 := q1.trans (q2.mono q1.size)
  have HCX := Lib.hid CX
  clear CX m1 q1 q2
  simp only
  go_upto_region 6 with ((with_reducible apply at_store_new 32); (case hx => exact rfl); (case hy => exact rfl); (case hg => first | rfl | simp); (case hi => kernel_rfl); (case hold => rfl); (case h1 => kernel_rfl))
  have qq3 : Below w2.heap.size w2 (w2.alloc (.cells (cfC c (.slice A n k) (.slice A2 n2 k2)) 32)) := (Below.refl _ w2).alloc (Nat.le_refl _) _
  have C3 := heap_alloc_new w2 (.cells (cfC c (.slice A n k) (.slice A2 n2 k2)) 32)
  have CR3 := HCX.out.next qq3
  have b3 := b2.trans (qq3.mono b2.size)
  obtain ⟨gc, hgc⟩ : ∃ g, w2.heap.size = g := ⟨_, rfl⟩
  rw [hgc] at C3 ⊢
  generalize w2.alloc (.cells (cfC c (.slice A n k) (.slice A2 n2 k2)) 32) = w3 at C3 CR3 b3 ⊢
  clear qq3 b2 hgc HCX
  go_wp2_with fail
  refine (HP2.out w3).mono ?_
  rintro e w5 ⟨B, nb, kb, B2, nb2, kb2, rfl, _, _, DX, q5⟩
  have C5 := below_at q5 C3 (heap_lt C3)
  have CR5 := CR3.next q5
  have b5 := b3.trans (q5.mono b3.size)
  have HDX := Lib.hid DX
  clear C3 CR3 b3 q5 DX
  simp only
  go_upto_region 7 with ((with_reducible apply at_store_new 40); (case hx => exact rfl); (case hy => exact rfl); (case hg => first | rfl | simp); (case hi => kernel_rfl); (case hold => rfl); (case h1 => kernel_rfl))
  have qq6 : Below w5.heap.size w5 (w5.alloc (.cells (cfC c (.slice B nb kb) (.slice B2 nb2 kb2)) 40)) := (Below.refl _ w5).alloc (Nat.le_refl _) _
  have D6 := heap_alloc_new w5 (.cells (cfC c (.slice B nb kb) (.slice B2 nb2 kb2)) 40)
  have DR6 := HDX.out.next qq6
  have C6 := below_at qq6 C5 (heap_lt C5)
  have CR6 := CR5.next qq6
  have b6 := b5.trans (qq6.mono b5.size)
  obtain ⟨gd, hgd⟩ : ∃ g, w5.heap.size = g := ⟨_, rfl⟩
  rw [hgd] at D6 ⊢
  generalize w5.alloc (.cells (cfC c (.slice B nb kb) (.slice B2 nb2 kb2)) 40) = w6 at C6 CR6 D6 DR6 b6 ⊢
  clear qq6 b5 hgd HDX C5 CR5
  by_cases he : er = 0
  case neg =>
    have d2 : (er != 0) = true := by rw [bne_iff_ne]; exact he
    clear he CR6 DR6
    have r0 : Below w6.heap.size w6 w6.drew := (Below.refl _ _).drew
    refine rg_begin (fun _ => False) (by kernel_rfl) ?_
    refine rg_take (v := ?_) 0 rfl (by kernel_rfl) (by kernel_rfl) (by kernel_rfl) (fun _ _ _ h => h) (by rfl) ?_ ?_; rotate_left
    · (intro x hx; go_simp; first | done | with_reducible rfl | (rw [if_pos (by omega)]; try with_reducible rfl) | (rw [if_neg (by omega)]; try with_reducible rfl))
    try simp only [Act.put, List.setIfInBounds_toArray, List.set_cons_zero, List.set_cons_succ]
    refine rg_take (v := ?_) 1 rfl (by kernel_rfl) (by kernel_rfl) (by kernel_rfl) (fun _ _ _ h => h) (by rfl) ?_ ?_; rotate_left
    · (intro x hx; go_simp; first | done | with_reducible rfl | (rw [if_pos (by omega)]; try with_reducible rfl) | (rw [if_neg (by omega)]; try with_reducible rfl))
    try simp only [Act.put, List.setIfInBounds_toArray, List.set_cons_zero, List.set_cons_succ]
    refine rg_take (v := ?_) 2 rfl (by kernel_rfl) (by kernel_rfl) (by kernel_rfl) (fun _ _ _ h => h) (by rfl) ?_ ?_; rotate_left
    · (intro x hx; go_simp; first | done | with_reducible rfl | (rw [if_pos (by omega)]; try with_reducible rfl) | (rw [if_neg (by omega)]; try with_reducible rfl))
    try simp only [Act.put, List.setIfInBounds_toArray, List.set_cons_zero, List.set_cons_succ]
    refine rg_take (v := ?_) 3 rfl (by kernel_rfl) (by kernel_rfl) (by kernel_rfl) (fun _ _ _ h => h) (by rfl) ?_ ?_; rotate_left
    · (intro x hx; go_simp; first | done | with_reducible rfl | (rw [if_pos (by omega)]; try with_reducible rfl) | (rw [if_neg (by omega)]; try with_reducible rfl))
    try simp only [Act.put, List.setIfInBounds_toArray, List.set_cons_zero, List.set_cons_succ]
    refine rg_take (v := ?_) 4 rfl (by kernel_rfl) (by kernel_rfl) (by kernel_rfl) (fun _ _ _ h => h) (by rfl) ?_ ?_; rotate_left
    · (intro x hx; go_simp; first | done | with_reducible rfl | (rw [if_pos (by omega)]; try with_reducible rfl) | (rw [if_neg (by omega)]; try with_reducible rfl))
    try simp only [Act.put, List.setIfInBounds_toArray, List.set_cons_zero, List.set_cons_succ]
    refine rg_take (v := ?_) 5 rfl (by kernel_rfl) (by kernel_rfl) (by kernel_rfl) (fun _ _ _ h => h) (by rfl) ?_ ?_; rotate_left
    · (intro x hx; go_simp; first | done | with_reducible rfl | (rw [if_pos (by omega)]; try with_reducible rfl) | (rw [if_neg (by omega)]; try with_reducible rfl))
    try simp only [Act.put, List.setIfInBounds_toArray, List.set_cons_zero, List.set_cons_succ]
    refine rg_take (v := ?_) 6 rfl (by kernel_rfl) (by kernel_rfl) (by kernel_rfl) (fun _ _ _ h => h) (by rfl) ?_ ?_; rotate_left
    · (intro x hx; go_simp; first | done | with_reducible rfl | (rw [if_pos (by omega)]; try with_reducible rfl) | (rw [if_neg (by omega)]; try with_reducible rfl))
    try simp only [Act.put, List.setIfInBounds_toArray, List.set_cons_zero, List.set_cons_succ]
    refine rg_take (v := ?_) 7 rfl (by kernel_rfl) (by kernel_rfl) (by kernel_rfl) (fun _ _ _ h => h) (by rfl) ?_ ?_; rotate_left
    · (intro x hx; go_simp; first | done | with_reducible rfl | (rw [if_pos (by omega)]; try with_reducible rfl) | (rw [if_neg (by omega)]; try with_reducible rfl))
    try simp only [Act.put, List.setIfInBounds_toArray, List.set_cons_zero, List.set_cons_succ]
    refine rg_take (v := ?_) 8 rfl (by kernel_rfl) (by kernel_rfl) (by kernel_rfl) (fun _ _ _ h => h) (by rfl) ?_ ?_; rotate_left
    · (intro x hx; go_simp; first | done | with_reducible rfl | (rw [if_pos (by omega)]; try with_reducible rfl) | (rw [if_neg (by omega)]; try with_reducible rfl))
    try simp only [Act.put, List.setIfInBounds_toArray, List.set_cons_zero, List.set_cons_succ]
    refine rg_take (v := ?_) 9 rfl (by kernel_rfl) (by kernel_rfl) (by kernel_rfl) (fun _ _ _ h => h) (by rfl) ?_ ?_; rotate_left
    · (intro x hx; go_simp; first | done | with_reducible rfl | (rw [if_pos (by omega)]; try with_reducible rfl) | (rw [if_neg (by omega)]; try with_reducible rfl))
    try simp only [Act.put, List.setIfInBounds_toArray, List.set_cons_zero, List.set_cons_succ]
    refine rg_take (v := ?_) 10 rfl (by kernel_rfl) (by kernel_rfl) (by kernel_rfl) (fun _ _ _ h => h) (by rfl) ?_ ?_; rotate_left
    · (intro x hx; go_simp; first | done | with_reducible rfl | (rw [if_pos (by omega)]; try with_reducible rfl) | (rw [if_neg (by omega)]; try with_reducible rfl))
    try simp only [Act.put, List.setIfInBounds_toArray, List.set_cons_zero, List.set_cons_succ]
    refine rg_take (v := ?_) 11 rfl (by kernel_rfl) (by kernel_rfl) (by kernel_rfl) (fun _ _ _ h => h) (by rfl) ?_ ?_; rotate_left
    · (intro x hx; go_simp; first | done | with_reducible rfl | (rw [if_pos (by omega)]; try with_reducible rfl) | (rw [if_neg (by omega)]; try with_reducible rfl))
    try simp only [Act.put, List.setIfInBounds_toArray, List.set_cons_zero, List.set_cons_succ]
    refine rg_skip 12 rfl (by kernel_rfl) (by kernel_rfl) (by kernel_rfl) (fun _ _ _ h => h) (by rfl) ?_; simp only [Act.put, List.setIfInBounds_toArray, List.set_cons_zero, List.set_cons_succ]
    refine rg_skip 13 rfl (by kernel_rfl) (by kernel_rfl) (by kernel_rfl) (fun _ _ _ h => h) (by rfl) ?_; simp only [Act.put, List.setIfInBounds_toArray, List.set_cons_zero, List.set_cons_succ]
    refine rg_skip 14 rfl (by kernel_rfl) (by kernel_rfl) (by kernel_rfl) (fun _ _ _ h => h) (by rfl) ?_; simp only [Act.put, List.setIfInBounds_toArray, List.set_cons_zero, List.set_cons_succ]
    refine rg_skip 15 rfl (by kernel_rfl) (by kernel_rfl) (by kernel_rfl) (fun _ _ _ h => h) (by rfl) ?_; simp only [Act.put, List.setIfInBounds_toArray, List.set_cons_zero, List.set_cons_succ]
    refine rg_take (v := ?_) 16 rfl (by kernel_rfl) (by kernel_rfl) (by kernel_rfl) (fun _ _ _ h => h) (by rfl) ?_ ?_; rotate_left
    · (intro x hx; go_simp; first | done | with_reducible rfl | (rw [if_pos (by omega)]; try with_reducible rfl) | (rw [if_neg (by omega)]; try with_reducible rfl))
    try simp only [Act.put, List.setIfInBounds_toArray, List.set_cons_zero, List.set_cons_succ]
    refine rg_take (v := ?_) 17 rfl (by kernel_rfl) (by kernel_rfl) (by kernel_rfl) (fun _ _ _ h => h) (by rfl) ?_ ?_; rotate_left
    · (intro x hx; go_simp; first | done | with_reducible rfl | (rw [if_pos (by omega)]; try with_reducible rfl) | (rw [if_neg (by omega)]; try with_reducible rfl))
    try simp only [Act.put, List.setIfInBounds_toArray, List.set_cons_zero, List.set_cons_succ]
    refine rg_take (v := ?_) 18 rfl (by kernel_rfl) (by kernel_rfl) (by kernel_rfl) (fun _ _ _ h => h) (by rfl) ?_ ?_; rotate_left
    · (intro x hx; go_simp; first | done | with_reducible rfl | (rw [if_pos (by omega)]; try with_reducible rfl) | (rw [if_neg (by omega)]; try with_reducible rfl))
    try simp only [Act.put, List.setIfInBounds_toArray, List.set_cons_zero, List.set_cons_succ]
    refine rg_done (by kernel_rfl) ?_
    go_wp2_with fail
    go_ret
    exact ⟨by first | rfl | simp, b6.trans (r0.mono b6.size)⟩
  subst he
  have r0 : Below w6.heap.size w6 w6.drew := (Below.refl _ _).drew
  have KC := Ext.at_ (M := fun _ => False) (w := w6.drew) C6 (fun h => h)
  have KD := Ext.at_ (M := fun _ => False) (w := w6.drew) D6 (fun h => h)
  refine rg_begin (fun _ => False) (by kernel_rfl) ?_
  refine rg_take (v := ?_) 0 rfl (by kernel_rfl) (by kernel_rfl) (by kernel_rfl) (fun _ _ _ h => h) (by rfl) ?_ ?_; rotate_left
  · (intro x hx; go_simp; first | done | with_reducible rfl | (rw [if_pos (by omega)]; try with_reducible rfl) | (rw [if_neg (by omega)]; try with_reducible rfl))
  try simp only [Act.put, List.setIfInBounds_toArray, List.set_cons_zero, List.set_cons_succ]
  refine rg_take (v := ?_) 1 rfl (by kernel_rfl) (by kernel_rfl) (by kernel_rfl) (fun _ _ _ h => h) (by rfl) ?_ ?_; rotate_left
  · (intro x hx; go_simp; first | done | with_reducible rfl | (rw [if_pos (by omega)]; try with_reducible rfl) | (rw [if_neg (by omega)]; try with_reducible rfl))
  try simp only [Act.put, List.setIfInBounds_toArray, List.set_cons_zero, List.set_cons_succ]
  refine rg_take (v := ?_) 2 rfl (by kernel_rfl) (by kernel_rfl) (by kernel_rfl) (fun _ _ _ h => h) (by rfl) ?_ ?_; rotate_left
  · (intro x hx; go_simp; first | done | with_reducible rfl | (rw [if_pos (by omega)]; try with_reducible rfl) | (rw [if_neg (by omega)]; try with_reducible rfl))
  try simp only [Act.put, List.setIfInBounds_toArray, List.set_cons_zero, List.set_cons_succ]
  refine rg_take (v := ?_) 3 rfl (by kernel_rfl) (by kernel_rfl) (by kernel_rfl) (fun _ _ _ h => h) (by rfl) ?_ ?_; rotate_left
  · (intro x hx; go_simp; first | done | with_reducible rfl | (rw [if_pos (by omega)]; try with_reducible rfl) | (rw [if_neg (by omega)]; try with_reducible rfl))
  try simp only [Act.put, List.setIfInBounds_toArray, List.set_cons_zero, List.set_cons_succ]
  refine rg_take (v := ?_) 4 rfl (by kernel_rfl) (by kernel_rfl) (by kernel_rfl) (fun _ _ _ h => h) (by rfl) ?_ ?_; rotate_left
  · (intro x hx; go_simp; first | done | with_reducible rfl | (rw [if_pos (by omega)]; try with_reducible rfl) | (rw [if_neg (by omega)]; try with_reducible rfl))
  try simp only [Act.put, List.setIfInBounds_toArray, List.set_cons_zero, List.set_cons_succ]
  refine rg_take (v := ?_) 5 rfl (by kernel_rfl) (by kernel_rfl) (by kernel_rfl) (fun _ _ _ h => h) (by rfl) ?_ ?_; rotate_left
  · (intro x hx; go_simp; first | done | with_reducible rfl | (rw [if_pos (by omega)]; try with_reducible rfl) | (rw [if_neg (by omega)]; try with_reducible rfl))
  try simp only [Act.put, List.setIfInBounds_toArray, List.set_cons_zero, List.set_cons_succ]
  refine rg_take (v := ?_) 6 rfl (by kernel_rfl) (by kernel_rfl) (by kernel_rfl) (fun _ _ _ h => h) (by rfl) ?_ ?_; rotate_left
  · (intro x hx; go_simp; first | done | with_reducible rfl | (rw [if_pos (by omega)]; try with_reducible rfl) | (rw [if_neg (by omega)]; try with_reducible rfl))
  try simp only [Act.put, List.setIfInBounds_toArray, List.set_cons_zero, List.set_cons_succ]
  refine rg_take (v := ?_) 7 rfl (by kernel_rfl) (by kernel_rfl) (by kernel_rfl) (fun _ _ _ h => h) (by rfl) ?_ ?_; rotate_left
  · (intro x hx; go_simp; first | done | with_reducible rfl | (rw [if_pos (by omega)]; try with_reducible rfl) | (rw [if_neg (by omega)]; try with_reducible rfl))
  try simp only [Act.put, List.setIfInBounds_toArray, List.set_cons_zero, List.set_cons_succ]
  refine rg_take (v := ?_) 8 rfl (by kernel_rfl) (by kernel_rfl) (by kernel_rfl) (fun _ _ _ h => h) (by rfl) ?_ ?_; rotate_left
  · (intro x hx; go_simp; first | done | with_reducible rfl | (rw [if_pos (by omega)]; try with_reducible rfl) | (rw [if_neg (by omega)]; try with_reducible rfl))
  try simp only [Act.put, List.setIfInBounds_toArray, List.set_cons_zero, List.set_cons_succ]
  refine rg_take (v := ?_) 9 rfl (by kernel_rfl) (by kernel_rfl) (by kernel_rfl) (fun _ _ _ h => h) (by rfl) ?_ ?_; rotate_left
  · (intro x hx; go_simp; first | done | with_reducible rfl | (rw [if_pos (by omega)]; try with_reducible rfl) | (rw [if_neg (by omega)]; try with_reducible rfl))
  try simp only [Act.put, List.setIfInBounds_toArray, List.set_cons_zero, List.set_cons_succ]
  refine rg_take (v := ?_) 10 rfl (by kernel_rfl) (by kernel_rfl) (by kernel_rfl) (fun _ _ _ h => h) (by rfl) ?_ ?_; rotate_left
  · (intro x hx; go_simp; first | done | with_reducible rfl | (rw [if_pos (by omega)]; try with_reducible rfl) | (rw [if_neg (by omega)]; try with_reducible rfl))
  try simp only [Act.put, List.setIfInBounds_toArray, List.set_cons_zero, List.set_cons_succ]
  refine rg_take (v := ?_) 11 rfl (by kernel_rfl) (by kernel_rfl) (by kernel_rfl) (fun _ _ _ h => h) (by rfl) ?_ ?_; rotate_left
  · (intro x hx; go_simp; first | done | with_reducible rfl | (rw [if_pos (by omega)]; try with_reducible rfl) | (rw [if_neg (by omega)]; try with_reducible rfl))
  try simp only [Act.put, List.setIfInBounds_toArray, List.set_cons_zero, List.set_cons_succ]
  refine rg_take (v := .agg (cfC c (.slice A n k) (.slice A2 n2 k2))) 12 rfl (by kernel_rfl) (by kernel_rfl) (by kernel_rfl) (fun _ _ _ h => h) (by rfl) ?_ ?_
  · (intro x hx; apply run_load_big; (case ho => exact rfl); (case hv => exact rfl); (case hg => exact KC x hx); (case hu => exact Tryz.underlying32); (case hd => rfl); (case hi => kernel_rfl))
  try simp only [Act.put, List.setIfInBounds_toArray, List.set_cons_zero, List.set_cons_succ]
  refine rg_take (v := .agg (cfC c (.slice B nb kb) (.slice B2 nb2 kb2))) 14 rfl (by kernel_rfl) (by kernel_rfl) (by kernel_rfl) (fun _ _ _ h => h) (by rfl) ?_ ?_
  · (intro x hx; apply run_load_big; (case ho => exact rfl); (case hv => exact rfl); (case hg => exact KD x hx); (case hu => exact Tryz.underlying40); (case hd => rfl); (case hi => kernel_rfl))
  try simp only [Act.put, List.setIfInBounds_toArray, List.set_cons_zero, List.set_cons_succ]
  refine rg_step 13 rfl (by kernel_rfl) (by rfl) (fun K hK => ?_)
  go_simp
  refine (own_all _ ⟨c, lf, lo⟩ A n k A2 n2 k2 (CR6.next r0)).mono ?_
  rintro e u1 ⟨Oa, on, ok, Oa2, on2, ok2, rfl, _, _, OC, p1⟩
  replace r0 := r0.trans (p1.mono r0.size)
  have KD := Ext.at_ (M := fun _ => False) (w := u1) (below_at r0 D6 (heap_lt D6)) (fun h => h)
  refine hK.out _ _ (Ext.below_all _ p1) ?_
  clear hK K; try simp only [Act.put, List.setIfInBounds_toArray, List.set_cons_zero, List.set_cons_succ]
  refine rg_step 15 rfl (by kernel_rfl) (by rfl) (fun K hK => ?_)
  go_simp
  refine (same_all _ ⟨c, lf, lo⟩ Oa on ok Oa2 on2 ok2 OC B nb kb B2 nb2 kb2 (DR6.next r0)).mono ?_
  rintro e u3 ⟨rfl, p3⟩
  replace r0 := r0.trans (p3.mono r0.size)
  refine hK.out _ _ (Ext.below_all _ p3) ?_
  clear hK K; try simp only [Act.put, List.setIfInBounds_toArray, List.set_cons_zero, List.set_cons_succ]
  refine rg_take (v := ?_) 16 rfl (by kernel_rfl) (by kernel_rfl) (by kernel_rfl) (fun _ _ _ h => h) (by rfl) ?_ ?_; rotate_left
  · (intro x hx; go_simp; first | done | with_reducible rfl | (rw [if_pos (by omega)]; try with_reducible rfl) | (rw [if_neg (by omega)]; try with_reducible rfl))
  try simp only [Act.put, List.setIfInBounds_toArray, List.set_cons_zero, List.set_cons_succ]
  refine rg_take (v := ?_) 17 rfl (by kernel_rfl) (by kernel_rfl) (by kernel_rfl) (fun _ _ _ h => h) (by rfl) ?_ ?_; rotate_left
  · (intro x hx; go_simp; first | done | with_reducible rfl | (rw [if_pos (by omega)]; try with_reducible rfl) | (rw [if_neg (by omega)]; try with_reducible rfl))
  try simp only [Act.put, List.setIfInBounds_toArray, List.set_cons_zero, List.set_cons_succ]
  refine rg_take (v := ?_) 18 rfl (by kernel_rfl) (by kernel_rfl) (by kernel_rfl) (fun _ _ _ h => h) (by rfl) ?_ ?_; rotate_left
  · (intro x hx; go_simp; first | done | with_reducible rfl | (rw [if_pos (by omega)]; try with_reducible rfl) | (rw [if_neg (by omega)]; try with_reducible rfl))
  try simp only [Act.put, List.setIfInBounds_toArray, List.set_cons_zero, List.set_cons_succ]
  refine rg_done (by kernel_rfl) ?_
  go_wp2_with fail
  go_ret
  exact ⟨rfl, b6.trans (r0.mono b6.size)⟩
theorem confReads_any (w : World) (hm : mlIs w) (s : ByteArray) (_ : s.size ≤ maxLen) : Calls Tryz.prog 3 #[.string s] w (TruePost w) := by
  rcases Nat.lt_or_ge 3000 s.size with h | h
  · exact confReads_long w hm s h
  · obtain ⟨t, rfl⟩ : ∃ t, s = str t := ⟨s.data.toList, rfl⟩
    have ht : t.length ≤ 3000 := h
    obtain ⟨⟨⟨c, lf, lo⟩, ln, er⟩, hp⟩ : ∃ v, parseG t = v := ⟨_, rfl⟩
    exact confReads_in w hm t ht c lf lo ln er hp
end
end Go.Proofs.YtnmdiageigbphaaGreatDoor
