/-
  conf: ends, whatever was told.
-/
import Derived.Test.YtnmdiageigbphaaGreatDoorKp17
import Derived.Test.YtnmdiageigbphaaGreatDoorRegion
namespace Go.Proofs.YtnmdiageigbphaaGreatDoor
open Go.RowKit

theorem endsV_no {c : Cf} {S : List (List UInt8)} (h : nLan ∉ S) : endsV c S = c := by rw [endsV, if_neg h]
theorem endsV_yes {c : Cf} {S : List (List UInt8)} (h : nLan ∈ S) : endsV c S = { c with fst := if nFirst ∈ S then c.fst else of4 (endF c), lst := if nLast ∈ S then c.lst else of4 (endL c) } := by rw [endsV, if_pos h]
theorem endF_in (c : Cf) : 0 ≤ endF c ∧ endF c < 4294967296 := by
  unfold endF
  split <;> exact w32_in _
theorem endL_in (c : Cf) : 0 ≤ endL c ∧ endL c < 4294967296 := by
  unfold endL
  split
  · split <;> exact w32_in _
  · exact w32_in _
set_option maxRecDepth 100000 in
set_option maxHeartbeats 8000000 in
theorem ends_any (c : Cf) (S : List (List UInt8)) : EndsOk c S (endsV c S) := by
  by_cases hlan : nLan ∈ S
  case neg => rw [endsV_no hlan]; exact ends_no c S hlan
  intro w g sb N vf vo P M hne
  have HEV := Lib.hid (endsV_yes (c := c) hlan)
  have hF := endF_in c
  have hL := endL_in c
  have hlk := M.lan
  rw [show decide (nLan ∈ S) = true from decide_eq_true hlan] at hlk
  have P0 : w.heap[g]? = some (.cells (rdC c vf vo (.map (some sb))) 60 (0, 0)) := P
  have hsc := (cells_of P0).1 40
  have HM := Lib.hid M
  have hsb := M.lt
  obtain ⟨F, hFF⟩ : ∃ F, firstA c.lanA c.lanB = F := ⟨_, rfl⟩
  obtain ⟨L, hLL⟩ : ∃ L, lastA c.lanA c.lanB = L := ⟨_, rfl⟩
  have EF := Lib.hid (show of4 ((firstN (numA c.lanA) (behN c.lanB) : Nat) : Int) = F from hFF)
  have EL := Lib.hid (show of4 ((lastN (numA c.lanA) (behN c.lanB) : Nat) : Int) = L from hLL)
  obtain ⟨nf, hnf⟩ : ∃ n, numA F = n := ⟨_, rfl⟩
  obtain ⟨nl, hnl⟩ : ∃ n, numA L = n := ⟨_, rfl⟩
  have hef : endF c = if 24 < c.lanB then w32 ((nf : Int) + 2) else w32 ((nf : Int) + 100) := by rw [endF, hFF, hnf]
  have hel : endL c = if 24 < c.lanB then (if 31 < w32 (w32 ((nl : Int) - 1) - w32 ((nf : Int) + 2)) then w32 (w32 ((nf : Int) + 2) + 31) else w32 ((nl : Int) - 1)) else w32 ((nf : Int) + 131) := by rw [endL, hFF, hnf, hLL, hnl]
  have NF := Lib.hid hnf
  have NL := Lib.hid hnl
  obtain ⟨ef, hef2⟩ : ∃ x, endF c = x := ⟨_, rfl⟩
  obtain ⟨el, hel2⟩ : ∃ x, endL c = x := ⟨_, rfl⟩
  rw [hef2] at hef hF
  rw [hel2] at hel hL
  have HEF := Lib.hid hef
  have HEL := Lib.hid hel
  have HF := Lib.hid hF
  have HL := Lib.hid hL
  have HEV2 := Lib.hid (show endsV c S = { c with fst := if nFirst ∈ S then c.fst else of4 ef, lst := if nLast ∈ S then c.lst else of4 el } by rw [HEV.out, hef2, hel2])
  obtain ⟨a1, h1⟩ : ∃ x, w32 ((nf : Int) + 100) = x := ⟨_, rfl⟩
  obtain ⟨a2, h2⟩ : ∃ x, w32 ((nf : Int) + 131) = x := ⟨_, rfl⟩
  obtain ⟨a3, h3⟩ : ∃ x, w32 ((nf : Int) + 2) = x := ⟨_, rfl⟩
  obtain ⟨a4, h4⟩ : ∃ x, w32 ((nl : Int) - 1) = x := ⟨_, rfl⟩
  obtain ⟨a5, h5⟩ : ∃ x, w32 (a4 - a3) = x := ⟨_, rfl⟩
  obtain ⟨a6, h6⟩ : ∃ x, w32 (a3 + 31) = x := ⟨_, rfl⟩
  have HV := Lib.hid (⟨h1, h2, h3, h4, h5, h6⟩ : _ ∧ _ ∧ _ ∧ _ ∧ _ ∧ _)
  rw [← wrapU] at h1 h2 h3 h4 h5 h6
  clear hlan HEV hF hL hFF hLL hnf hnl hef hel hef2 hel2 P M
  go_enter Tryz.func20, Tryz.ntmps20
  go_upto_region 1 with fail
  have r0 : Below w.heap.size w w.drew := (Below.refl _ _).drew
  have f0 := Ext.cells (w := w.drew) (M := fun _ => False) P0 (fun h => h)
  refine rg_begin (fun _ => False) (by kernel_rfl) ?_
  refine rg_take (v := ?_) 0 rfl (by kernel_rfl) (by kernel_rfl) (by kernel_rfl) (fun _ _ _ h => h) (by rfl) ?_ ?_; rotate_left
  · (intro x hx; go_simp; first | done | with_reducible rfl | (rw [if_pos (by omega)]; try with_reducible rfl) | (rw [if_neg (by omega)]; try with_reducible rfl))
  try simp only [Act.put, List.setIfInBounds_toArray, List.set_cons_zero, List.set_cons_succ]
  refine rg_take (v := ?_) 1 rfl (by kernel_rfl) (by kernel_rfl) (by kernel_rfl) (fun _ _ _ h => h) (by rfl) ?_ ?_; rotate_left
  · (intro x hx; go_simp; first | done | with_reducible rfl | (rw [if_pos (by omega)]; try with_reducible rfl) | (rw [if_neg (by omega)]; try with_reducible rfl))
  try simp only [Act.put, List.setIfInBounds_toArray, List.set_cons_zero, List.set_cons_succ]
  refine rg_take (v := ?_) 2 rfl (by kernel_rfl) (by kernel_rfl) (by kernel_rfl) (fun _ _ _ h => h) (by rfl) ?_ ?_; rotate_left
  · (intro x hx; go_simp; first | done | with_reducible rfl | (rw [if_pos (by omega)]; try with_reducible rfl) | (rw [if_neg (by omega)]; try with_reducible rfl))
  try simp only [Act.put, List.setIfInBounds_toArray, List.set_cons_zero, List.set_cons_succ]
  refine rg_take (v := ?_) 3 rfl (by kernel_rfl) (by kernel_rfl) (by kernel_rfl) (fun _ _ _ h => h) (by rfl) ?_ ?_; rotate_left
  · (intro x hx; go_simp; first | done | with_reducible rfl | (rw [if_pos (by omega)]; try with_reducible rfl) | (rw [if_neg (by omega)]; try with_reducible rfl))
  try simp only [Act.put, List.setIfInBounds_toArray, List.set_cons_zero, List.set_cons_succ]
  refine rg_take (v := ?_) 4 rfl (by kernel_rfl) (by kernel_rfl) (by kernel_rfl) (fun _ _ _ h => h) (by rfl) ?_ ?_; rotate_left
  · (intro x hx; go_simp; first | done | with_reducible rfl | (rw [if_pos (by omega)]; try with_reducible rfl) | (rw [if_neg (by omega)]; try with_reducible rfl))
  try simp only [Act.put, List.setIfInBounds_toArray, List.set_cons_zero, List.set_cons_succ]
  refine rg_take (v := ?_) 8 rfl (by kernel_rfl) (by kernel_rfl) (by kernel_rfl) (fun _ _ _ h => h) (by rfl) ?_ ?_; rotate_left
  · (intro x hx; go_simp; first | done | with_reducible rfl | (rw [if_pos (by omega)]; try with_reducible rfl) | (rw [if_neg (by omega)]; try with_reducible rfl))
  try simp only [Act.put, List.setIfInBounds_toArray, List.set_cons_zero, List.set_cons_succ]
  refine rg_take (v := ?_) 9 rfl (by kernel_rfl) (by kernel_rfl) (by kernel_rfl) (fun _ _ _ h => h) (by rfl) ?_ ?_; rotate_left
  · (intro x hx; go_simp; first | done | with_reducible rfl | (rw [if_pos (by omega)]; try with_reducible rfl) | (rw [if_neg (by omega)]; try with_reducible rfl))
  try simp only [Act.put, List.setIfInBounds_toArray, List.set_cons_zero, List.set_cons_succ]
  refine rg_take (v := ?_) 10 rfl (by kernel_rfl) (by kernel_rfl) (by kernel_rfl) (fun _ _ _ h => h) (by rfl) ?_ ?_; rotate_left
  · (intro x hx; go_simp; first | done | with_reducible rfl | (rw [if_pos (by omega)]; try with_reducible rfl) | (rw [if_neg (by omega)]; try with_reducible rfl))
  try simp only [Act.put, List.setIfInBounds_toArray, List.set_cons_zero, List.set_cons_succ]
  refine rg_take (v := ?_) 11 rfl (by kernel_rfl) (by kernel_rfl) (by kernel_rfl) (fun _ _ _ h => h) (by rfl) ?_ ?_; rotate_left
  · (intro x hx; go_simp; first | done | with_reducible rfl | (rw [if_pos (by omega)]; try with_reducible rfl) | (rw [if_neg (by omega)]; try with_reducible rfl))
  try simp only [Act.put, List.setIfInBounds_toArray, List.set_cons_zero, List.set_cons_succ]
  refine rg_take (v := ?_) 12 rfl (by kernel_rfl) (by kernel_rfl) (by kernel_rfl) (fun _ _ _ h => h) (by rfl) ?_ ?_; rotate_left
  · (intro x hx; go_simp; first | done | with_reducible rfl | (rw [if_pos (by omega)]; try with_reducible rfl) | (rw [if_neg (by omega)]; try with_reducible rfl))
  try simp only [Act.put, List.setIfInBounds_toArray, List.set_cons_zero, List.set_cons_succ]
  refine rg_step 5 rfl (by kernel_rfl) (by rfl) (fun K hK => ?_)
  go_simp
  refine (first_any _ c.lanA c.lanB).mono ?_
  rw [EF.out]
  rintro e u1 ⟨rfl, p1⟩
  replace r0 := r0.trans (p1.mono r0.size)
  have f0 := Ext.cells (w := u1) (M := fun _ => False) (below_at r0 P0 (heap_lt P0)) (fun h => h)
  refine hK.out _ _ (Ext.below_all _ p1) ?_
  clear hK K; try simp only [Act.put, List.setIfInBounds_toArray, List.set_cons_zero, List.set_cons_succ]
  refine rg_step 6 rfl (by kernel_rfl) (by rfl) (fun K hK => ?_)
  go_simp
  refine (numa_any _ F).mono ?_
  rw [NF.out]
  rintro e u1 ⟨rfl, p1⟩
  replace r0 := r0.trans (p1.mono r0.size)
  have f0 := Ext.cells (w := u1) (M := fun _ => False) (below_at r0 P0 (heap_lt P0)) (fun h => h)
  refine hK.out _ _ (Ext.below_all _ p1) ?_
  clear hK K; try simp only [Act.put, List.setIfInBounds_toArray, List.set_cons_zero, List.set_cons_succ]
  refine rg_take (v := ?_) 7 rfl (by kernel_rfl) (by kernel_rfl) (by kernel_rfl) (fun _ _ _ h => h) (by rfl) ?_ ?_; rotate_left
  · (intro x hx; go_simp; first | done | with_reducible rfl | (rw [if_pos (by omega)]; try with_reducible rfl) | (rw [if_neg (by omega)]; try with_reducible rfl))
  try simp only [Act.put, List.setIfInBounds_toArray, List.set_cons_zero, List.set_cons_succ]
  refine rg_step 13 rfl (by kernel_rfl) (by rfl) (fun K hK => ?_)
  go_simp
  refine (first_any _ c.lanA c.lanB).mono ?_
  rw [EF.out]
  rintro e u1 ⟨rfl, p1⟩
  replace r0 := r0.trans (p1.mono r0.size)
  have f0 := Ext.cells (w := u1) (M := fun _ => False) (below_at r0 P0 (heap_lt P0)) (fun h => h)
  refine hK.out _ _ (Ext.below_all _ p1) ?_
  clear hK K; try simp only [Act.put, List.setIfInBounds_toArray, List.set_cons_zero, List.set_cons_succ]
  refine rg_step 14 rfl (by kernel_rfl) (by rfl) (fun K hK => ?_)
  go_simp
  refine (numa_any _ F).mono ?_
  rw [NF.out]
  rintro e u2 ⟨rfl, p1⟩
  replace r0 := r0.trans (p1.mono r0.size)
  refine hK.out _ _ (Ext.below_all _ p1) ?_
  clear hK K; try simp only [Act.put, List.setIfInBounds_toArray, List.set_cons_zero, List.set_cons_succ]
  refine rg_take (v := ?_) 15 rfl (by kernel_rfl) (by kernel_rfl) (by kernel_rfl) (fun _ _ _ h => h) (by rfl) ?_ ?_; rotate_left
  · (intro x hx; go_simp; first | done | with_reducible rfl | (rw [if_pos (by omega)]; try with_reducible rfl) | (rw [if_neg (by omega)]; try with_reducible rfl))
  try simp only [Act.put, List.setIfInBounds_toArray, List.set_cons_zero, List.set_cons_succ]
  refine rg_take (v := ?_) 16 rfl (by kernel_rfl) (by kernel_rfl) (by kernel_rfl) (fun _ _ _ h => h) (by rfl) ?_ ?_; rotate_left
  · (intro x hx; go_simp; first | done | with_reducible rfl | (rw [if_pos (by omega)]; try with_reducible rfl) | (rw [if_neg (by omega)]; try with_reducible rfl))
  try simp only [Act.put, List.setIfInBounds_toArray, List.set_cons_zero, List.set_cons_succ]
  refine rg_take (v := ?_) 17 rfl (by kernel_rfl) (by kernel_rfl) (by kernel_rfl) (fun _ _ _ h => h) (by rfl) ?_ ?_; rotate_left
  · (intro x hx; go_simp; first | done | with_reducible rfl | (rw [if_pos (by omega)]; try with_reducible rfl) | (rw [if_neg (by omega)]; try with_reducible rfl))
  try simp only [Act.put, List.setIfInBounds_toArray, List.set_cons_zero, List.set_cons_succ]
  refine rg_done (by kernel_rfl) ?_
  have P2 := below_at r0 P0 (heap_lt P0)
  have g2 := grown_of_below (some g) r0
  have hz2 := r0.size
  clear f0 r0 P0 hsc
  have f2 := (cells_of P2).1
  by_cases hb : 24 < c.lanB
  case' neg =>
    obtain rfl : ef = a1 := by rw [HEF.out, if_neg hb, HV.out.1]
    obtain rfl : el = a2 := by rw [HEL.out, if_neg hb, HV.out.2.1]
    have d1 : decide (24 < c.lanB) = false := decide_eq_false hb
    clear hb HV
    go_upto_region 7 with fail
    have P4 := P2
    have g4 := g2
  case' pos =>
    have d1 : decide (24 < c.lanB) = true := decide_eq_true hb
    obtain rfl : ef = a3 := by rw [HEF.out, if_pos hb, HV.out.2.2.1]
    have HEL2 := Lib.hid (show el = if 31 < a5 then a6 else a4 by rw [HEL.out, if_pos hb, HV.out.2.2.1, HV.out.2.2.2.1, HV.out.2.2.2.2.1, HV.out.2.2.2.2.2])
    clear hb HV
    go_wp2_with fail
    refine (first_any _ c.lanA c.lanB).mono ?_
    rw [EF.out]
    rintro e u3 ⟨rfl, p3⟩
    have P3 := below_at p3 P2 (heap_lt P2)
    have g3 := g2.trans (grown_of_below (some g) p3)
    clear f2 P2 g2 p3
    go_wp2_with fail
    refine (numa_any _ F).mono ?_
    rw [NF.out]
    rintro e u4 ⟨rfl, p4⟩
    have P4 := below_at p4 P3 (heap_lt P3)
    have g4 := g3.trans (grown_of_below (some g) p4)
    have f4 := (cells_of P4).1
    clear P3 g3 p4
    go_wp2_with fail
    refine (last_any _ c.lanA c.lanB).mono ?_
    rw [EL.out]
    rintro e u5 ⟨rfl, p3⟩
    have P5 := below_at p3 P4 (heap_lt P4)
    have g5 := g4.trans (grown_of_below (some g) p3)
    clear f4 P4 g4 p3
    go_wp2_with fail
    refine (numa_any _ L).mono ?_
    rw [NL.out]
    rintro e u2 ⟨rfl, p4⟩
    have P4 := below_at p4 P5 (heap_lt P5)
    have g4 := g5.trans (grown_of_below (some g) p4)
    clear P5 g5 p4
    by_cases h31 : 31 < a5
    case' pos =>
      have d2 : decide (31 < a5) = true := decide_eq_true h31
      obtain rfl : el = a6 := by rw [HEL2.out, if_pos h31]
    case' neg =>
      have d2 : decide (31 < a5) = false := decide_eq_false h31
      obtain rfl : el = a4 := by rw [HEL2.out, if_neg h31]
    all_goals
      clear h31
      go_upto_region 7 with fail
  all_goals
    have M4 := HM.out.grown g4 hne
    have hl1 := M4.first
    have HP4 := Lib.hid P4
    have hsc := (cells_of P4).1 40
    clear P4 hlk
    by_cases hf : nFirst ∈ S
    case' pos =>
      rw [show decide (nFirst ∈ S) = true from decide_eq_true hf] at hl1
      have HC := Lib.hid (show { c with fst := if nFirst ∈ S then c.fst else of4 ef } = c by rw [if_pos hf])
      clear hf M4
      go_upto_region 9 with fail
      obtain ⟨c1, hc1⟩ : ∃ c1, c = c1 := ⟨_, rfl⟩
      have P6 : u2.heap[g]? = some (.cells (rdC c1 vf vo (.map (some sb))) 60 (0, 0)) := by rw [← hc1]; exact HP4.out
      have HC1 := Lib.hid (show { c with fst := if nFirst ∈ S then c.fst else of4 ef } = c1 by rw [HC.out, hc1])
      have g6 := g4
      obtain ⟨u6, hu6⟩ : ∃ u6, u6 = u2 := ⟨_, rfl⟩
      rw [← hu6] at P6 g6 ⊢
      clear HP4 g4 hc1 hu6
    case' neg =>
      rw [show decide (nFirst ∈ S) = false from decide_eq_false hf] at hl1
      have HC := Lib.hid (show { c with fst := if nFirst ∈ S then c.fst else of4 ef } = { c with fst := of4 ef } by rw [if_neg hf])
      clear hf M4
      go_wp2_with fail
      refine (ofa_any u2 ef HF.out.1 HF.out.2).mono ?_
      rintro e u5 ⟨rfl, p5⟩
      have P5 := below_at p5 HP4.out (heap_lt HP4.out)
      have g5 := g4.trans (grown_of_below (some g) p5)
      obtain ⟨aF, haF⟩ : ∃ a, of4 ef = a := ⟨_, rfl⟩
      have HAF := Lib.hid haF
      rw [haF]
      clear hsc haF
      go_upto_region 9 with ((with_reducible apply at_store_part 24); (case hx => exact rfl); (case hy => exact rfl); (case hg => exact P5); (case hle => simp); (case hi => kernel_rfl); (case h1 => kernel_rfl); (intro u6 gx Px; replace Px := Lib.hid Px))
      obtain ⟨c1, hc1⟩ : ∃ c1, { c with fst := aF } = c1 := ⟨_, rfl⟩
      have P6 : u6.heap[g]? = some (.cells (rdC c1 vf vo (.map (some sb))) 60 (0, 0)) := by rw [← hc1]; exact Px.out
      have HC1 := Lib.hid (show { c with fst := if nFirst ∈ S then c.fst else of4 ef } = c1 by rw [HC.out, HAF.out, hc1])
      have g6 := g5.trans gx
      clear HP4 g4 P5 g5 gx Px hc1 p5
    all_goals
      have M4 := HM.out.grown g6 hne
      have hl1 := M4.last
      have hsc := (cells_of P6).1 40
      have HP6 := Lib.hid P6
      clear P6
      by_cases hf : nLast ∈ S
      case' pos =>
        rw [show decide (nLast ∈ S) = true from decide_eq_true hf] at hl1
        have HC2 := Lib.hid (show endsV c S = c1 by rw [HEV2.out, ← HC1.out, if_pos hf])
        clear hf M4
        go_wp2_with fail
        refine bodyPost_end (v := .tuple #[]) (by simp [results, Tryz.results20]) rfl ?_
        exact ⟨rfl, by rw [HC2.out]; exact HP6.out, g6⟩
      case' neg =>
        rw [show decide (nLast ∈ S) = false from decide_eq_false hf] at hl1
        have HC2 := Lib.hid (show endsV c S = { c1 with lst := of4 el } by rw [HEV2.out, ← HC1.out, if_neg hf])
        clear hf M4
        go_wp2_with fail
        refine (ofa_any u6 el HL.out.1 HL.out.2).mono ?_
        rintro e u7 ⟨rfl, p7⟩
        have P7 := below_at p7 HP6.out (heap_lt HP6.out)
        have g7 := g6.trans (grown_of_below (some g) p7)
        obtain ⟨aL, haL⟩ : ∃ a, of4 el = a := ⟨_, rfl⟩
        have HAL := Lib.hid haL
        rw [haL]
        clear hsc haL
        go_wp2_with ((with_reducible apply at_store_part 24); (case hx => exact rfl); (case hy => exact rfl); (case hg => exact P7); (case hle => simp); (case hi => kernel_rfl); (case h1 => kernel_rfl); (intro u8 g8 P8; replace P8 := Lib.hid P8))
        refine bodyPost_end (v := .tuple #[]) (by simp [results, Tryz.results20]) rfl ?_
        exact ⟨rfl, by rw [HC2.out, HAL.out]; exact P8.out, g7.trans g8⟩
end Go.Proofs.YtnmdiageigbphaaGreatDoor
