/-
  The reference's Split and ParseNet.
-/
import Derived.Test.YtabmgggmailomaaDoorCn4
import Derived.Test.YtabmgggmailomaaDoorRn2
namespace Go.Proofs.YtabmgggmailomaaDoor
open Go.RowKit

theorem results_cell_tmp2 {fn : Func} {p u v : Tmp} {ty : TypeId} (h : fn.results = #[.cell p ty, .tmp u, .tmp v]) (tmps : Array Value) (P : Program) (w : World) :
    (results fn tmps).run P w =
      ((asAddr (tmps.getD p undef)).run P w).andThen fun a w₁ => ((loadVar ty a).run P w₁).andThen fun x w₂ => .ok (.tuple #[x, tmps.getD u undef, tmps.getD v undef]) w₂ := by
  simp only [results, h]
  simp [Sem.run_bind, Result.andThen]
theorem bodyPost_cell_tmp2 {P : Program} {fn : Func} {R : Ending → World → Prop} {a : Act} {w : World} {p u v : Tmp} {ty : TypeId} (g : Nat) (t : TypeId) (cs : Array Value) (d : TypeDesc) (h : fn.results = #[.cell p ty, .tmp u, .tmp v])
    (hp : a.tmps.getD p undef = .pointer (some ⟨g, 0, none⟩)) (hg : w.heap[g]? = some (.cells cs t (0, 0)))
    (hu : P.underlying ty = some d) (hd : (match d with | .struct _ | .array _ _ => true | _ => false) = true) (hi : (P.info? ty).map (·.size) = some cs.size)
    (hf : a.defers = []) (hR : R (.returned (.tuple #[.agg cs, a.tmps.getD u undef, a.tmps.getD v undef])) w) : bodyPost P fn R .ret a w := by
  refine bodyPost_ret ?_ hf hR
  rw [results_cell_tmp2 h, hp]
  simp [asAddr, run_loadVar_row w g t ty cs (0, 0) d hg hu hd hi]

def SplitPost (w : World) (s : List UInt8) (e : Ending) (w' : World) : Prop := e = .returned (.tuple #[adV (splitV s).1.1, .int .i64 (splitV s).1.2, .bool (splitV s).2]) ∧ Below w.heap.size w w'
theorem splitV_no {s : List UInt8} (h : 18 < s.length ∨ (cutB 47 s).length ≠ 2) : splitV s = ((ad0, 0), false) := if_pos h
theorem splitV_yes {s : List UInt8} (h1 : s.length ≤ 18) (h2 : (cutB 47 s).length = 2) : splitV s = (((parseV ((cutB 47 s).getD 0 [])).1, refNum ((cutB 47 s).getD 1 []) 32), decide ((parseV ((cutB 47 s).getD 0 [])).2 = 0) && decide (0 ≤ refNum ((cutB 47 s).getD 1 []) 32)) := if_neg (by omega)
theorem refNum_range (s : List UInt8) (most : Nat) (hm : most ≤ 1000) : refNum s most = -1 ∨ 0 ≤ refNum s most ∧ refNum s most ≤ 1000 := by
  unfold refNum
  split
  · rename_i h
    have := numOk_le h
    right; omega
  · exact .inl rfl
theorem splice4a (a : Ad4) : spliceAt z4 0 (adC a).toList = adC a := by simp [spliceAt, adC]

set_option maxRecDepth 100000 in
set_option maxHeartbeats 4000000 in
theorem rSplit_any (w : World) (s : List UInt8) (hl : s.length ≤ 1099511627776) : Calls Tryd.prog 35 #[.string (str s)] w (SplitPost w s) := by
  have hss : (str s).size = s.length := rfl
  have b0 : Below w.heap.size w (w.alloc (.cells z4 24)) := (Below.refl _ w).alloc (Nat.le_refl _) _
  have P0 : (w.alloc (.cells z4 24)).heap[w.heap.size]? = some (.cells z4 24 (0, 0)) := heap_alloc_new w _
  obtain ⟨g, hg⟩ : ∃ g, w.heap.size = g := ⟨_, rfl⟩
  rcases Nat.lt_or_ge 18 s.length with c1 | c1
  · have d1 : decide (18 < (s.length : Int)) = true := decide_eq_true (by omega)
    have HV := Lib.hid (splitV_no (.inl c1))
    clear c1
    go_enter Tryd.func35, Tryd.ntmps35
    go_upto_region 1 with fail
    generalize w.alloc (.cells z4 24) = w1 at b0 P0 ⊢
    rw [hg] at P0
    have HG := Lib.hid hg
    clear hg
    go_wp2_with ((with_reducible apply at_store_part 24); (case hx => exact rfl); (case hy => exact rfl); (case hg => exact P0); (case hle => simp); (case hi => kernel_rfl); (case h1 => kernel_rfl); (intro w3 g3 P3; replace P3 := Lib.hid P3))
    refine bodyPost_cell_tmp2 g _ _ _ rfl rfl P3.out Tryd.underlying24 rfl (by kernel_rfl) rfl ?_
    exact ⟨by rw [HV.out]; rfl, below_grown b0 g3 b0.size (by have := HG.out; omega)⟩
  have d1 : decide (18 < (s.length : Int)) = false := decide_eq_false (by omega)
  go_enter Tryd.func35, Tryd.ntmps35
  go_upto_region 1 with fail
  rw [hg] at P0
  generalize w.alloc (.cells z4 24) = w1 at b0 P0 ⊢
  go_wp2_with fail
  refine (rCut_any w1 s 47 (by omega)).mono ?_
  rintro e w2 ⟨A, n, cc, rfl, ho, q2⟩
  have P2 := below_at q2 P0 (heap_lt P0)
  have b2 := b0.trans (q2.mono b0.size)
  have hn := ho.1
  have HG := Lib.hid hg
  have HN := Lib.hid hn
  clear hn hg b0 P0 q2
  by_cases h2 : n = 2
  case' neg =>
    have x1 : ((n : Int) != 2) = true := by rw [bne_iff_ne]; omega
    have HV := Lib.hid (splitV_no (s := s) (.inr (by have := HN.out; omega)))
    clear h2
    go_wp2_with ((with_reducible apply at_store_part 24); (case hx => exact rfl); (case hy => exact rfl); (case hg => exact P2); (case hle => simp); (case hi => kernel_rfl); (case h1 => kernel_rfl); (intro w3 g3 P3; replace P3 := Lib.hid P3))
    refine bodyPost_cell_tmp2 g _ _ _ rfl rfl P3.out Tryd.underlying24 rfl (by kernel_rfl) rfl ?_
    exact ⟨by rw [HV.out]; rfl, below_grown b2 g3 b2.size (by have := HG.out; omega)⟩
  obtain ⟨b, o, rfl, hbl, _⟩ := ho.at_ (getD_some [] (show 0 < (cutB 47 s).length by have := HN.out; omega))
  subst h2
  have hps := splitV_yes c1 HN.out.symm
  have hc0 := (ho.cell (getD_some [] (show 0 < (cutB 47 s).length by have := HN.out; omega))).2
  have hc1 := (ho.cell (getD_some [] (show 1 < (cutB 47 s).length by have := HN.out; omega))).2
  have l0 : ((cutB 47 s).getD 0 []).length ≤ 1099511627776 := Nat.le_trans (cutB_mem 47 s _ (List.mem_iff_getElem?.2 ⟨0, getD_some [] (by have := HN.out; omega)⟩)) hl
  have l1 : ((cutB 47 s).getD 1 []).length ≤ 1099511627776 := Nat.le_trans (cutB_mem 47 s _ (List.mem_iff_getElem?.2 ⟨1, getD_some [] (by have := HN.out; omega)⟩)) hl
  obtain ⟨p0, e0⟩ : ∃ p, (cutB 47 s).getD 0 [] = p := ⟨_, rfl⟩
  obtain ⟨p1, e1⟩ : ∃ p, (cutB 47 s).getD 1 [] = p := ⟨_, rfl⟩
  rw [e0] at hc0 l0 hps
  rw [e1] at hc1 l1 hps
  rw [Nat.add_zero] at hc0
  have HPS := Lib.hid hps
  have C1 := Lib.hid hc1
  clear hps e0 e1 hc1 ho c1
  go_wp2_with fail
  refine (rParse_any w2 p0 l0).mono ?_
  obtain ⟨v, hv⟩ : ∃ v, parseV p0 = v := ⟨_, rfl⟩
  obtain ⟨a, er⟩ := v
  have HV := Lib.hid hv
  unfold RPPost
  rw [hv]
  obtain ⟨ok, hok⟩ : ∃ ok, decide (er = 0) = ok := ⟨_, rfl⟩
  have HOK := Lib.hid hok
  simp only [hok]
  clear hok hv
  rintro e w3 ⟨rfl, q3⟩
  have P3 := below_at q3 P2 (heap_lt P2)
  have b3 := b2.trans (q3.mono b2.size)
  have k1 := grown_cell (k := w2.heap.size) (grown_of_below _ q3) hbl (by omega) C1.out
  clear hc0 P2 b2
  go_upto_region 7 with ((with_reducible apply at_store_new 24); (case hx => exact rfl); (case hy => exact rfl); (case hg => first | rfl | simp); (case hi => kernel_rfl); (case hold => rfl); (case h1 => kernel_rfl))
  have q4 : Below w3.heap.size w3 (w3.alloc (.cells (adC a) 24)) := (Below.refl _ w3).alloc (Nat.le_refl _) _
  have P4 := below_at q4 P3 (heap_lt P3)
  have A4 := heap_alloc_new w3 (.cells (adC a) 24)
  have b4 := b3.trans (q4.mono b3.size)
  have hb3 : b < w3.heap.size := by have := q3.size; omega
  have k2 := grown_cell (k := w3.heap.size) (grown_of_below _ q4) hb3 (by omega) k1
  obtain ⟨ga, hga⟩ : ∃ ga, w3.heap.size = ga := ⟨_, rfl⟩
  rw [hga] at A4 ⊢
  generalize w3.alloc (.cells (adC a) 24) = w4 at P4 A4 b4 k2 ⊢
  clear hga P3 b3 k1 q3 q4 hb3
  go_wp2_with fail
  refine (rnumber_any w4 p1 32 l1 (by decide)).mono ?_
  rintro e w5 ⟨rfl, rfl⟩
  have hrr := refNum_range p1 32 (by decide)
  obtain ⟨r, hr⟩ : ∃ r, refNum p1 32 = r := ⟨_, rfl⟩
  have HR := Lib.hid hr
  rw [hr] at hrr ⊢
  have HRR := Lib.hid hrr
  obtain ⟨rb, hrb⟩ : ∃ rb, decide (0 ≤ r) = rb := ⟨_, rfl⟩
  have HRB := Lib.hid hrb
  clear hr hrr k2
  have HF := Lib.hid (show splitV s = ((a, r), ok && rb) by rw [HPS.out, HV.out, HR.out]; simp only; rw [HOK.out, HRB.out])
  cases ok
  all_goals
    go_wp2_with (((with_reducible apply at_load_row 24); (case hx => exact rfl); (case hg => exact A4); (case hu => exact Tryd.underlying24); (case hd => rfl); (case hi => kernel_rfl)); (refine Hid.out ?_))
    refine Lib.hid ?_
    go_wp2_with ((with_reducible apply at_store_part 24); (case hx => exact rfl); (case hy => exact rfl); (case hg => exact P4); (case hle => simp); (case hi => kernel_rfl); (case h1 => kernel_rfl); (intro w9 g9 P9; replace P9 := Lib.hid P9))
    have P10 := P9.out
    rw [splice4a] at P10
    refine bodyPost_cell_tmp2 g _ _ _ rfl rfl P10 Tryd.underlying24 rfl (by kernel_rfl) rfl ?_
    refine ⟨by rw [HF.out]; rfl, below_grown b4 g9 b4.size (by have := HG.out; omega)⟩

set_option maxRecDepth 100000 in
set_option maxHeartbeats 4000000 in
theorem rParseNet_any (w : World) (s : List UInt8) (hl : s.length ≤ 1099511627776) : Calls Tryd.prog 16 #[.string (str s)] w (ParseNPost w s) := by
  have b0 : Below w.heap.size w (w.alloc (.cells z5 41)) := (Below.refl _ w).alloc (Nat.le_refl _) _
  have P0 : (w.alloc (.cells z5 41)).heap[w.heap.size]? = some (.cells z5 41 (0, 0)) := heap_alloc_new w _
  obtain ⟨g, hg⟩ : ∃ g, w.heap.size = g := ⟨_, rfl⟩
  go_enter Tryd.func16, Tryd.ntmps16
  go_upto_region 1 with fail
  rw [hg] at P0
  generalize w.alloc (.cells z5 41) = w1 at b0 P0 ⊢
  have HG := Lib.hid hg
  clear hg
  go_wp2_with fail
  refine (rSplit_any w1 s hl).mono ?_
  obtain ⟨v, hv⟩ : ∃ v, splitV s = v := ⟨_, rfl⟩
  obtain ⟨⟨a, r⟩, ok⟩ := v
  have HV := Lib.hid hv
  unfold SplitPost
  rw [hv]
  clear hv
  rintro e w2 ⟨rfl, q2⟩
  have P2 := below_at q2 P0 (heap_lt P0)
  have b2 := b0.trans (q2.mono b0.size)
  clear P0 b0 q2
  go_upto_region 2 with ((with_reducible apply at_store_new 24); (case hx => exact rfl); (case hy => exact rfl); (case hg => first | rfl | simp); (case hi => kernel_rfl); (case hold => rfl); (case h1 => kernel_rfl))
  have q4 : Below w2.heap.size w2 (w2.alloc (.cells (adC a) 24)) := (Below.refl _ w2).alloc (Nat.le_refl _) _
  have P4 := below_at q4 P2 (heap_lt P2)
  have A4 := heap_alloc_new w2 (.cells (adC a) 24)
  have b4 := b2.trans (q4.mono b2.size)
  obtain ⟨ga, hga⟩ : ∃ ga, w2.heap.size = ga := ⟨_, rfl⟩
  rw [hga] at A4 ⊢
  generalize w2.alloc (.cells (adC a) 24) = w4 at P4 A4 b4 ⊢
  clear hga P2 b2 q4
  cases ok
  case false =>
    have HR := Lib.hid (split_no (s := s) (by rw [HV.out]))
    go_wp2_with ((with_reducible apply at_store_part 41); (case hx => exact rfl); (case hy => exact rfl); (case hg => exact P4); (case hle => simp); (case hi => kernel_rfl); (case h1 => kernel_rfl); (intro w9 g9 P9; replace P9 := Lib.hid P9))
    refine bodyPost_cell_tmp g _ _ _ rfl rfl P9.out Tryd.underlying41 rfl (by kernel_rfl) rfl ?_
    exact ⟨by rw [HR.out]; rfl, below_grown b4 g9 b4.size (by have := HG.out; omega)⟩
  obtain ⟨n, hn, hp⟩ := split_yes (s := s) (by rw [HV.out])
  rw [HV.out] at hn hp
  simp only at hn hp
  subst hn
  obtain ⟨bb, hbb⟩ : ∃ bb, adeq (firstA a n) a = bb := ⟨_, rfl⟩
  rw [hbb] at hp
  have HR := Lib.hid hp
  go_upto_region 4 with fail
  have r0 : Below w4.heap.size w4 w4.drew := (Below.refl _ _).drew
  have C0 := Ext.at_ (M := fun _ => False) (w := w4.drew) A4 (fun h => h)
  have em := fun w => run_neq_ad w (firstA a n) a
  rw [hbb] at em
  clear hbb hp
  refine rg_begin (fun _ => False) (by kernel_rfl) ?_
  refine rg_take (v := .agg (adC a)) 0 rfl (by kernel_rfl) (by kernel_rfl) (by kernel_rfl) (fun _ _ _ h => h) (by rfl) ?_ ?_
  · (intro x hx; apply run_load_big; (case ho => exact rfl); (case hv => exact rfl); (case hg => exact C0 x hx); (case hu => exact Tryd.underlying24); (case hd => rfl); (case hi => kernel_rfl))
  try simp only [Act.put, List.setIfInBounds_toArray, List.set_cons_zero, List.set_cons_succ]
  refine rg_take (v := ?_) 1 rfl (by kernel_rfl) (by kernel_rfl) (by kernel_rfl) (fun _ _ _ h => h) (by rfl) ?_ ?_; rotate_left
  · (intro x hx; go_simp; first | done | with_reducible rfl | (rw [if_pos (by omega)]; try with_reducible rfl) | (rw [if_neg (by omega)]; try with_reducible rfl))
  try simp only [Act.put, List.setIfInBounds_toArray, List.set_cons_zero, List.set_cons_succ]
  refine rg_take (v := ?_) 2 rfl (by kernel_rfl) (by kernel_rfl) (by kernel_rfl) (fun _ _ _ h => h) (by rfl) ?_ ?_; rotate_left
  · (intro x hx; go_simp; first | done | with_reducible rfl | (rw [if_pos (by omega)]; try with_reducible rfl) | (rw [if_neg (by omega)]; try with_reducible rfl))
  try simp only [Act.put, List.setIfInBounds_toArray, List.set_cons_zero, List.set_cons_succ]
  refine rg_take (v := .agg (adC a)) 4 rfl (by kernel_rfl) (by kernel_rfl) (by kernel_rfl) (fun _ _ _ h => h) (by rfl) ?_ ?_
  · (intro x hx; apply run_load_big; (case ho => exact rfl); (case hv => exact rfl); (case hg => exact C0 x hx); (case hu => exact Tryd.underlying24); (case hd => rfl); (case hi => kernel_rfl))
  try simp only [Act.put, List.setIfInBounds_toArray, List.set_cons_zero, List.set_cons_succ]
  refine rg_step 3 rfl (by kernel_rfl) (by rfl) (fun K hK => ?_)
  go_simp
  refine (rfirst_any _ a n).mono ?_
  rintro e w7 ⟨rfl, q7⟩
  have r7 := r0.trans (q7.mono r0.size)
  refine hK.out _ _ (Ext.below_all _ q7) ?_
  clear hK K; try simp only [Act.put, List.setIfInBounds_toArray, List.set_cons_zero, List.set_cons_succ]
  refine rg_take (v := ?_) 5 rfl (by kernel_rfl) (by kernel_rfl) (by kernel_rfl) (fun _ _ _ h => h) (by rfl) ?_ ?_; rotate_left
  · (intro x hx; go_simp; first | done | with_reducible rfl | (rw [if_pos (by omega)]; try with_reducible rfl) | (rw [if_neg (by omega)]; try with_reducible rfl))
  try simp only [Act.put, List.setIfInBounds_toArray, List.set_cons_zero, List.set_cons_succ]
  refine rg_done (by kernel_rfl) ?_
  have P7 := below_at r7 P4 (heap_lt P4)
  have A7 := below_at r7 A4 (heap_lt A4)
  have b7 := b4.trans (r7.mono b4.size)
  clear P4 A4 b4 r0 C0 em
  cases bb
  · go_wp2_with ((with_reducible apply at_store_part 41); (case hx => exact rfl); (case hy => exact rfl); (case hg => exact P7); (case hle => simp); (case hi => kernel_rfl); (case h1 => kernel_rfl); (intro w9 g9 P9; replace P9 := Lib.hid P9))
    refine bodyPost_cell_tmp g _ _ _ rfl rfl P9.out Tryd.underlying41 rfl (by kernel_rfl) rfl ?_
    exact ⟨by rw [HR.out]; rfl, below_grown b7 g9 b7.size (by have := HG.out; omega)⟩
  · go_wp2_with (((with_reducible apply at_load_row 24); (case hx => exact rfl); (case hg => exact A7); (case hu => exact Tryd.underlying24); (case hd => rfl); (case hi => kernel_rfl)); (refine Hid.out ?_))
    refine Lib.hid ?_
    go_wp2_with ((with_reducible apply at_store_part 41); (case hx => exact rfl); (case hy => exact rfl); (case hg => exact P7); (case hle => simp); (case hi => kernel_rfl); (case h1 => exact netC_one a _); (intro w9 g9 P9; replace P9 := Lib.hid P9))
    have P10 := P9.out
    rw [splice5] at P10
    refine bodyPost_cell_tmp g _ _ _ rfl rfl P10 Tryd.underlying41 rfl (by kernel_rfl) rfl ?_
    exact ⟨by rw [HR.out]; rfl, below_grown b7 g9 b7.size (by have := HG.out; omega)⟩
end Go.Proofs.YtabmgggmailomaaDoor
