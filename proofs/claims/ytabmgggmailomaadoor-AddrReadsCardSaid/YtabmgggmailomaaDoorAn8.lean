/-
  The reading of a net (package addr).
-/
import Derived.Test.YtabmgggmailomaaDoorAn7
namespace Go.Proofs.YtabmgggmailomaaDoor
open Go.RowKit

def adeq (m o : Ad4) : Bool := m.bytes == o.bytes
theorem adeq_iff (m o : Ad4) : adeq m o = true ↔ m = o := by
  cases m; cases o; simp [adeq, Ad4.bytes]
theorem adeq_self (m : Ad4) : adeq m m = true := (adeq_iff m m).2 rfl
theorem run_eql_ad (w : World) (m o : Ad4) : (binOp .eql 24 (adV m) (adV o)).run Tryd.prog w = .ok (.bool (adeq m o)) w :=
  run_eql_bytes (P := Tryd.prog) w 24 5 4 Tryd.underlying24 Tryd.underlying5 (fun w => by kernel_rfl) m.bytes o.bytes rfl rfl
theorem run_neq_of {t : TypeId} {xs ys : Array Value} {w : World} {b : Bool} (h : (binOp .eql t (.agg xs) (.agg ys)).run Tryd.prog w = .ok (.bool b) w) : (binOp .neq t (.agg xs) (.agg ys)).run Tryd.prog w = .ok (.bool (!b)) w := by
  rw [run_neq_struct]
  rw [run_eql_struct] at h
  rcases hx : (Op.equalIn 10000 t (.agg xs) (.agg ys)).run Tryd.prog w with _ | _ | _ | _ <;> rw [hx] at h <;> simp_all [Result.andThen]
theorem run_neq_ad (w : World) (m o : Ad4) : (binOp .neq 24 (adV m) (adV o)).run Tryd.prog w = .ok (.bool (!adeq m o)) w := run_neq_of (run_eql_ad w m o)

def firstA (a : Ad4) (b : Int) : Ad4 := of4 (firstN (numA a) (behN b))
def lastA (a : Ad4) (b : Int) : Ad4 := of4 (lastN (numA a) (behN b))
theorem parseV_err (s : List UInt8) : (parseV s).2 = 0 ∨ (parseV s).2 = 9 := by
  unfold parseV
  split <;> simp
/-- What the reading of a net gives of its two parts. -/
def netOf (p0 p1 : List UInt8) : (Ad4 × Nat) × Int :=
  if (parseV p0).2 ≠ 0 ∨ numOk p1 32 = false then ((ad0, 0), 9)
  else if adeq (firstA (parseV p0).1 (numV p1)) (parseV p0).1 = true then (((parseV p0).1, numV p1), 0) else ((ad0, 0), 1)
def parseNV (s : List UInt8) : (Ad4 × Nat) × Int := if (cutB 47 s).length = 2 then netOf ((cutB 47 s).getD 0 []) ((cutB 47 s).getD 1 []) else ((ad0, 0), 9)
def ParseNPost (w : World) (s : List UInt8) (e : Ending) (w' : World) : Prop := e = .returned (.tuple #[netV (parseNV s).1.1 (parseNV s).1.2, .int .i64 (parseNV s).2]) ∧ Below w.heap.size w w'
abbrev z5 : Array Value := #[.int .u8 0, .int .u8 0, .int .u8 0, .int .u8 0, .int .i64 0]
theorem splice5 (a : Ad4) (b : Int) : spliceAt z5 0 (netC a b).toList = netC a b := by simp [spliceAt]
theorem netC_one (a : Ad4) (b : Int) : (netC a b).all (·.oneCell') = true := by simp [Value.oneCell']

set_option maxRecDepth 100000 in
set_option maxHeartbeats 4000000 in
theorem parseNet_any (w : World) (s : List UInt8) (hl : s.length ≤ 1099511627776) : Calls Tryd.prog 11 #[.string (str s)] w (ParseNPost w s) := by
  go_enter Tryd.func11, Tryd.ntmps11
  go_wp2_with fail
  have b0 : Below w.heap.size w (w.alloc (.cells z5 29)) := (Below.refl _ w).alloc (Nat.le_refl _) _
  have P0 : (w.alloc (.cells z5 29)).heap[w.heap.size]? = some (.cells z5 29 (0, 0)) := heap_alloc_new w _
  obtain ⟨g, hg⟩ : ∃ g, w.heap.size = g := ⟨_, rfl⟩
  rw [hg] at P0 ⊢
  generalize w.alloc (.cells z5 29) = w1 at b0 P0 ⊢
  refine (parts_any w1 s 47 (by decide) hl).mono ?_
  rintro e w2 ⟨A, n, cc, rfl, ho, q2⟩
  have P2 := below_at q2 P0 (heap_lt P0)
  have b2 := b0.trans (q2.mono b0.size)
  have hn := ho.1
  have HG := Lib.hid hg
  have HN := Lib.hid hn
  clear hn hg b0 P0 q2
  by_cases h2 : n = 2
  case neg =>
    have x1 : ((n : Int) != 2) = true := by rw [bne_iff_ne]; omega
    have HV := Lib.hid (show parseNV s = ((ad0, 0), 9) by rw [parseNV, if_neg (by have := HN.out; omega)])
    clear h2
    go_wp2_with ((with_reducible apply at_store_part 29); (case hx => exact rfl); (case hy => exact rfl); (case hg => exact P2); (case hle => simp); (case hi => kernel_rfl); (case h1 => kernel_rfl); (intro w3 g3 P3; replace P3 := Lib.hid P3))
    refine bodyPost_cell_tmp g _ _ _ rfl rfl P3.out Tryd.underlying29 rfl (by kernel_rfl) rfl ?_
    exact ⟨by rw [HV.out]; rfl, below_grown b2 g3 b2.size (by have := HG.out; omega)⟩
  obtain ⟨b, o, rfl, hbl, _⟩ := ho.at_ (getD_some [] (show 0 < (cutB 47 s).length by have := HN.out; omega))
  subst h2
  have hps := show parseNV s = netOf ((cutB 47 s).getD 0 []) ((cutB 47 s).getD 1 []) by rw [parseNV, if_pos HN.out.symm]
  have c0 := (ho.cell (getD_some [] (show 0 < (cutB 47 s).length by have := HN.out; omega))).2
  have c1 := (ho.cell (getD_some [] (show 1 < (cutB 47 s).length by have := HN.out; omega))).2
  have l0 : ((cutB 47 s).getD 0 []).length ≤ 1099511627776 := Nat.le_trans (cutB_mem 47 s _ (List.mem_iff_getElem?.2 ⟨0, getD_some [] (by have := HN.out; omega)⟩)) hl
  have l1 : ((cutB 47 s).getD 1 []).length ≤ 1099511627776 := Nat.le_trans (cutB_mem 47 s _ (List.mem_iff_getElem?.2 ⟨1, getD_some [] (by have := HN.out; omega)⟩)) hl
  obtain ⟨p0, e0⟩ : ∃ p, (cutB 47 s).getD 0 [] = p := ⟨_, rfl⟩
  obtain ⟨p1, e1⟩ : ∃ p, (cutB 47 s).getD 1 [] = p := ⟨_, rfl⟩
  rw [e0] at c0 l0 hps
  rw [e1] at c1 l1 hps
  rw [Nat.add_zero] at c0
  have HPS := Lib.hid hps
  have C1 := Lib.hid c1
  clear hps e0 e1 c1 ho
  go_wp2_with fail
  refine (parse_any w2 p0 l0).mono ?_
  obtain ⟨v, hv⟩ : ∃ v, parseV p0 = v := ⟨_, rfl⟩
  obtain ⟨a, er⟩ := v
  have HV := Lib.hid hv
  unfold ParsePost
  rw [hv]
  rintro e w3 ⟨rfl, q3⟩
  have P3 := below_at q3 P2 (heap_lt P2)
  have b3 := b2.trans (q3.mono b2.size)
  have d1 := grown_cell (k := w2.heap.size) (grown_of_below _ q3) hbl (by omega) C1.out
  clear c0 P2 b2 hv
  go_upto_region 5 with ((with_reducible apply at_store_new 24); (case hx => exact rfl); (case hy => exact rfl); (case hg => first | rfl | simp); (case hi => kernel_rfl); (case hold => rfl); (case h1 => kernel_rfl))
  have q4 : Below w3.heap.size w3 (w3.alloc (.cells (adC a) 24)) := (Below.refl _ w3).alloc (Nat.le_refl _) _
  have P4 := below_at q4 P3 (heap_lt P3)
  have A4 := heap_alloc_new w3 (.cells (adC a) 24)
  have b4 := b3.trans (q4.mono b3.size)
  have hb3 : b < w3.heap.size := by have := q3.size; omega
  have d2 := grown_cell (k := w3.heap.size) (grown_of_below _ q4) hb3 (by omega) d1
  obtain ⟨ga, hga⟩ : ∃ ga, w3.heap.size = ga := ⟨_, rfl⟩
  rw [hga] at A4 ⊢
  generalize w3.alloc (.cells (adC a) 24) = w4 at P4 A4 b4 d2 ⊢
  have HGA := Lib.hid (heap_lt P3)
  rw [hga] at HGA
  clear hga P3 b3 d1 q3 q4 hb3
  go_wp2_with fail
  refine (num_any w4 p1 32 l1 (by decide)).mono ?_
  rintro e w5 ⟨rfl, q5⟩
  have P5 := below_at q5 P4 (heap_lt P4)
  have A5 := below_at q5 A4 (heap_lt A4)
  have b5 := b4.trans (q5.mono b4.size)
  clear P4 A4 b4 q5 d2
  go_upto_region 7 with (first
    | ((with_reducible apply at_load_row 24); (case hx => exact rfl); (case hg => exact A5); (case hu => exact Tryd.underlying24); (case hd => rfl); (case hi => kernel_rfl))
    | ((with_reducible apply at_store_new 29); (case hx => exact rfl); (case hy => exact rfl); (case hg => first | rfl | simp); (case hi => kernel_rfl); (case hold => rfl); (case h1 => kernel_rfl)))
  have q6 : Below w5.heap.size w5 (w5.alloc (.cells (netC a (numV p1)) 29)) := (Below.refl _ w5).alloc (Nat.le_refl _) _
  have P6 := below_at q6 P5 (heap_lt P5)
  have A6 := below_at q6 A5 (heap_lt A5)
  have N6 := heap_alloc_new w5 (.cells (netC a (numV p1)) 29)
  have b6 := b5.trans (q6.mono b5.size)
  obtain ⟨gn, hgn⟩ : ∃ gn, w5.heap.size = gn := ⟨_, rfl⟩
  rw [hgn] at N6 ⊢
  generalize w5.alloc (.cells (netC a (numV p1)) 29) = w6 at P6 A6 N6 b6 ⊢
  have HGN := Lib.hid (And.intro (heap_lt A5) (heap_lt P5))
  rw [hgn] at HGN
  clear hgn P5 A5 b5 q6
  have her : er = 0 ∨ er = 9 := by
    have := parseV_err p0
    rw [HV.out] at this
    exact this
  rcases her with rfl | rfl
  case inr =>
    have HR := Lib.hid (show parseNV s = ((ad0, 0), 9) by rw [HPS.out, netOf, HV.out, if_pos (.inl (by simp))])
    go_wp2_with ((with_reducible apply at_store_part 29); (case hx => exact rfl); (case hy => exact rfl); (case hg => exact P6); (case hle => simp); (case hi => kernel_rfl); (case h1 => kernel_rfl); (intro w9 g9 P9; replace P9 := Lib.hid P9))
    refine bodyPost_cell_tmp g _ _ _ rfl rfl P9.out Tryd.underlying29 rfl (by kernel_rfl) rfl ?_
    exact ⟨by rw [HR.out]; rfl, below_grown b6 g9 b6.size (by have := HG.out; omega)⟩
  by_cases hok : numOk p1 32 = true
  case neg =>
    have hok' : numOk p1 32 = false := by simpa using hok
    have HR := Lib.hid (show parseNV s = ((ad0, 0), 9) by rw [HPS.out, netOf, HV.out, if_pos (.inr hok')])
    clear hok
    go_wp2_with ((with_reducible apply at_store_part 29); (case hx => exact rfl); (case hy => exact rfl); (case hg => exact P6); (case hle => simp); (case hi => kernel_rfl); (case h1 => kernel_rfl); (intro w9 g9 P9; replace P9 := Lib.hid P9))
    refine bodyPost_cell_tmp g _ _ _ rfl rfl P9.out Tryd.underlying29 rfl (by kernel_rfl) rfl ?_
    exact ⟨by rw [HR.out]; rfl, below_grown b6 g9 b6.size (by have := HG.out; omega)⟩
  obtain ⟨bb, hbb⟩ : ∃ bb, adeq (firstA a (numV p1)) a = bb := ⟨_, rfl⟩
  have HR := Lib.hid (show parseNV s = if bb = true then ((a, numV p1), 0) else ((ad0, 0), 1) by rw [HPS.out, netOf, HV.out, if_neg (by simp [hok]), hbb])
  go_upto_region 9 with fail
  have r0 : Below w6.heap.size w6 w6.drew := (Below.refl _ _).drew
  have C0 := Ext.at_ (M := fun _ => False) (w := w6.drew) N6 (fun h => h)
  have C2 := Ext.at_ (M := fun _ => False) (w := w6.drew) A6 (fun h => h)
  have em := fun w => run_neq_ad w (firstA a (numV p1)) a
  rw [hbb] at em
  clear hbb hok
  refine rg_begin (fun _ => False) (by kernel_rfl) ?_
  refine rg_take (v := .agg (netC a (numV p1))) 0 rfl (by kernel_rfl) (by kernel_rfl) (by kernel_rfl) (fun _ _ _ h => h) (by rfl) ?_ ?_
  · (intro x hx; apply run_load_big; (case ho => exact rfl); (case hv => exact rfl); (case hg => exact C0 x hx); (case hu => exact Tryd.underlying29); (case hd => rfl); (case hi => kernel_rfl))
  try simp only [Act.put, List.setIfInBounds_toArray, List.set_cons_zero, List.set_cons_succ]
  refine rg_take (v := .agg (adC a)) 2 rfl (by kernel_rfl) (by kernel_rfl) (by kernel_rfl) (fun _ _ _ h => h) (by rfl) ?_ ?_
  · (intro x hx; apply run_load_big; (case ho => exact rfl); (case hv => exact rfl); (case hg => exact C2 x hx); (case hu => exact Tryd.underlying24); (case hd => rfl); (case hi => kernel_rfl))
  try simp only [Act.put, List.setIfInBounds_toArray, List.set_cons_zero, List.set_cons_succ]
  refine rg_step 1 rfl (by kernel_rfl) (by rfl) (fun K hK => ?_)
  go_simp
  refine (first_any _ a (numV p1)).mono ?_
  rintro e w7 ⟨rfl, q7⟩
  have r7 := r0.trans (q7.mono r0.size)
  rw [show of4 (firstN (numA a) (behN (numV p1))) = firstA a (numV p1) from rfl]
  refine hK.out _ _ (Ext.below_all _ q7) ?_
  clear hK K; try simp only [Act.put, List.setIfInBounds_toArray, List.set_cons_zero, List.set_cons_succ]
  refine rg_take (v := ?_) 3 rfl (by kernel_rfl) (by kernel_rfl) (by kernel_rfl) (fun _ _ _ h => h) (by rfl) ?_ ?_; rotate_left
  · (intro x hx; go_simp; first | done | with_reducible rfl | (rw [if_pos (by omega)]; try with_reducible rfl) | (rw [if_neg (by omega)]; try with_reducible rfl))
  try simp only [Act.put, List.setIfInBounds_toArray, List.set_cons_zero, List.set_cons_succ]
  refine rg_take (v := ?_) 4 rfl (by kernel_rfl) (by kernel_rfl) (by kernel_rfl) (fun _ _ _ h => h) (by rfl) ?_ ?_; rotate_left
  · (intro x hx; go_simp; first | done | with_reducible rfl | (rw [if_pos (by omega)]; try with_reducible rfl) | (rw [if_neg (by omega)]; try with_reducible rfl))
  try simp only [Act.put, List.setIfInBounds_toArray, List.set_cons_zero, List.set_cons_succ]
  refine rg_done (by kernel_rfl) ?_
  have P7 := below_at r7 P6 (heap_lt P6)
  have N7 := below_at r7 N6 (heap_lt N6)
  have b7 := b6.trans (r7.mono b6.size)
  clear P6 A6 N6 b6 r0 C0 em C2
  cases bb
  · go_wp2_with ((with_reducible apply at_store_part 29); (case hx => exact rfl); (case hy => exact rfl); (case hg => exact P7); (case hle => simp); (case hi => kernel_rfl); (case h1 => kernel_rfl); (intro w9 g9 P9; replace P9 := Lib.hid P9))
    refine bodyPost_cell_tmp g _ _ _ rfl rfl P9.out Tryd.underlying29 rfl (by kernel_rfl) rfl ?_
    exact ⟨by rw [HR.out]; rfl, below_grown b7 g9 b7.size (by have := HG.out; omega)⟩
  · go_wp2_with (((with_reducible apply at_load_row 29); (case hx => exact rfl); (case hg => exact N7); (case hu => exact Tryd.underlying29); (case hd => rfl); (case hi => kernel_rfl)); (refine Hid.out ?_))
    refine Lib.hid ?_
    go_wp2_with ((with_reducible apply at_store_part 29); (case hx => exact rfl); (case hy => exact rfl); (case hg => exact P7); (case hle => simp); (case hi => kernel_rfl); (case h1 => exact netC_one a _); (intro w9 g9 P9; replace P9 := Lib.hid P9))
    have P10 := P9.out
    rw [splice5] at P10
    refine bodyPost_cell_tmp g _ _ _ rfl rfl P10 Tryd.underlying29 rfl (by kernel_rfl) rfl ?_
    exact ⟨by rw [HR.out]; rfl, below_grown b7 g9 b7.size (by have := HG.out; omega)⟩
end Go.Proofs.YtabmgggmailomaaDoor
