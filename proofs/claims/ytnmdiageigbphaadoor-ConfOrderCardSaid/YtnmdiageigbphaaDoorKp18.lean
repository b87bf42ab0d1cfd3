/-
  conf: Parse, for texts of ASCII signs whose names are neither fixed nor open.
-/
import Derived.Test.YtnmdiageigbphaaDoorKp17
namespace Go.Proofs.YtnmdiageigbphaaDoor
open Go.RowKit

section
variable {P : Program}
theorem results_cell_tmp2 {fn : Func} {p u v : Tmp} {ty : TypeId} (h : fn.results = #[.cell p ty, .tmp u, .tmp v]) (tmps : Array Value) (w : World) :
    (results fn tmps).run P w =
      ((asAddr (tmps.getD p undef)).run P w).andThen fun a w₁ => ((loadVar ty a).run P w₁).andThen fun x w₂ => .ok (.tuple #[x, tmps.getD u undef, tmps.getD v undef]) w₂ := by
  simp only [results, h]
  simp [Sem.run_bind, Result.andThen]
theorem bodyPost_cell_tmp2 {fn : Func} {R : Ending → World → Prop} {a : Act} {w : World} {p u v : Tmp} {ty : TypeId} (g : Nat) (t : TypeId) (cs : Array Value) (d : TypeDesc) (h : fn.results = #[.cell p ty, .tmp u, .tmp v])
    (hp : a.tmps.getD p undef = .pointer (some ⟨g, 0, none⟩)) (hg : w.heap[g]? = some (.cells cs t (0, 0)))
    (hu : P.underlying ty = some d) (hd : (match d with | .struct _ | .array _ _ => true | _ => false) = true) (hi : (P.info? ty).map (·.size) = some cs.size)
    (hf : a.defers = []) (hR : R (.returned (.tuple #[.agg cs, a.tmps.getD u undef, a.tmps.getD v undef])) w) : bodyPost P fn R .ret a w := by
  refine bodyPost_ret ?_ hf hR
  rw [results_cell_tmp2 h, hp]
  simp [asAddr, run_loadVar_row w g t ty cs (0, 0) d hg hu hd hi]
theorem at_load_mid {ops : Array Oper} {rest : List Oper} {a : Act} {w : World} {Q : Exit → Act → World → Prop} (ty : TypeId) {d : Option Tmp} {T : TypeId} {pos : String} {aft : Array Edge} {x : Operand}
    (b o : Nat) (hx : a.eval x = .pointer (some ⟨b, o, none⟩)) (cs : Array Value) (e : TypeDesc) (hc : w.rangeAt b o cs.toList)
    (hu : P.underlying ty = some e) (hd : e.isRow = true) (hi : (P.info? ty).map (·.size) = some cs.toList.length)
    (h : wpList P ops Q rest (a.put d (.agg cs)) w) : wpList P ops Q (⟨d, .load ty x, T, pos, aft, none⟩ :: rest) a w :=
  wpList_load_mid rfl ty x rfl b o hx cs.toList e hc hu hd hi (by simpa using h)
end
theorem RB.range {w : World} {g : Nat} {c : Cf} {vf vo vs : Value} (h : RB w g c vf vo vs) : w.rangeAt g 0 (cfC c vf vo).toList := by
  have := World.rangeAt_of_block h 0 40
  rwa [show ((rdC c vf vo vs).extract 0 (0 + 40)).toList = (cfC c vf vo).toList by simp] at this
/-- The lines, one behind the other. -/
def goL : Cf → List (List UInt8) → Nat → List (List UInt8) → Int × Nat × Cf × List (List UInt8)
  | c, S, i, [] => (0, i, c, S)
  | c, S, i, t :: r => if (lineV c S t).1 = 0 then goL (lineV c S t).2.1 (lineV c S t).2.2 (i + 1) r else ((lineV c S t).1, i + 1, c, S)
theorem goL_step {L : List (List UInt8)} {i : Nat} (h : i < L.length) (c : Cf) (S : List (List UInt8)) :
    goL c S i (L.drop i) = if (lineV c S (L.getD i [])).1 = 0 then goL (lineV c S (L.getD i [])).2.1 (lineV c S (L.getD i [])).2.2 (i + 1) (L.drop (i + 1)) else ((lineV c S (L.getD i [])).1, i + 1, c, S) := by
  rw [List.drop_eq_getElem_cons h, show L.getD i [] = L[i] by simp [List.getD, h]]
  rfl
def resR (r : Int × Nat × Cf × List (List UInt8)) (c' : Cf) : Cf × Int × Int := if r.1 = 0 then (if chkE c' = 0 then c' else cf0, 0, chkE c') else (cf0, r.2.1, r.1)
def ConfP (w : World) (v : Cf × Int × Int) (e : Ending) (w' : World) : Prop := e = .returned (.tuple #[.agg (cfC v.1 nilS nilS), .int .i64 v.2.1, .int .i64 v.2.2]) ∧ Below w.heap.size w w'
set_option maxRecDepth 100000 in
set_option maxHeartbeats 4000000 in
theorem confParse_any (w : World) (hm : mlIs w) (t : List UInt8) (hl : t.length ≤ 16384) (hn : (linesV t).length ≤ 400)
    (hx : ∀ x ∈ linesV t, asc x ∧ x.length ≤ 1000000 ∧ nameOf x ≠ nFixed ∧ nameOf x ≠ nOpen) (r : Int × Nat × Cf × List (List UInt8)) (hr : goL usC [] 0 (linesV t) = r) (c' : Cf) (he : r.1 = 0 → EndsOk r.2.2.1 r.2.2.2 c') :
    Calls Tryd.prog 9 #[.string (str t)] w (ConfP w (resR r c')) := by
  have hmp := hm.pos
  have R0 := heap_alloc_new w (.cells cfZ 34)
  have b0 : Below w.heap.size w (w.alloc (.cells cfZ 34)) := (Below.refl _ w).alloc (Nat.le_refl _) _
  have hts : (str t).size = t.length := rfl
  have hd1 : decide (16384 < (t.length : Int)) = false := decide_eq_false (by omega)
  have hli := fun w hm => lines_any w hm t (by omega)
  unfold LinesP at hli
  obtain ⟨L, hL⟩ : ∃ L, linesV t = L := ⟨_, rfl⟩
  rw [hL] at hn hr hx
  simp only [hL] at hli
  go_enter Tryd.func9, Tryd.ntmps9
  go_upto_region 1 with fail
  change Code.wp _ _ _ _ (w.alloc (.cells cfZ 34))
  generalize w.alloc (.cells cfZ 34) = w0 at R0 b0 ⊢
  obtain ⟨g0, hg0⟩ : ∃ g, w.heap.size = g := ⟨_, rfl⟩
  rw [hg0] at R0 b0 hmp ⊢
  have HG0 := Lib.hid hg0
  have hm0 := hm.below b0 hmp
  have hz0 := heap_lt R0
  clear hg0 hm hL hl
  go_wp2_with fail
  refine (hli w0 hm0).mono ?_
  rintro e w1 ⟨A, n, cc, rfl, hnL, hnc, hrow, q1⟩
  have R1 := below_at q1 R0 hz0
  have m1 := hm0.below q1 (by omega)
  have b1 := b0.trans (q1.mono (by omega))
  have hz1 := q1.size
  have hd2 : decide (400 < (n : Int)) = false := decide_eq_false (by omega)
  have HNL := Lib.hid hnL
  have HN := Lib.hid hn
  clear hli R0 b0 hm0 q1 hnL hn
  go_wp2_with fail
  refine (usual_any w1).mono ?_
  rintro e w2 ⟨rfl, q2⟩
  have R2 := below_at q2 R1 (by omega)
  have m2 := m1.below q2 (by omega)
  have b2 := b1.trans (q2.mono (by omega))
  have row2 := hrow.below q2
  have hz2 := q2.size
  clear R1 m1 b1 q2 hrow
  have hmm := @run_makeMap Tryd.prog
  go_upto_region 5 with fail
  have P3 : ((w2.alloc (.map #[] 0)).alloc (.cells (rdC usC nilS nilS (.map (some w2.heap.size))) 62)).heap[w2.heap.size + 1]? = some (.cells (rdC usC nilS nilS (.map (some w2.heap.size))) 62 (0, 0)) := heap_alloc_at (by simp)
  have q3 : Below w2.heap.size w2 ((w2.alloc (.map #[] 0)).alloc (.cells (rdC usC nilS nilS (.map (some w2.heap.size))) 62)) := ((Below.refl _ w2).alloc (Nat.le_refl _) _).alloc (by simp) _
  have M3 : MB ((w2.alloc (.map #[] 0)).alloc (.cells (rdC usC nilS nilS (.map (some w2.heap.size))) 62)) w2.heap.size 0 [] := (MB.made w2).below ((Below.refl _ _).alloc (Nat.le_refl _) _)
  generalize (w2.alloc (.map #[] 0)).alloc (.cells (rdC usC nilS nilS (.map (some w2.heap.size))) 62) = w3 at P3 q3 M3 ⊢
  have R3 := below_at q3 R2 (by omega)
  have m3 := m2.below q3 (by omega)
  have b3 := b2.trans (q3.mono (by omega))
  have row3 := row2.below (q3.mono hz2)
  obtain ⟨sb, hsb⟩ : ∃ sb, w2.heap.size = sb := ⟨_, rfl⟩
  rw [hsb] at P3 M3 hz2 ⊢
  have hs0 : g0 < sb := by omega
  have HB := Lib.hid hz2
  have P4 : RB w3 (sb + 1) usC nilS nilS (.map (some sb)) := P3
  obtain ⟨g, hg⟩ : ∃ g, sb + 1 = g := ⟨_, rfl⟩
  rw [hg] at P3 P4 ⊢
  have hne : sb ≠ g := by omega
  have hg0 : g0 ≠ g := by omega
  obtain ⟨B, hBB⟩ : ∃ B, w1.heap.size = B := ⟨_, rfl⟩
  rw [hBB] at row3 HB
  have HS := Lib.hid (show sb ≤ w3.heap.size by have := heap_lt P3; omega)
  have HG := Lib.hid hg
  have HX := Lib.hid hx
  have HE := Lib.hid he
  have hbs : g0 ≤ w3.heap.size := by have := heap_lt R3; omega
  clear hmm R2 m2 b2 q3 row2 hsb P3 hz0 hz1 hz2 hg hBB hx he hd1 hd2
  go_wp2_with fail
  go_loopw [28] (fun v wr => ∃ (i N : Nat) (c : Cf) (S : List (List UInt8)), v = .int .i64 i ∧ i ≤ n ∧ goL c S i (L.drop i) = r ∧ RB wr g c nilS nilS (.map (some sb)) ∧ MB wr sb N S ∧ N ≤ i ∧ Ext (fun k => k = g ∨ k = sb) w3 wr)
    (fun v _ => n - (intOf v).toNat)
  case atStart => exact ⟨0, 0, usC, [], rfl, Nat.zero_le _, hr, P4, M3, Nat.le_refl _, Ext.refl _ _⟩
  case round =>
    clear hr P4 M3
    obtain ⟨i, N, c, S, rfl, hi, hgo, P, M, hNi, ex⟩ := hrel
    have hbel : Below sb w3 wr := ex.below HS.out (by have := HG.out; rintro k hk (h | h) <;> omega)
    have R := below_at hbel R3 hs0
    have m := m3.below hbel (by omega)
    have b4 := b3.trans (hbel.mono (by omega))
    have row4 := row3.below (hbel.mono HB.out)
    have hb4 : g0 ≤ wr.heap.size := by have := heap_lt R; omega
    have HGO := Lib.hid hgo
    clear hgo R3 m3 b3 row3 hbel hbs
    by_cases hlt : i < n
    · have hstep := goL_step (L := L) (i := i) (by have := HNL.out; omega) c S
      rw [HGO.out] at hstep
      obtain ⟨b, o, rfl, hbl, hcell⟩ := row4.at_ (k := i) (u := .string (str (L.getD i []))) (by have := HNL.out; simp [sv, List.getD, show i < L.length by omega])
      obtain ⟨ha, hl, hf, ho⟩ := HX.out (L.getD i []) (by have := HNL.out; simp [List.getD, show i < L.length by omega])
      obtain ⟨x, hx⟩ : ∃ x, L.getD i [] = x := ⟨_, rfl⟩
      rw [hx] at hstep hcell ha hl hf ho
      have HST := Lib.hid hstep
      have hin : (0 : Int) ≤ (i : Int) ∧ (i : Int) < (n : Int) := by omega
      have w64 : IntKind.i64.wrap ((i : Int) + 1) = (i : Int) + 1 := IntWalk.i64_in _ (by have := HNL.out; have := HN.out; omega)
      clear hstep hx row4
      go_wp2_with fail
      refine (line_any wr m g sb N c nilS nilS S P M (by have := HNL.out; have := HN.out; omega) hne x ha hl hf ho).mono ?_
      rintro e w5 ⟨N', hN', rfl, P5, M5, ex5⟩
      have ex6 := ex.trans ex5
      have hbel5 : Below sb wr w5 := ex5.below (by have := M.lt; omega) (by have := HG.out; rintro k hk (h | h) <;> omega)
      have R5 := below_at hbel5 R hs0
      have b5 := b4.trans (hbel5.mono (by omega))
      have hb5 : g0 ≤ w5.heap.size := by have := hbel5.size; omega
      obtain ⟨⟨e1, c1, S1⟩, hv⟩ : ∃ v, lineV c S x = v := ⟨_, rfl⟩
      have HST2 := Lib.hid (show r = if e1 = 0 then goL c1 S1 (i + 1) (L.drop (i + 1)) else (e1, i + 1, c, S) by have := HST.out; rw [hv] at this; exact this)
      rw [hv] at P5 M5 ⊢
      clear P M ex ex5 hbel5 R m b4 hb4 hv hcell ha hl hf ho HST HGO
      simp only at P5 M5 ⊢
      by_cases h0 : e1 = 0
      · have HST3 := Lib.hid (show goL c1 S1 (i + 1) (L.drop (i + 1)) = r by rw [HST2.out, if_pos h0])
        subst h0
        go_wp2_with fail
        go_roundw
        case rel => exact ⟨i + 1, N', c1, S1, by push_cast; rfl, by omega, HST3.out, P5, M5, by omega, ex6⟩
        case measure => simp [intOf]; omega
      · have d1 : (e1 != 0) = true := by simpa using h0
        have HR := Lib.hid (show resR r c' = (cf0, ((i : Int) + 1), e1) by rw [HST2.out, if_neg h0, resR, if_neg (by exact h0)]; rfl)
        clear h0
        go_wp2_with ((with_reducible apply at_store_part 34); (case hx => exact rfl); (case hy => exact rfl); (case hg => exact R5); (case hle => simp); (case hi => kernel_rfl); (case h1 => kernel_rfl); (intro w6 g6 R6; replace R6 := Lib.hid R6))
        have R7 : w6.heap[g0]? = some (.cells (spliceAt cfZ 0 (cfC cf0 nilS nilS).toList) 34 (0, 0)) := R6.out
        rw [spliceZ] at R7
        refine bodyPost_cell_tmp2 g0 _ _ _ rfl rfl R7 Tryd.underlying34 rfl (by kernel_rfl) rfl ?_
        exact ⟨by rw [HR.out]; rfl, by rw [HG0.out]; exact below_grown b5 g6 hb5 (Nat.le_refl _)⟩
    · obtain rfl : i = n := by omega
      have hr0 : (0, i, c, S) = r := by
        have := HGO.out
        rw [List.drop_of_length_le (by have := HNL.out; omega)] at this
        exact this
      have hends := HE.out (by rw [← hr0]) wr g sb N nilS nilS (by rw [← hr0]; exact P) (by rw [← hr0]; exact M) hne
      have HR0 := Lib.hid (show resR r c' = (if chkE c' = 0 then c' else cf0, 0, chkE c') by rw [← hr0]; rfl)
      clear hr0 HGO row4
      go_wp2_with fail
      refine hends.mono ?_
      rintro e w5 ⟨rfl, P5, g5⟩
      have R5 := grown_at g5 R (by omega)
      have b5 := below_grown b4 g5 hb4 (by have := HG.out; omega)
      have hb5 : g0 ≤ w5.heap.size := by have := g5.size; omega
      clear hends P M ex R m b4 hb4 g5
      go_wp2_with ((with_reducible apply at_load_mid 34); (case hx => exact rfl); (case hc => exact P5.range); (case hu => exact Tryd.underlying34); (case hd => rfl); (case hi => kernel_rfl))
      refine (check_any w5 c').mono ?_
      rintro e w6 ⟨rfl, q6⟩
      have P6 : RB w6 g c' nilS nilS (.map (some sb)) := below_at q6 P5 (heap_lt P5)
      have R6 := below_at q6 R5 (heap_lt R5)
      have b6 := b5.trans (q6.mono hb5)
      have hb6 : g0 ≤ w6.heap.size := by have := q6.size; omega
      obtain ⟨k, hk⟩ : ∃ k, chkE c' = k := ⟨_, rfl⟩
      rw [hk] at HR0 ⊢
      clear R5 P5 b5 hb5 q6 hk
      by_cases h0 : k = 0
      · have HR := Lib.hid (show resR r c' = (c', 0, 0) by rw [HR0.out, if_pos h0, h0])
        subst h0
        go_wp2_with (first | ((with_reducible apply at_load_mid 34); (case hx => exact rfl); (case hc => exact P6.range); (case hu => exact Tryd.underlying34); (case hd => rfl); (case hi => kernel_rfl)) | ((with_reducible apply at_store_part 34); (case hx => exact rfl); (case hy => exact rfl); (case hg => exact R6); (case hle => simp); (case hi => kernel_rfl); (case h1 => kernel_rfl); (intro w7 g7 R7; replace R7 := Lib.hid R7)))
        have R8 := R7.out
        rw [spliceZ] at R8
        refine bodyPost_cell_tmp2 g0 _ _ _ rfl rfl R8 Tryd.underlying34 rfl (by kernel_rfl) rfl ?_
        exact ⟨by rw [HR.out]; rfl, by rw [HG0.out]; exact below_grown b6 g7 hb6 (Nat.le_refl _)⟩
      · have d1 : (k != 0) = true := by simpa using h0
        have HR := Lib.hid (show resR r c' = (cf0, 0, k) by rw [HR0.out, if_neg h0])
        clear h0
        go_wp2_with ((with_reducible apply at_store_part 34); (case hx => exact rfl); (case hy => exact rfl); (case hg => exact R6); (case hle => simp); (case hi => kernel_rfl); (case h1 => kernel_rfl); (intro w7 g7 R7; replace R7 := Lib.hid R7))
        have R8 : w7.heap[g0]? = some (.cells (spliceAt cfZ 0 (cfC cf0 nilS nilS).toList) 34 (0, 0)) := R7.out
        rw [spliceZ] at R8
        refine bodyPost_cell_tmp2 g0 _ _ _ rfl rfl R8 Tryd.underlying34 rfl (by kernel_rfl) rfl ?_
        exact ⟨by rw [HR.out]; rfl, by rw [HG0.out]; exact below_grown b6 g7 hb6 (Nat.le_refl _)⟩
end Go.Proofs.YtnmdiageigbphaaDoor
