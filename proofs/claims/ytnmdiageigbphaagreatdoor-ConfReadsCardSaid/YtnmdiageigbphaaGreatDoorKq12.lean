/-
  conf: Parse, any text.
-/
import Derived.Test.YtnmdiageigbphaaGreatDoorKq11
import Derived.Test.YtnmdiageigbphaaGreatDoorKe1
import Derived.Test.YtnmdiageigbphaaGreatDoorBig
import Derived.Test.YtnmdiageigbphaaGreatDoorKp17
namespace Go.Proofs.YtnmdiageigbphaaGreatDoor
open Go.RowKit

theorem TO.row {w : World} {H K n c k : Nat} {t : TypeId} {A : Option Addr} {l : List Value} (h : TO w H t K A n c k l) : Row w w.heap.size A l ∧ n ≤ c := by
  obtain ⟨_, h⟩ := h
  rcases h.2 with ⟨hv, h0⟩ | ⟨g, cap, cur, hv, _, hg, hnc, _⟩
  · injection hv with _ _ e
    subst h0
    exact ⟨.inl (List.eq_nil_of_length_eq_zero (by simpa using h.1)), by omega⟩
  · injection hv with hA _ e
    refine ⟨.inr ⟨g, 0, hA, (Array.getElem?_eq_some_iff.1 hg).1, fun j u hu => ?_⟩, by omega⟩
    subst hA
    have := h.cells (g := g) rfl j u hu
    rwa [Addr.add_lit] at this
theorem RB.range {w : World} {g : Nat} {c : Cf} {vf vo vs : Value} (h : RB w g c vf vo vs) : w.rangeAt g 0 (cfC c vf vo).toList := by
  have := World.rangeAt_of_block h 0 40
  rwa [show ((rdC c vf vo vs).extract 0 (0 + 40)).toList = (cfC c vf vo).toList by simp] at this
theorem numGoC_lt : ∀ (l : List UInt8) (n i v : Nat), n < 10 ^ i → i ≤ 9 → numGoC n i l = some v → v < 1000000000
  | [], n, i, v, h, hi, e => by
    have : n = v := by simpa [numGoC] using e
    have h2 : (10 : Nat) ^ i ≤ 10 ^ 9 := Nat.pow_le_pow_right (by decide) hi
    have : (10 : Nat) ^ 9 = 1000000000 := rfl
    omega
  | b :: r, n, i, v, h, hi, e => by
    rw [numGoC] at e
    split at e
    · cases e
    · rename_i hc
      exact numGoC_lt r _ (i + 1) v (by rw [Nat.pow_succ]; omega) (by omega) e
theorem numC_lt {s : List UInt8} {v : Nat} (h : numC s = some v) : v < 1000000000 := by
  unfold numC at h
  split at h
  · cases h
  · exact numGoC_lt s 0 0 v (by decide) (by omega) h
theorem valN_lt {x : List UInt8} {v : Nat} (h : valK 110 x = some (.n v)) : v < 1000000000 := by
  have h : valN x = some (.n v) := h
  unfold valN at h
  rcases hn : numC x with _ | k
  · rw [hn] at h; cases h
  · rw [hn] at h
    injection h with h
    injection h with h
    subst h
    exact numC_lt hn
theorem valP_lt {x : List UInt8} {v : Nat} (h : valK 112 x = some (.n v)) : v = 17 ∨ v = 6 := by
  have h : valP x = some (.n v) := h
  unfold valP at h
  split at h
  · injection h with h; injection h with h; exact .inl h.symm
  · split at h
    · injection h with h; injection h with h; exact .inr h.symm
    · cases h
theorem wf_nat {v : Nat} (h : v < 1000000000) : (Lit.int .i64 (v : Int)).wf = true := by
  simp [Lit.wf, IntKind.min, IntKind.max, IntKind.bits, IntKind.signed]
  omega
theorem open_wf {t : List UInt8} {pr po tp : Nat} {x : Ad4} (h : valuesV nOpen t = some [.n pr, .n po, .a x, .n tp]) : wfOp ⟨pr, po, x, tp⟩ := by
  unfold valuesV at h
  split at h
  · cases h
  · rw [show kindsV nOpen = [112, 110, 97, 110] from rfl] at h
    obtain ⟨_, _, v, us, _, h1, h2, e⟩ := vals_cons h
    injection e with e1 e2
    subst e1 e2
    obtain ⟨_, _, v2, us2, _, h3, h4, e⟩ := vals_cons h2
    injection e with e1 e2
    subst e1 e2
    exact ⟨wf_nat (by rcases valP_lt h1 with h | h <;> omega), wf_nat (valN_lt h3)⟩
def wfG (C : Cg) : Prop := ∀ o ∈ C.lo, wfOp o
theorem lineG_wf {C : Cg} (S : List (List UInt8)) (t : List UInt8) (h : wfG C) : wfG (lineG C S t).2.1 := by
  unfold lineG
  split
  · exact h
  · unfold lineGW
    split
    · exact h
    · split
      · rename_i vs hv
        split
        · exact h
        · rcases values_goodL hv with ⟨_, m, x, rfl⟩ | ⟨e, pr, po, x, tp, rfl⟩ | ⟨_, _, v, rfl, _⟩
          · exact h
          · rw [e] at hv
            intro o ho
            rcases List.mem_append.1 ho with ho | ho
            · exact h o ho
            · rw [List.mem_singleton.1 ho]
              exact open_wf hv
          · cases v <;> exact h
      · exact h
/-- The lines, one behind the other. -/
def goG : Cg → List (List UInt8) → Nat → List (List UInt8) → Int × Nat × Cg × List (List UInt8)
  | C, S, i, [] => (0, i, C, S)
  | C, S, i, t :: r => if (lineG C S t).1 = 0 then goG (lineG C S t).2.1 (lineG C S t).2.2 (i + 1) r else ((lineG C S t).1, i + 1, C, S)
theorem goG_step {L : List (List UInt8)} {i : Nat} (h : i < L.length) (C : Cg) (S : List (List UInt8)) :
    goG C S i (L.drop i) = if (lineG C S (L.getD i [])).1 = 0 then goG (lineG C S (L.getD i [])).2.1 (lineG C S (L.getD i [])).2.2 (i + 1) (L.drop (i + 1)) else ((lineG C S (L.getD i [])).1, i + 1, C, S) := by
  rw [List.drop_eq_getElem_cons h, show L.getD i [] = L[i] by simp [List.getD, h]]
  rfl
def usG : Cg := ⟨usC, [], []⟩
def zG : Cg := ⟨cf0, [], []⟩
def endsG (C : Cg) (S : List (List UInt8)) : Cg := { C with c := endsV C.c S }
def resG (r : Int × Nat × Cg × List (List UInt8)) : Cg × Int × Int :=
  if r.1 = 0 then (if chkG (endsG r.2.2.1 r.2.2.2) = 0 then endsG r.2.2.1 r.2.2.2 else zG, 0, chkG (endsG r.2.2.1 r.2.2.2)) else (zG, r.2.1, r.1)
def parseG (t : List UInt8) : Cg × Int × Int := if 16384 < t.length ∨ 400 < (linesV t).length then (zG, 0, 2) else resG (goG usG [] 0 (linesV t))
def ParseGP (w : World) (v : Cg × Int × Int) (e : Ending) (w' : World) : Prop :=
  ∃ A n k A2 n2 k2, e = .returned (.tuple #[.agg (cfC v.1.c (.slice A n k) (.slice A2 n2 k2)), .int .i64 v.2.1, .int .i64 v.2.2]) ∧ n ≤ k ∧ n2 ≤ k2 ∧ CR w' w'.heap.size v.1 A n A2 n2 ∧ Below w.heap.size w w'
theorem Ext.trans_above {M M' : Nat → Prop} {w w' w2 : World} (h : Ext M w w') (k : Ext M' w' w2) (hM : ∀ j, j < w.heap.size → M' j → M j) : Ext M w w2 :=
  ⟨k.os.trans h.os, k.tape.trans h.tape, k.output.trans h.output, Nat.le_trans h.size k.size, fun i hi hn => (k.block i (Nat.lt_of_lt_of_le hi h.size) (fun e => hn (hM i hi e))).trans (h.block i hi hn)⟩
theorem CR.zero (w : World) (c : Cf) : CR w w.heap.size ⟨c, [], []⟩ none 0 none 0 := ⟨.inl rfl, rfl, by omega, .inl rfl, rfl, by omega, fun _ h => by cases h⟩
theorem lines_len {t : List UInt8} : ∀ x ∈ linesV t, x.length ≤ t.length := by
  intro x hx
  refine cutB_mem 10 t x ?_
  unfold linesV at hx
  split at hx
  · exact (List.dropLast_sublist _).subset hx
  · exact hx
set_option maxRecDepth 100000 in
set_option maxHeartbeats 4000000 in
theorem parse_in (w : World) (hm : mlIs w) (t : List UInt8) (hl : t.length ≤ 16384) (hn : (linesV t).length ≤ 400) (r : Int × Nat × Cg × List (List UInt8)) (hr : goG usG [] 0 (linesV t) = r) :
    Calls Tryz.prog 8 #[.string (str t)] w (ParseGP w (resG r)) := by
  have hmp := hm.pos
  have R0 := heap_alloc_new w (.cells cfZ 32)
  have b0 : Below w.heap.size w (w.alloc (.cells cfZ 32)) := (Below.refl _ w).alloc (Nat.le_refl _) _
  have hts : (str t).size = t.length := rfl
  have hd1 : decide (16384 < (t.length : Int)) = false := decide_eq_false (by omega)
  have hli := fun w hm => lines_any w hm t (by omega)
  unfold LinesP at hli
  have hx := fun x hx => Nat.le_trans (lines_len (t := t) x hx) hl
  obtain ⟨L, hL⟩ : ∃ L, linesV t = L := ⟨_, rfl⟩
  rw [hL] at hn hr hx
  simp only [hL] at hli
  go_enter Tryz.func8, Tryz.ntmps8
  go_upto_region 1 with fail
  change Code.wp _ _ _ _ (w.alloc (.cells cfZ 32))
  generalize w.alloc (.cells cfZ 32) = w0 at R0 b0 ⊢
  obtain ⟨g0, hg0⟩ : ∃ g, w.heap.size = g := ⟨_, rfl⟩
  rw [hg0] at R0 b0 hmp ⊢
  have HG0 := Lib.hid hg0
  have hm0 := hm.below b0 hmp
  have hz0 := heap_lt R0
  clear hg0 hm hL hl
  go_wp2_with fail
  refine (hli w0 hm0).mono ?_
  rintro e w1 ⟨A, n, cc, rfl, hnL, hnc, hrow, q1⟩
  have R1 := below_at q1 R0 hz0
  have m1 := hm0.below q1 (by omega)
  have b1 := b0.trans (q1.mono (by omega))
  have hz1 := q1.size
  have hd2 : decide (400 < (n : Int)) = false := decide_eq_false (by omega)
  have HNL := Lib.hid hnL
  have HN := Lib.hid hn
  clear hli R0 b0 hm0 q1 hnL hn
  go_wp2_with fail
  refine (usual_any w1).mono ?_
  rintro e w2 ⟨rfl, q2⟩
  have R2 := below_at q2 R1 (by omega)
  have m2 := m1.below q2 (by omega)
  have b2 := b1.trans (q2.mono (by omega))
  have row2 := hrow.below q2
  have hz2 := q2.size
  clear R1 m1 b1 q2 hrow
  have hmm := @run_makeMap Tryz.prog
  go_upto_region 5 with fail
  have P3 : ((w2.alloc (.map #[] 0)).alloc (.cells (rdC usC nilS nilS (.map (some w2.heap.size))) 60)).heap[w2.heap.size + 1]? = some (.cells (rdC usC nilS nilS (.map (some w2.heap.size))) 60 (0, 0)) := heap_alloc_at (by simp)
  have q3 : Below w2.heap.size w2 ((w2.alloc (.map #[] 0)).alloc (.cells (rdC usC nilS nilS (.map (some w2.heap.size))) 60)) := ((Below.refl _ w2).alloc (Nat.le_refl _) _).alloc (by simp) _
  have M3 : MB ((w2.alloc (.map #[] 0)).alloc (.cells (rdC usC nilS nilS (.map (some w2.heap.size))) 60)) w2.heap.size 0 [] := (MB.made w2).below ((Below.refl _ _).alloc (Nat.le_refl _) _)
  have P3S : ((w2.alloc (.map #[] 0)).alloc (.cells (rdC usC nilS nilS (.map (some w2.heap.size))) 60)).heap.size = w2.heap.size + 1 + 1 := by simp
  generalize (w2.alloc (.map #[] 0)).alloc (.cells (rdC usC nilS nilS (.map (some w2.heap.size))) 60) = w3 at P3 q3 M3 P3S ⊢
  have R3 := below_at q3 R2 (by omega)
  have m3 := m2.below q3 (by omega)
  have b3 := b2.trans (q3.mono (by omega))
  have row3 := row2.below (q3.mono hz2)
  obtain ⟨sb, hsb⟩ : ∃ sb, w2.heap.size = sb := ⟨_, rfl⟩
  rw [hsb] at P3 M3 hz2 P3S ⊢
  have hs0 : g0 < sb := by omega
  have HB := Lib.hid hz2
  have P4 : RB w3 (sb + 1) usC nilS nilS (.map (some sb)) := P3
  obtain ⟨g, hg⟩ : ∃ g, sb + 1 = g := ⟨_, rfl⟩
  rw [hg] at P3 P4 P3S ⊢
  have hne : sb ≠ g := by omega
  have hg0 : g0 ≠ g := by omega
  obtain ⟨B, hBB⟩ : ∃ B, w1.heap.size = B := ⟨_, rfl⟩
  rw [hBB] at row3 HB
  obtain ⟨H, hH⟩ : ∃ H, w3.heap.size = H := ⟨_, rfl⟩
  have HS := Lib.hid (show g + 1 = H by have h1 := P3S; rw [← hH]; omega)
  have HG := Lib.hid hg
  have HX := Lib.hid hx
  have hbs : g0 ≤ w3.heap.size := by have := heap_lt R3; omega
  have hH0 : H ≤ w3.heap.size := by omega
  have HH := Lib.hid hH
  clear hmm R2 m2 b2 q3 row2 hsb P3 P3S hz0 hz1 hz2 hg hBB hx hd1 hd2 hH
  go_wp2_with fail
  go_loopw [28] (fun v wr => ∃ (i N : Nat) (C : Cg) (S : List (List UInt8)), v = .int .i64 i ∧ i ≤ n ∧ goG C S i (L.drop i) = r ∧ RG wr H g sb N C S ∧ wfG C ∧ N ≤ i ∧ Ext (fun k => k = g ∨ k = sb) w3 wr)
    (fun v _ => n - (intOf v).toNat)
  case atStart => exact ⟨0, 0, usG, [], rfl, Nat.zero_le _, hr, ⟨none, 0, 0, none, 0, 0, P4, TO.nil_ _ _ _ _, TO.nil_ _ _ _ _, M3, Nat.le_refl _, Nat.le_refl _⟩, (fun _ h => by cases h), Nat.le_refl _, Ext.refl _ _⟩
  case round =>
    clear hr P4 M3
    obtain ⟨i, N, C, S, rfl, hi, hgo, RR, hwf, hNi, ex⟩ := hrel
    have hbel : Below sb w3 wr := ex.below (by have := HS.out; have := HG.out; omega) (by have := HG.out; rintro k hk (h | h) <;> omega)
    have hHr : H ≤ wr.heap.size := by have := ex.size; omega
    have R := below_at hbel R3 hs0
    have m := m3.below hbel (by omega)
    have b4 := b3.trans (hbel.mono (by omega))
    have row4 := row3.below (hbel.mono HB.out)
    have hb4 : g0 ≤ wr.heap.size := by have := heap_lt R; omega
    have HGO := Lib.hid hgo
    clear hgo R3 m3 b3 row3 hbel hbs
    by_cases hlt : i < n
    · have hstep := goG_step (L := L) (i := i) (by have := HNL.out; omega) C S
      rw [HGO.out] at hstep
      obtain ⟨b, o, rfl, hbl, hcell⟩ := row4.at_ (k := i) (u := .string (str (L.getD i []))) (by have := HNL.out; simp [sv, List.getD, show i < L.length by omega])
      have hl := HX.out (L.getD i []) (by have := HNL.out; simp [List.getD, show i < L.length by omega])
      obtain ⟨x, hx⟩ : ∃ x, L.getD i [] = x := ⟨_, rfl⟩
      rw [hx] at hstep hcell hl
      have HST := Lib.hid hstep
      have hin : (0 : Int) ≤ (i : Int) ∧ (i : Int) < (n : Int) := by omega
      have w64 : IntKind.i64.wrap ((i : Int) + 1) = (i : Int) + 1 := IntWalk.i64_in _ (by have := HNL.out; have := HN.out; omega)
      clear hstep hx row4
      go_wp2_with fail
      refine (line_all wr m H g sb N C S RR (by have := HNL.out; have := HN.out; omega) hne (by have := HS.out; omega) (by have := HS.out; have := HG.out; omega) hHr x (by omega)).mono ?_
      rintro e w5 ⟨N', hN', rfl, RR5, ex5⟩
      have ex6 : Ext (fun k => k = g ∨ k = sb) w3 w5 := ex.trans_above ex5 (fun k hk => by
        rintro (h | h | h)
        · exact .inl h
        · exact .inr h
        · have := HH.out; omega)
      have hwf5 := lineG_wf S x hwf
      have hbel5 : Below sb wr w5 := ex5.below (by have := HS.out; have := HG.out; omega) (by have := HG.out; have := HS.out; rintro k hk (h | h | h) <;> omega)
      have R5 := below_at hbel5 R hs0
      have b5 := b4.trans (hbel5.mono (by omega))
      have hb5 : g0 ≤ w5.heap.size := by have := hbel5.size; omega
      obtain ⟨⟨e1, C1, S1⟩, hv⟩ : ∃ v, lineG C S x = v := ⟨_, rfl⟩
      have HST2 := Lib.hid (show r = if e1 = 0 then goG C1 S1 (i + 1) (L.drop (i + 1)) else (e1, i + 1, C, S) by have := HST.out; rw [hv] at this; exact this)
      rw [hv] at RR5 hwf5 ⊢
      clear RR ex ex5 hbel5 R m b4 hb4 hv hcell hl HST HGO hwf
      simp only at RR5 hwf5 ⊢
      by_cases h0 : e1 = 0
      · have HST3 := Lib.hid (show goG C1 S1 (i + 1) (L.drop (i + 1)) = r by rw [HST2.out, if_pos h0])
        subst h0
        go_wp2_with fail
        go_roundw
        case rel => exact ⟨i + 1, N', C1, S1, by push_cast; rfl, by omega, HST3.out, RR5, hwf5, by omega, ex6⟩
        case measure => simp [intOf]; omega
      · have d1 : (e1 != 0) = true := by simpa using h0
        have HR := Lib.hid (show resG r = (zG, ((i : Int) + 1), e1) by rw [HST2.out, if_neg h0, resG, if_neg (by exact h0)]; rfl)
        clear h0
        go_wp2_with ((with_reducible apply at_store_part 32); (case hx => exact rfl); (case hy => exact rfl); (case hg => exact R5); (case hle => simp); (case hi => kernel_rfl); (case h1 => kernel_rfl); (intro w6 g6 R6; replace R6 := Lib.hid R6))
        have R7 : w6.heap[g0]? = some (.cells (spliceAt cfZ 0 (cfC cf0 nilS nilS).toList) 32 (0, 0)) := R6.out
        rw [spliceZ] at R7
        refine bodyPost_cell_tmp2 g0 _ _ _ rfl rfl R7 Tryz.underlying32 rfl (by kernel_rfl) rfl ?_
        exact ⟨none, 0, 0, none, 0, 0, by rw [HR.out]; rfl, Nat.le_refl _, Nat.le_refl _, by rw [HR.out]; exact CR.zero _ _, by rw [HG0.out]; exact below_grown b5 g6 hb5 (Nat.le_refl _)⟩
    · obtain rfl : i = n := by omega
      have hr0 : (0, i, C, S) = r := by
        have := HGO.out
        rw [List.drop_of_length_le (by have := HNL.out; omega)] at this
        exact this
      have HR0 := Lib.hid (show resG r = (if chkG (endsG C S) = 0 then endsG C S else zG, 0, chkG (endsG C S)) by rw [← hr0]; rfl)
      obtain ⟨AF, nF, kF, AO, nO, kO, P, F, O, M, hlf, hlo⟩ := RR
      have hends := ends_any C.c S wr g sb N _ _ P M hne
      have HLEN := Lib.hid (⟨hlf, hlo⟩ : _ ∧ _)
      have HI := Lib.hid (show N ≤ 400 by have := HNL.out; have := HN.out; omega)
      have HWF := Lib.hid hwf
      clear hr0 HGO row4 hlf hlo hwf
      go_wp2_with fail
      refine hends.mono ?_
      rintro e w5 ⟨rfl, P5, g5⟩
      have R5 := grown_at g5 R (by omega)
      have F5 := F.kept g5 (F.ne P (by decide))
      have O5 := O.kept g5 (O.ne P (by decide))
      have b5 := below_grown b4 g5 hb4 (by have := HG.out; omega)
      have hb5 : g0 ≤ w5.heap.size := by have := g5.size; omega
      have C5 : CR w5 w5.heap.size (endsG C S) AF nF AO nO := ⟨F5.row.1, F5.1, by have := HLEN.out.1; have := HI.out; have := F5.1; omega, O5.row.1, O5.1, by have := HLEN.out.2; have := HI.out; have := O5.1; omega, HWF.out⟩
      have HK := Lib.hid (⟨F5.row.2, O5.row.2⟩ : _ ∧ _)
      clear hends P M ex R m b4 hb4 g5 F O
      go_wp2_with ((with_reducible apply at_load_mid 32); (case hx => exact rfl); (case hc => exact P5.range); (case hu => exact Tryz.underlying32); (case hd => rfl); (case hi => kernel_rfl))
      refine (check_all w5 (endsG C S) AF nF kF AO nO kO C5).mono ?_
      rintro e w6 ⟨rfl, q6⟩
      have P6 : RB w6 g (endsG C S).c (.slice AF nF kF) (.slice AO nO kO) (.map (some sb)) := below_at q6 P5 (heap_lt P5)
      have R6 := below_at q6 R5 (heap_lt R5)
      have b6 := b5.trans (q6.mono hb5)
      have F6 := F5.below q6
      have O6 := O5.below q6
      have hb6 : g0 ≤ w6.heap.size := by have := q6.size; omega
      obtain ⟨k, hk⟩ : ∃ k, chkG (endsG C S) = k := ⟨_, rfl⟩
      obtain ⟨CE, hCE⟩ : ∃ CE, endsG C S = CE := ⟨_, rfl⟩
      have HFL := Lib.hid (show CE.lf = C.lf ∧ CE.lo = C.lo by rw [← hCE]; exact ⟨rfl, rfl⟩)
      rw [hk] at HR0 ⊢
      rw [hCE] at HR0 P6
      clear R5 P5 b5 hb5 q6 hk C5 F5 O5 hCE
      by_cases h0 : k = 0
      · have HR := Lib.hid (show resG r = (CE, 0, 0) by rw [HR0.out, if_pos h0, h0])
        subst h0
        have HP6 := Lib.hid P6.range
        have HF6 := Lib.hid F6
        have HO6 := Lib.hid O6
        clear P6 F6 O6
        go_wp2_with (first | ((with_reducible apply at_load_mid 32); (case hx => exact rfl); (case hc => exact HP6.out); (case hu => exact Tryz.underlying32); (case hd => rfl); (case hi => kernel_rfl)) | ((with_reducible apply at_store_part 32); (case hx => exact rfl); (case hy => exact rfl); (case hg => exact R6); (case hle => simp); (case hi => kernel_rfl); (case h1 => kernel_rfl); (intro w7 g7 R7; replace R7 := Lib.hid R7)))
        have F7 := HF6.out.kept g7 (HF6.out.ne R6 (by decide))
        have O7 := HO6.out.kept g7 (HO6.out.ne R6 (by decide))
        have R8 := R7.out
        rw [spliceZ] at R8
        refine bodyPost_cell_tmp2 g0 _ _ _ rfl rfl R8 Tryz.underlying32 rfl (by kernel_rfl) rfl ?_
        refine ⟨AF, nF, kF, AO, nO, kO, by rw [HR.out]; rfl, HK.out.1, HK.out.2, ?_, by rw [HG0.out]; exact below_grown b6 g7 hb6 (Nat.le_refl _)⟩
        rw [HR.out]
        refine ⟨by rw [HFL.out.1]; exact F7.row.1, by rw [HFL.out.1]; exact F7.1, by have := HLEN.out.1; have := HI.out; have := F7.1; omega, by rw [HFL.out.2]; exact O7.row.1, by rw [HFL.out.2]; exact O7.1, by have := HLEN.out.2; have := HI.out; have := O7.1; omega, by rw [HFL.out.2]; exact HWF.out⟩
      · have d1 : (k != 0) = true := by simpa using h0
        have HR := Lib.hid (show resG r = (zG, 0, k) by rw [HR0.out, if_neg h0])
        clear h0 F6 O6 P6
        go_wp2_with ((with_reducible apply at_store_part 32); (case hx => exact rfl); (case hy => exact rfl); (case hg => exact R6); (case hle => simp); (case hi => kernel_rfl); (case h1 => kernel_rfl); (intro w7 g7 R7; replace R7 := Lib.hid R7))
        have R8 : w7.heap[g0]? = some (.cells (spliceAt cfZ 0 (cfC cf0 nilS nilS).toList) 32 (0, 0)) := R7.out
        rw [spliceZ] at R8
        refine bodyPost_cell_tmp2 g0 _ _ _ rfl rfl R8 Tryz.underlying32 rfl (by kernel_rfl) rfl ?_
        exact ⟨none, 0, 0, none, 0, 0, by rw [HR.out]; rfl, Nat.le_refl _, Nat.le_refl _, by rw [HR.out]; exact CR.zero _ _, by rw [HG0.out]; exact below_grown b6 g7 hb6 (Nat.le_refl _)⟩
set_option maxRecDepth 100000 in
set_option maxHeartbeats 4000000 in
theorem parse_out (w : World) (hm : mlIs w) (t : List UInt8) (hl : t.length ≤ 100000) (hn : 16384 < t.length ∨ 400 < (linesV t).length) :
    Calls Tryz.prog 8 #[.string (str t)] w (ParseGP w (zG, 0, 2)) := by
  have hmp := hm.pos
  have R0 := heap_alloc_new w (.cells cfZ 32)
  have b0 : Below w.heap.size w (w.alloc (.cells cfZ 32)) := (Below.refl _ w).alloc (Nat.le_refl _) _
  have hts : (str t).size = t.length := rfl
  have hli := fun w hm => lines_any w hm t (by omega)
  unfold LinesP at hli
  obtain ⟨ll, hll⟩ : ∃ n, (linesV t).length = n := ⟨_, rfl⟩
  rw [hll] at hn
  have HLL := Lib.hid hll
  clear hll
  rcases Nat.lt_or_ge 16384 t.length with h1 | h1
  case' inl => have d1 : decide (16384 < (t.length : Int)) = true := decide_eq_true (by omega)
  case' inr =>
    have d1 : decide (16384 < (t.length : Int)) = false := decide_eq_false (by omega)
    have d2 : decide (400 < (ll : Int)) = true := decide_eq_true (by omega)
  all_goals
    clear hn h1 hl
    go_enter Tryz.func8, Tryz.ntmps8
    go_upto_region 1 with fail
    change Code.wp _ _ _ _ (w.alloc (.cells cfZ 32))
    generalize w.alloc (.cells cfZ 32) = w0 at R0 b0 ⊢
    have hm0 := hm.below b0 hmp
    have hbs := b0.size
    obtain ⟨g0, hg0⟩ : ∃ g, w.heap.size = g := ⟨_, rfl⟩
    rw [hg0] at R0 b0 hbs ⊢
    have HG0 := Lib.hid hg0
    clear hm hg0 hmp
    go_wp2_with fail
    refine (hli w0 hm0).mono ?_
    rintro e w1 ⟨A, n, cc, rfl, hnL, hnc, hrow, q1⟩
    have R1 := below_at q1 R0 (heap_lt R0)
    have b1 := b0.trans (q1.mono hbs)
    obtain rfl : n = ll := by rw [hnL, HLL.out]
    have hz1 := q1.size
    clear hli R0 b0 hm0 q1 hnL hrow hnc
    go_wp2_with ((with_reducible apply at_store_part 32); (case hx => exact rfl); (case hy => exact rfl); (case hg => exact R1); (case hle => simp); (case hi => kernel_rfl); (case h1 => kernel_rfl); (intro w7 g7 R7; replace R7 := Lib.hid R7))
    have R8 : w7.heap[g0]? = some (.cells (spliceAt cfZ 0 (cfC cf0 nilS nilS).toList) 32 (0, 0)) := R7.out
    rw [spliceZ] at R8
    refine bodyPost_cell_tmp2 g0 _ _ _ rfl rfl R8 Tryz.underlying32 rfl (by kernel_rfl) rfl ?_
    exact ⟨none, 0, 0, none, 0, 0, rfl, Nat.le_refl _, Nat.le_refl _, CR.zero _ _, by rw [HG0.out]; exact below_grown b1 g7 (by omega) (Nat.le_refl _)⟩
theorem parse_all (w : World) (hm : mlIs w) (t : List UInt8) (hl : t.length ≤ 100000) : Calls Tryz.prog 8 #[.string (str t)] w (ParseGP w (parseG t)) := by
  unfold parseG
  by_cases h : 16384 < t.length ∨ 400 < (linesV t).length
  · rw [if_pos h]; exact parse_out w hm t hl h
  · rw [if_neg h]; exact parse_in w hm t (by omega) (by omega) _ rfl
end Go.Proofs.YtnmdiageigbphaaGreatDoor
