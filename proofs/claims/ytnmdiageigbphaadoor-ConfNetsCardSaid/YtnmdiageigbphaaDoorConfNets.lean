/-
  The walk of the statement ConfNets.
-/
import Derived.Test.YtnmdiageigbphaaDoorNt1
namespace Go.Proofs.YtnmdiageigbphaaDoor
open Go.RowKit

set_option maxRecDepth 100000 in
theorem confNets_out (w : World) (hm : mlIs w) (a : Ad4) (b : Int) (hx : b < 8 ∨ 28 < b) : Calls Tryd.prog 7 #[adV a, .int .i64 b] w (TruePost w) := by
  have b0 : Below w.heap.size w (w.alloc (.cells (adC a) 26)) := (Below.refl _ w).alloc (Nat.le_refl _) _
  have hm0 := hm.below b0 hm.pos
  rcases Int.lt_or_le b 8 with k1 | k1
  case' inl => have d1 : decide (b < 8) = true := decide_eq_true k1
  case' inr =>
    have d1 : decide (b < 8) = false := decide_eq_false (by omega)
    have d2 : decide (28 < b) = true := decide_eq_true (by omega)
  all_goals
    go_enter Tryd.func7, Tryd.ntmps7
    go_upto_region 1 with fail
    generalize w.alloc (.cells (adC a) 26) = w0 at b0 hm0 ⊢
    go_wp2_with fail
    refine (awake10_any w0 hm0).mono ?_
    rintro e w1 ⟨rfl, q1⟩
    have b1 := b0.trans (q1.mono b0.size)
    go_wp2_with fail
    go_ret
    exact ⟨rfl, b1⟩
theorem lanT_adds (a : Ad4) (b : Nat) (hb : b ≤ 1000) : (∀ w, (Op.stringOp .add ⟨#[108, 97, 110, 32, 61, 32]⟩ (str (textA a))).run Tryd.prog w = .ok (.string (str ([108, 97, 110, 32, 61, 32] ++ textA a))) w) ∧
    (∀ w, (Op.stringOp .add (str ([108, 97, 110, 32, 61, 32] ++ textA a)) ⟨#[47]⟩).run Tryd.prog w = .ok (.string (str ([108, 97, 110, 32, 61, 32] ++ textA a ++ [47]))) w) ∧
    (∀ w, (Op.stringOp .add (str ([108, 97, 110, 32, 61, 32] ++ textA a ++ [47])) (str (decB b))).run Tryd.prog w = .ok (.string (str (lanT a b))) w) := by
  have h1 := textA_le a
  have h2 := decB_le b
  refine ⟨fun w => str_addL w [108, 97, 110, 32, 61, 32] (textA a) (by simp; omega), fun w => str_addL w ([108, 97, 110, 32, 61, 32] ++ textA a) [47] (by simp; omega), fun w => ?_⟩
  have h := str_addL w ([108, 97, 110, 32, 61, 32] ++ textA a ++ [47]) (decB b) (by simp; omega)
  rw [h]
  simp [lanT]
set_option maxRecDepth 100000 in
set_option maxHeartbeats 16000000 in
theorem confNets_a (w : World) (hm : mlIs w) (hp : powIs w) (a : Ad4) (b : Nat) (h1 : 8 ≤ b) (h2 : b ≤ 28) (h24 : ¬ 24 < b) : Calls Tryd.prog 7 #[adV a, .int .i64 b] w (TruePost w) := by
  have b0 : Below w.heap.size w (w.alloc (.cells (adC a) 26)) := (Below.refl _ w).alloc (Nat.le_refl _) _
  have P0 := heap_alloc_new w (.cells (adC a) 26)
  have hm0 := hm.below b0 hm.pos
  have hp0 := hp.below b0
  have d1 : decide ((b : Int) < 8) = false := decide_eq_false (by omega)
  have d2 : decide (28 < (b : Int)) = false := decide_eq_false (by omega)
  obtain ⟨a1, a2, a3⟩ := lanT_adds a b (by omega)
  have hpar := net_parse a b h1 h2
  have hlen := lanT_len a b (by omega)
  have HPAR := Lib.hid (show ∀ w, mlIs w → Calls Tryd.prog 9 #[.string (str (lanT a b))] w (ParseGP w (if netOkB a b = true then (⟨netCf a b, [], []⟩, 0, 0) else (zG, 0, 1))) from fun w hm => by
    have h := parse_all w hm (lanT a b) (by omega)
    rw [hpar] at h
    exact h)
  have N := netN a b h1 h2
  have hbe := net_beh b (by omega)
  have HF1 := Lib.hid (num_firstA a b (32 - b) (by omega) hbe)
  have HL1 := Lib.hid (num_lastA a b (32 - b) hbe)
  have HB := Lib.hid (⟨h1, h2⟩ : _ ∧ _)
  obtain ⟨F, hF⟩ : ∃ F, numA a / 2 ^ (32 - b) * 2 ^ (32 - b) = F := ⟨_, rfl⟩
  obtain ⟨P, hP⟩ : ∃ P, (2 : Nat) ^ (32 - b) = P := ⟨_, rfl⟩
  have HOK := Lib.hid (show netOkB a b = (!decide (numA a = F) && !decide (numA a = F + (P - 1)) && (decide (numA a < netLo F b) || decide (netHi F b (32 - b) < numA a))) by rw [netOkB, hF, hP])
  have HHI := Lib.hid (show netHi F b (32 - b) = if 24 < b then (if F + (P - 1) - 1 < F + 33 then F + (P - 1) - 1 else F + 33) else F + 131 by rw [netHi, hP])
  have HC := Lib.hid (show (netCf a b).fst = of4 (netLo F b) ∧ (netCf a b).lst = of4 (netHi F b (32 - b)) ∧ (netCf a b).own = a by rw [← hF]; exact ⟨rfl, rfl, rfl⟩)
  have HHAS := Lib.hid (show ∀ y : Ad4, hasN (numA y) (numA a) (behN b) = (decide (F ≤ numA y) && decide (numA y ≤ F + (P - 1))) from fun y => by
    rw [hbe, has_within _ _ _ (numA_lt y) (numA_lt a) (by omega), firstN_eq _ _ (numA_lt a) (by omega), lastN_eq, hF, hP])
  rw [hF] at N
  rw [hF] at HF1 HL1
  try rw [hF, hP] at h33
  rw [hP] at N HL1
  have HN := Lib.hid N
  obtain ⟨L, hL⟩ : ∃ L, F + (P - 1) = L := ⟨_, rfl⟩
  rw [hL] at HL1 HOK HHI HHAS
  try rw [hL] at h33
  have HLP := Lib.hid hL
  have HIN := Lib.hid (show F ≤ netLo F b ∧ netLo F b ≤ L ∧ F ≤ netHi F b (32 - b) ∧ netHi F b (32 - b) ≤ L ∧ L < 4294967296 by
    have k1 := HN.out.top; have k2 := HN.out.p16; have k3 := HN.out.p256; have k4 := HLP.out
    rw [HHI.out]
    unfold netLo
    split
    · first | omega | (split <;> omega)
    · omega)
  have HNF := Lib.hid (show ∀ w, Calls Tryd.prog 14 #[adV (firstA a b)] w (fun e w' => e = .returned (.int .u32 F) ∧ Below w.heap.size w w') from fun w => by
    have h := numa_any w (firstA a b)
    rwa [HF1.out] at h)
  have HNL := Lib.hid (show ∀ w, Calls Tryd.prog 14 #[adV (lastA a b)] w (fun e w' => e = .returned (.int .u32 L) ∧ Below w.heap.size w w') from fun w => by
    have h := numa_any w (lastA a b)
    rwa [HL1.out] at h)
  have HFI := Lib.hid (show ∀ w, Calls Tryd.prog 15 #[netV a b] w (fun e w' => e = .returned (adV (firstA a b)) ∧ Below w.heap.size w w') from fun w => first_any w a b)
  have HLI := Lib.hid (show ∀ w, Calls Tryd.prog 16 #[netV a b] w (fun e w' => e = .returned (adV (lastA a b)) ∧ Below w.heap.size w w') from fun w => last_any w a b)
  obtain ⟨FA, hFA⟩ : ∃ x, firstA a b = x := ⟨_, rfl⟩
  obtain ⟨LA, hLA⟩ : ∃ x, lastA a b = x := ⟨_, rfl⟩
  rw [hFA] at HNF HFI
  rw [hLA] at HNL HLI
  have hx32 := numA_lt a
  have HNX := Lib.hid (fun w => numa_any w a)
  obtain ⟨x, hx⟩ : ∃ x, numA a = x := ⟨_, rfl⟩
  rw [hx] at HOK HNX hx32
  have HX := Lib.hid hx
  have HX32 := Lib.hid hx32
  clear hF hP N hpar hlen hbe h1 h2 hFA hLA HF1 HL1 hL hx hx32
  have HTX := Lib.hid (fun w hp => text_any w hp a)
  obtain ⟨LT, hLT⟩ : ∃ l, lanT a b = l := ⟨_, rfl⟩
  rw [hLT] at a3 HPAR
  obtain ⟨U2, hU2⟩ : ∃ l, [108, 97, 110, 32, 61, 32] ++ textA a ++ [47] = l := ⟨_, rfl⟩
  rw [hU2] at a2 a3
  obtain ⟨U1, hU1⟩ : ∃ l, [108, 97, 110, 32, 61, 32] ++ textA a = l := ⟨_, rfl⟩
  rw [hU1] at a1 a2
  obtain ⟨TA, hTA⟩ : ∃ l, textA a = l := ⟨_, rfl⟩
  rw [hTA] at a1 HTX
  obtain ⟨DB, hDB⟩ : ∃ l, decB b = l := ⟨_, rfl⟩
  rw [hDB] at a3
  have HDB := Lib.hid hDB
  clear hU2 hU1 hTA hDB
  obtain ⟨C, hC⟩ : ∃ C, netCf a b = C := ⟨_, rfl⟩
  rw [hC] at HPAR HC
  clear hLT hC
  go_enter Tryd.func7, Tryd.ntmps7
  go_upto_region 1 with fail
  generalize w.alloc (.cells (adC a) 26) = w0 at b0 P0 hm0 hp0 ⊢
  obtain ⟨g, hg⟩ : ∃ g, w.heap.size = g := ⟨_, rfl⟩
  have HG := Lib.hid hg
  have hmp := hm.pos
  rw [hg] at P0 hmp ⊢
  have hpp := hp.lt
  rw [hg] at hpp
  clear hg hm hp
  go_wp2_with fail
  refine (awake10_any w0 hm0).mono ?_
  rintro e w1 ⟨rfl, q1⟩
  have P1 := below_at q1 P0 (heap_lt P0)
  have m1 := hm0.below q1 hm0.pos
  have p1 := hp0.below q1
  have b1 := b0.trans (q1.mono b0.size)
  have hc := (cells_of P1).1
  clear P0 hm0 hp0 b0 q1
  go_wp2_with fail
  refine (HTX.out w1 p1).mono ?_
  rintro e w2 ⟨rfl, q2⟩
  have P2 := below_at q2 P1 (heap_lt P1)
  have m2 := m1.below q2 m1.pos
  have b2 := b1.trans (q2.mono b1.size)
  clear hc P1 m1 p1 b1 q2
  go_wp2_with fail
  refine (rtext_all w2 b (by have := HB.out; omega)).mono ?_
  rw [HDB.out]
  rintro e w3 ⟨rfl, q3⟩
  have P3 := below_at q3 P2 (heap_lt P2)
  have m3 := m2.below q3 m2.pos
  have b3 := b2.trans (q3.mono b2.size)
  clear P2 m2 b2 q3
  go_wp2_with fail
  refine (HPAR.out w3 m3).mono ?_
  by_cases hok : netOkB a b = true
  case' pos =>
    rw [if_pos hok]
    rintro e w4 ⟨Ax, nx, kx, Ay, ny, ky, rfl, _, _, CX, q4⟩
    clear CX
    simp only
    obtain ⟨c, hc⟩ : ∃ c, C = c := ⟨_, rfl⟩
    rw [hc] at HC ⊢
    clear hc
  case' neg =>
    rw [if_neg hok]
    rintro e w4 ⟨Ax, nx, kx, Ay, ny, ky, rfl, _, _, CX, q4⟩
    clear CX
    simp only [zG]
    obtain ⟨c, hc⟩ : ∃ c, cf0 = c := ⟨_, rfl⟩
    rw [hc]
    clear hc
  all_goals
    have HOKB := Lib.hid hok
    have P4 := below_at q4 P3 (heap_lt P3)
    have b4 := b3.trans (q4.mono b3.size)
    clear P3 m3 b3 q4 a1 a2 a3 HPAR hok
    go_upto_region 6 with ((with_reducible apply at_store_new 34); (case hx => exact rfl); (case hy => exact rfl); (case hg => first | rfl | simp); (case hi => kernel_rfl); (case hold => rfl); (case h1 => kernel_rfl))
    have q5 : Below w4.heap.size w4 (w4.alloc (.cells (cfC c (.slice Ax nx kx) (.slice Ay ny ky)) 34)) := (Below.refl _ w4).alloc (Nat.le_refl _) _
    have C5 := heap_alloc_new w4 (.cells (cfC c (.slice Ax nx kx) (.slice Ay ny ky)) 34)
    have P5 := below_at q5 P4 (heap_lt P4)
    have b5 := b4.trans (q5.mono b4.size)
    obtain ⟨gc, hgc⟩ : ∃ g, w4.heap.size = g := ⟨_, rfl⟩
    rw [hgc] at C5 ⊢
    generalize w4.alloc (.cells (cfC c (.slice Ax nx kx) (.slice Ay ny ky)) 34) = w5 at C5 P5 b5 ⊢
    clear hgc q5 P4 b4
    have hc := (cells_of P5).1
    have hz5 := b5.size
    go_upto_region 7 with fail
    clear hc
    have q6 : Below w5.heap.size w5 (w5.alloc (.cells (netC a b) 28)) := (Below.refl _ w5).alloc (Nat.le_refl _) _
    have N6 := heap_alloc_new w5 (.cells (netC a b) 28)
    have P6 := below_at q6 P5 (heap_lt P5)
    have C6 := below_at q6 C5 (heap_lt C5)
    have b6 := b5.trans (q6.mono b5.size)
    obtain ⟨gn, hgn⟩ : ∃ g, w5.heap.size = g := ⟨_, rfl⟩
    rw [hgn] at N6 ⊢
    generalize w5.alloc (.cells (netC a b) 28) = w6 at C6 P6 N6 b6 ⊢
    clear hgn q6 P5 b5 C5 hz5
    have hfl : F + 200 < 8000000000 ∧ L < 4294967296 ∧ 1 ≤ L := by
      have h1 := HN.out.top; have h2 := HN.out.p16; have h3 := HLP.out
      omega
    have e1 : IntKind.i64.wrap (F : Int) = F := IntWalk.i64_in _ (by omega)
    have e2 : IntKind.i64.wrap ((F : Int) + 100) = (F : Int) + 100 := IntWalk.i64_in _ (by omega)
    have e3 : IntKind.i64.wrap ((F : Int) + 131) = (F : Int) + 131 := IntWalk.i64_in _ (by omega)
    have e4 : IntKind.i64.wrap ((F : Int) + 2) = (F : Int) + 2 := IntWalk.i64_in _ (by omega)
    have e5 : IntKind.i64.wrap ((F : Int) + 33) = (F : Int) + 33 := IntWalk.i64_in _ (by omega)
    have e6 : IntKind.i64.wrap (L : Int) = L := IntWalk.i64_in _ (by omega)
    have e7 : IntKind.i64.wrap ((L : Int) - 1) = (L : Int) - 1 := IntWalk.i64_in _ (by omega)
    have e8 : IntKind.i64.wrap (x : Int) = x := IntWalk.i64_in _ (by have := HX32.out; omega)
    have HFL := Lib.hid hfl
    have hz6 := b6.size
    clear hfl
    have hcn := (cells_of N6).1
    go_wp2_with fail
    refine (HFI.out w6).mono ?_
    rintro e w7 ⟨rfl, q7⟩
    have N7 := below_at q7 N6 (heap_lt N6)
    have P7 := below_at q7 P6 (heap_lt P6)
    have C7 := below_at q7 C6 (heap_lt C6)
    have b7 := b6.trans (q7.mono b6.size)
    clear hcn N6 P6 C6 b6 q7 hz6
    go_wp2_with fail
    refine (HNF.out w7).mono ?_
    rintro e w8 ⟨rfl, q8⟩
    have N8 := below_at q8 N7 (heap_lt N7)
    have P8 := below_at q8 P7 (heap_lt P7)
    have C8 := below_at q8 C7 (heap_lt C7)
    have b8 := b7.trans (q8.mono b7.size)
    clear N7 P7 C7 b7 q8
    have hcn := (cells_of N8).1
    have hcp := (cells_of P8).1
    have d24 : decide (24 < (b : Int)) = false := decide_eq_false (by omega)
    have HLO := Lib.hid (show netLo F b = F + 100 by rw [netLo, if_neg h24])
    have HHJ := Lib.hid (show netHi F b (32 - b) = F + 131 by rw [HHI.out, if_neg h24])
    clear HHI
    go_upto_region 13 with fail
    clear e4 e5 e7 hcn hcp d24
    rw [show (F : Int) + 100 = ((F + 100 : Nat) : Int) by omega, show (F : Int) + 131 = ((F + 131 : Nat) : Int) by omega]
    obtain ⟨lo, hlo⟩ : ∃ n, F + 100 = n := ⟨_, rfl⟩
    obtain ⟨hi, hhi⟩ : ∃ n, F + 131 = n := ⟨_, rfl⟩
    rw [hlo] at HLO ⊢
    rw [hhi] at HHJ ⊢
    rw [HLO.out, HHJ.out] at HIN HOK
    rw [HLO.out, HHJ.out] at HC
    have HJN := HIN.out
    clear hlo hhi HLO HHJ
    have hcp := (cells_of P8).1
    go_wp2_with fail
    refine (HNX.out w8).mono ?_
    rintro e w9 ⟨rfl, q9⟩
    have N9 := below_at q9 N8 (heap_lt N8)
    have P9 := below_at q9 P8 (heap_lt P8)
    have C9 := below_at q9 C8 (heap_lt C8)
    have b9 := b8.trans (q9.mono b8.size)
    clear hcp N8 P8 C8 b8 q9
    have hcn := (cells_of N9).1
    go_upto_region 14 with fail
    go_cut [13] (fun v wx => v = .bool (netOkB a b) ∧ Below w9.heap.size w9 wx)
    case first =>
      clear P9 C9 b9 HJN HC HIN
      by_cases k1 : x = F
      · have x1 : ((x : Int) != (F : Int)) = false := by rw [k1]; simp
        have HV := Lib.hid (show netOkB a b = false by rw [HOK.out, decide_eq_true k1]; rfl)
        clear k1
        go_wp2_with fail
        go_meet
        exact ⟨by rw [HV.out], Below.refl _ _⟩
      · have x1 : ((x : Int) != (F : Int)) = true := by rw [bne_iff_ne]; omega
        have K1 := Lib.hid k1
        clear k1
        go_wp2_with fail
        refine (HLI.out _).mono ?_
        rintro e u1 ⟨rfl, r1⟩
        go_wp2_with fail
        refine (HNL.out _).mono ?_
        rintro e u2 ⟨rfl, r2⟩
        have r3 := r1.trans (r2.mono r1.size)
        clear r1 r2 hcn N9
        by_cases k2 : x = L
        · have x2 : ((x : Int) != (L : Int)) = false := by rw [k2]; simp
          have HV := Lib.hid (show netOkB a b = false by rw [HOK.out, decide_eq_true k2]; simp)
          clear k2
          go_wp2_with fail
          go_meet
          exact ⟨by rw [HV.out], r3⟩
        · have x2 : ((x : Int) != (L : Int)) = true := by rw [bne_iff_ne]; omega
          have K2 := Lib.hid k2
          clear k2
          by_cases k3 : x < lo
          · have x3 : decide (x < lo) = true := decide_eq_true k3
            have HV := Lib.hid (show netOkB a b = true by rw [HOK.out, decide_eq_false K1.out, decide_eq_false K2.out, decide_eq_true k3]; rfl)
            clear k3
            go_wp2_with fail
            go_meet
            exact ⟨by rw [HV.out], r3⟩
          · have x3 : decide (x < lo) = false := decide_eq_false k3
            by_cases k4 : hi < x
            case' pos =>
              have x4 : decide (hi < x) = true := decide_eq_true k4
              have HV := Lib.hid (show netOkB a b = true by rw [HOK.out, decide_eq_false K1.out, decide_eq_false K2.out, decide_eq_false k3, decide_eq_true k4]; rfl)
            case' neg =>
              have x4 : decide (hi < x) = false := decide_eq_false k4
              have HV := Lib.hid (show netOkB a b = false by rw [HOK.out, decide_eq_false K1.out, decide_eq_false K2.out, decide_eq_false k3, decide_eq_false k4]; rfl)
            all_goals
              clear k3 k4
              go_wp2_with fail
              go_meet
              exact ⟨by rw [HV.out], r3⟩
    case rest =>
      obtain ⟨rfl, qc⟩ := hcut
      have Nc := below_at qc N9 (heap_lt N9)
      have Pc := below_at qc P9 (heap_lt P9)
      have Cc := below_at qc C9 (heap_lt C9)
      have bc := b9.trans (qc.mono b9.size)
      clear hcn N9 P9 C9 b9 qc
      first
        | (replace HOKB : Hid (netOkB a b = false) := Lib.hid (Bool.eq_false_iff.2 HOKB.out)
           rw [HOKB.out]
           go_wp2_with fail
           go_ret
           exact ⟨rfl, bc⟩)
        | (have hn1 : numA c.fst = lo := by rw [HC.out.1, numA_of4 _ (by omega)]
           have hn2 : numA c.lst = hi := by rw [HC.out.2.1, numA_of4 _ (by omega)]
           have HN1 := Lib.hid (show ∀ w, Calls Tryd.prog 14 #[adV c.fst] w (fun e w' => e = .returned (.int .u32 lo) ∧ Below w.heap.size w w') from fun w => by
             have h := numa_any w c.fst
             rwa [hn1] at h)
           have HN2 := Lib.hid (show ∀ w, Calls Tryd.prog 14 #[adV c.lst] w (fun e w' => e = .returned (.int .u32 hi) ∧ Below w.heap.size w w') from fun w => by
             have h := numa_any w c.lst
             rwa [hn2] at h)
           have HH1 := Lib.hid (show ∀ w, Calls Tryd.prog 17 #[netV a b, adV c.fst] w (fun e w' => e = .returned (.bool true) ∧ Below w.heap.size w w') from fun w => by
             have h := has_any w a b c.fst
             rwa [HHAS.out, hn1, decide_eq_true (by omega), decide_eq_true (by omega)] at h)
           have HH2 := Lib.hid (show ∀ w, Calls Tryd.prog 17 #[netV a b, adV c.lst] w (fun e w' => e = .returned (.bool true) ∧ Below w.heap.size w w') from fun w => by
             have h := has_any w a b c.lst
             rwa [HHAS.out, hn2, decide_eq_true (by omega), decide_eq_true (by omega)] at h)
           have em := fun w => run_eql_ad w c.own a
           rw [show adeq c.own a = true by rw [HC.out.2.2]; exact adeq_self a] at em
           have el : IntKind.i64.wrap (lo : Int) = lo := IntWalk.i64_in _ (by omega)
           have eh : IntKind.i64.wrap (hi : Int) = hi := IntWalk.i64_in _ (by omega)
           have hcc := (cells_of Cc).1
           have hcn := (cells_of Nc).1
           have hcp := (cells_of Pc).1
           rw [HOKB.out]
           clear HC HJN hn1 hn2
           go_wp2_with fail
           refine (HN1.out _).mono ?_
           rintro e u1 ⟨rfl, r1⟩
           have N1 := below_at r1 Nc (heap_lt Nc)
           have C1 := below_at r1 Cc (heap_lt Cc)
           have b1 := bc.trans (r1.mono bc.size)
           clear hcc hcn hcp Nc Cc Pc bc r1
           have hcc := (cells_of C1).1
           go_wp2_with fail
           refine (HN2.out _).mono ?_
           rintro e u2 ⟨rfl, r2⟩
           have N2 := below_at r2 N1 (heap_lt N1)
           have C2 := below_at r2 C1 (heap_lt C1)
           have b2 := b1.trans (r2.mono b1.size)
           clear hcc N1 C1 b1 r2
           have hcc := (cells_of C2).1
           have hcn := (cells_of N2).1
           go_wp2_with fail
           refine (HH1.out _).mono ?_
           rintro e u3 ⟨rfl, r3⟩
           have N3 := below_at r3 N2 (heap_lt N2)
           have C3 := below_at r3 C2 (heap_lt C2)
           have b3 := b2.trans (r3.mono b2.size)
           clear hcc hcn N2 C2 b2 r3
           have hcc := (cells_of C3).1
           have hcn := (cells_of N3).1
           go_wp2_with fail
           refine (HH2.out _).mono ?_
           rintro e u4 ⟨rfl, r4⟩
           have b4 := b3.trans (r4.mono b3.size)
           go_wp2_with fail
           go_ret
           exact ⟨rfl, b4⟩)
set_option maxRecDepth 100000 in
set_option maxHeartbeats 16000000 in
theorem confNets_b (w : World) (hm : mlIs w) (hp : powIs w) (a : Ad4) (b : Nat) (h1 : 8 ≤ b) (h2 : b ≤ 28) (h24 : 24 < b) (h33 : numA a / 2 ^ (32 - b) * 2 ^ (32 - b) + (2 ^ (32 - b) - 1) - 1 < numA a / 2 ^ (32 - b) * 2 ^ (32 - b) + 33) : Calls Tryd.prog 7 #[adV a, .int .i64 b] w (TruePost w) := by
  have b0 : Below w.heap.size w (w.alloc (.cells (adC a) 26)) := (Below.refl _ w).alloc (Nat.le_refl _) _
  have P0 := heap_alloc_new w (.cells (adC a) 26)
  have hm0 := hm.below b0 hm.pos
  have hp0 := hp.below b0
  have d1 : decide ((b : Int) < 8) = false := decide_eq_false (by omega)
  have d2 : decide (28 < (b : Int)) = false := decide_eq_false (by omega)
  obtain ⟨a1, a2, a3⟩ := lanT_adds a b (by omega)
  have hpar := net_parse a b h1 h2
  have hlen := lanT_len a b (by omega)
  have HPAR := Lib.hid (show ∀ w, mlIs w → Calls Tryd.prog 9 #[.string (str (lanT a b))] w (ParseGP w (if netOkB a b = true then (⟨netCf a b, [], []⟩, 0, 0) else (zG, 0, 1))) from fun w hm => by
    have h := parse_all w hm (lanT a b) (by omega)
    rw [hpar] at h
    exact h)
  have N := netN a b h1 h2
  have hbe := net_beh b (by omega)
  have HF1 := Lib.hid (num_firstA a b (32 - b) (by omega) hbe)
  have HL1 := Lib.hid (num_lastA a b (32 - b) hbe)
  have HB := Lib.hid (⟨h1, h2⟩ : _ ∧ _)
  obtain ⟨F, hF⟩ : ∃ F, numA a / 2 ^ (32 - b) * 2 ^ (32 - b) = F := ⟨_, rfl⟩
  obtain ⟨P, hP⟩ : ∃ P, (2 : Nat) ^ (32 - b) = P := ⟨_, rfl⟩
  have HOK := Lib.hid (show netOkB a b = (!decide (numA a = F) && !decide (numA a = F + (P - 1)) && (decide (numA a < netLo F b) || decide (netHi F b (32 - b) < numA a))) by rw [netOkB, hF, hP])
  have HHI := Lib.hid (show netHi F b (32 - b) = if 24 < b then (if F + (P - 1) - 1 < F + 33 then F + (P - 1) - 1 else F + 33) else F + 131 by rw [netHi, hP])
  have HC := Lib.hid (show (netCf a b).fst = of4 (netLo F b) ∧ (netCf a b).lst = of4 (netHi F b (32 - b)) ∧ (netCf a b).own = a by rw [← hF]; exact ⟨rfl, rfl, rfl⟩)
  have HHAS := Lib.hid (show ∀ y : Ad4, hasN (numA y) (numA a) (behN b) = (decide (F ≤ numA y) && decide (numA y ≤ F + (P - 1))) from fun y => by
    rw [hbe, has_within _ _ _ (numA_lt y) (numA_lt a) (by omega), firstN_eq _ _ (numA_lt a) (by omega), lastN_eq, hF, hP])
  rw [hF] at N
  rw [hF] at HF1 HL1
  try rw [hF, hP] at h33
  rw [hP] at N HL1
  have HN := Lib.hid N
  obtain ⟨L, hL⟩ : ∃ L, F + (P - 1) = L := ⟨_, rfl⟩
  rw [hL] at HL1 HOK HHI HHAS
  try rw [hL] at h33
  have HLP := Lib.hid hL
  have HIN := Lib.hid (show F ≤ netLo F b ∧ netLo F b ≤ L ∧ F ≤ netHi F b (32 - b) ∧ netHi F b (32 - b) ≤ L ∧ L < 4294967296 by
    have k1 := HN.out.top; have k2 := HN.out.p16; have k3 := HN.out.p256; have k4 := HLP.out
    rw [HHI.out]
    unfold netLo
    split
    · first | omega | (split <;> omega)
    · omega)
  have HNF := Lib.hid (show ∀ w, Calls Tryd.prog 14 #[adV (firstA a b)] w (fun e w' => e = .returned (.int .u32 F) ∧ Below w.heap.size w w') from fun w => by
    have h := numa_any w (firstA a b)
    rwa [HF1.out] at h)
  have HNL := Lib.hid (show ∀ w, Calls Tryd.prog 14 #[adV (lastA a b)] w (fun e w' => e = .returned (.int .u32 L) ∧ Below w.heap.size w w') from fun w => by
    have h := numa_any w (lastA a b)
    rwa [HL1.out] at h)
  have HFI := Lib.hid (show ∀ w, Calls Tryd.prog 15 #[netV a b] w (fun e w' => e = .returned (adV (firstA a b)) ∧ Below w.heap.size w w') from fun w => first_any w a b)
  have HLI := Lib.hid (show ∀ w, Calls Tryd.prog 16 #[netV a b] w (fun e w' => e = .returned (adV (lastA a b)) ∧ Below w.heap.size w w') from fun w => last_any w a b)
  obtain ⟨FA, hFA⟩ : ∃ x, firstA a b = x := ⟨_, rfl⟩
  obtain ⟨LA, hLA⟩ : ∃ x, lastA a b = x := ⟨_, rfl⟩
  rw [hFA] at HNF HFI
  rw [hLA] at HNL HLI
  have hx32 := numA_lt a
  have HNX := Lib.hid (fun w => numa_any w a)
  obtain ⟨x, hx⟩ : ∃ x, numA a = x := ⟨_, rfl⟩
  rw [hx] at HOK HNX hx32
  have HX := Lib.hid hx
  have HX32 := Lib.hid hx32
  clear hF hP N hpar hlen hbe h1 h2 hFA hLA HF1 HL1 hL hx hx32
  have HTX := Lib.hid (fun w hp => text_any w hp a)
  obtain ⟨LT, hLT⟩ : ∃ l, lanT a b = l := ⟨_, rfl⟩
  rw [hLT] at a3 HPAR
  obtain ⟨U2, hU2⟩ : ∃ l, [108, 97, 110, 32, 61, 32] ++ textA a ++ [47] = l := ⟨_, rfl⟩
  rw [hU2] at a2 a3
  obtain ⟨U1, hU1⟩ : ∃ l, [108, 97, 110, 32, 61, 32] ++ textA a = l := ⟨_, rfl⟩
  rw [hU1] at a1 a2
  obtain ⟨TA, hTA⟩ : ∃ l, textA a = l := ⟨_, rfl⟩
  rw [hTA] at a1 HTX
  obtain ⟨DB, hDB⟩ : ∃ l, decB b = l := ⟨_, rfl⟩
  rw [hDB] at a3
  have HDB := Lib.hid hDB
  clear hU2 hU1 hTA hDB
  obtain ⟨C, hC⟩ : ∃ C, netCf a b = C := ⟨_, rfl⟩
  rw [hC] at HPAR HC
  clear hLT hC
  go_enter Tryd.func7, Tryd.ntmps7
  go_upto_region 1 with fail
  generalize w.alloc (.cells (adC a) 26) = w0 at b0 P0 hm0 hp0 ⊢
  obtain ⟨g, hg⟩ : ∃ g, w.heap.size = g := ⟨_, rfl⟩
  have HG := Lib.hid hg
  have hmp := hm.pos
  rw [hg] at P0 hmp ⊢
  have hpp := hp.lt
  rw [hg] at hpp
  clear hg hm hp
  go_wp2_with fail
  refine (awake10_any w0 hm0).mono ?_
  rintro e w1 ⟨rfl, q1⟩
  have P1 := below_at q1 P0 (heap_lt P0)
  have m1 := hm0.below q1 hm0.pos
  have p1 := hp0.below q1
  have b1 := b0.trans (q1.mono b0.size)
  have hc := (cells_of P1).1
  clear P0 hm0 hp0 b0 q1
  go_wp2_with fail
  refine (HTX.out w1 p1).mono ?_
  rintro e w2 ⟨rfl, q2⟩
  have P2 := below_at q2 P1 (heap_lt P1)
  have m2 := m1.below q2 m1.pos
  have b2 := b1.trans (q2.mono b1.size)
  clear hc P1 m1 p1 b1 q2
  go_wp2_with fail
  refine (rtext_all w2 b (by have := HB.out; omega)).mono ?_
  rw [HDB.out]
  rintro e w3 ⟨rfl, q3⟩
  have P3 := below_at q3 P2 (heap_lt P2)
  have m3 := m2.below q3 m2.pos
  have b3 := b2.trans (q3.mono b2.size)
  clear P2 m2 b2 q3
  go_wp2_with fail
  refine (HPAR.out w3 m3).mono ?_
  by_cases hok : netOkB a b = true
  case' pos =>
    rw [if_pos hok]
    rintro e w4 ⟨Ax, nx, kx, Ay, ny, ky, rfl, _, _, CX, q4⟩
    clear CX
    simp only
    obtain ⟨c, hc⟩ : ∃ c, C = c := ⟨_, rfl⟩
    rw [hc] at HC ⊢
    clear hc
  case' neg =>
    rw [if_neg hok]
    rintro e w4 ⟨Ax, nx, kx, Ay, ny, ky, rfl, _, _, CX, q4⟩
    clear CX
    simp only [zG]
    obtain ⟨c, hc⟩ : ∃ c, cf0 = c := ⟨_, rfl⟩
    rw [hc]
    clear hc
  all_goals
    have HOKB := Lib.hid hok
    have P4 := below_at q4 P3 (heap_lt P3)
    have b4 := b3.trans (q4.mono b3.size)
    clear P3 m3 b3 q4 a1 a2 a3 HPAR hok
    go_upto_region 6 with ((with_reducible apply at_store_new 34); (case hx => exact rfl); (case hy => exact rfl); (case hg => first | rfl | simp); (case hi => kernel_rfl); (case hold => rfl); (case h1 => kernel_rfl))
    have q5 : Below w4.heap.size w4 (w4.alloc (.cells (cfC c (.slice Ax nx kx) (.slice Ay ny ky)) 34)) := (Below.refl _ w4).alloc (Nat.le_refl _) _
    have C5 := heap_alloc_new w4 (.cells (cfC c (.slice Ax nx kx) (.slice Ay ny ky)) 34)
    have P5 := below_at q5 P4 (heap_lt P4)
    have b5 := b4.trans (q5.mono b4.size)
    obtain ⟨gc, hgc⟩ : ∃ g, w4.heap.size = g := ⟨_, rfl⟩
    rw [hgc] at C5 ⊢
    generalize w4.alloc (.cells (cfC c (.slice Ax nx kx) (.slice Ay ny ky)) 34) = w5 at C5 P5 b5 ⊢
    clear hgc q5 P4 b4
    have hc := (cells_of P5).1
    have hz5 := b5.size
    go_upto_region 7 with fail
    clear hc
    have q6 : Below w5.heap.size w5 (w5.alloc (.cells (netC a b) 28)) := (Below.refl _ w5).alloc (Nat.le_refl _) _
    have N6 := heap_alloc_new w5 (.cells (netC a b) 28)
    have P6 := below_at q6 P5 (heap_lt P5)
    have C6 := below_at q6 C5 (heap_lt C5)
    have b6 := b5.trans (q6.mono b5.size)
    obtain ⟨gn, hgn⟩ : ∃ g, w5.heap.size = g := ⟨_, rfl⟩
    rw [hgn] at N6 ⊢
    generalize w5.alloc (.cells (netC a b) 28) = w6 at C6 P6 N6 b6 ⊢
    clear hgn q6 P5 b5 C5 hz5
    have hfl : F + 200 < 8000000000 ∧ L < 4294967296 ∧ 1 ≤ L := by
      have h1 := HN.out.top; have h2 := HN.out.p16; have h3 := HLP.out
      omega
    have e1 : IntKind.i64.wrap (F : Int) = F := IntWalk.i64_in _ (by omega)
    have e2 : IntKind.i64.wrap ((F : Int) + 100) = (F : Int) + 100 := IntWalk.i64_in _ (by omega)
    have e3 : IntKind.i64.wrap ((F : Int) + 131) = (F : Int) + 131 := IntWalk.i64_in _ (by omega)
    have e4 : IntKind.i64.wrap ((F : Int) + 2) = (F : Int) + 2 := IntWalk.i64_in _ (by omega)
    have e5 : IntKind.i64.wrap ((F : Int) + 33) = (F : Int) + 33 := IntWalk.i64_in _ (by omega)
    have e6 : IntKind.i64.wrap (L : Int) = L := IntWalk.i64_in _ (by omega)
    have e7 : IntKind.i64.wrap ((L : Int) - 1) = (L : Int) - 1 := IntWalk.i64_in _ (by omega)
    have e8 : IntKind.i64.wrap (x : Int) = x := IntWalk.i64_in _ (by have := HX32.out; omega)
    have HFL := Lib.hid hfl
    have hz6 := b6.size
    clear hfl
    have hcn := (cells_of N6).1
    go_wp2_with fail
    refine (HFI.out w6).mono ?_
    rintro e w7 ⟨rfl, q7⟩
    have N7 := below_at q7 N6 (heap_lt N6)
    have P7 := below_at q7 P6 (heap_lt P6)
    have C7 := below_at q7 C6 (heap_lt C6)
    have b7 := b6.trans (q7.mono b6.size)
    clear hcn N6 P6 C6 b6 q7 hz6
    go_wp2_with fail
    refine (HNF.out w7).mono ?_
    rintro e w8 ⟨rfl, q8⟩
    have N8 := below_at q8 N7 (heap_lt N7)
    have P8 := below_at q8 P7 (heap_lt P7)
    have C8 := below_at q8 C7 (heap_lt C7)
    have b8 := b7.trans (q8.mono b7.size)
    clear N7 P7 C7 b7 q8
    have hcn := (cells_of N8).1
    have hcp := (cells_of P8).1
    have d24 : decide (24 < (b : Int)) = true := decide_eq_true (by omega)
    have d33 : decide ((L : Int) - 1 < (F : Int) + 33) = true := decide_eq_true (by have := HFL.out; omega)
    have HLO := Lib.hid (show netLo F b = F + 2 by rw [netLo, if_pos h24])
    have HHJ := Lib.hid (show netHi F b (32 - b) = L - 1 by rw [HHI.out, if_pos h24, if_pos h33])
    clear HHI
    go_wp2_with fail
    refine (HLI.out w8).mono ?_
    rintro e w9 ⟨rfl, q9⟩
    have N9 := below_at q9 N8 (heap_lt N8)
    have P9 := below_at q9 P8 (heap_lt P8)
    have C9 := below_at q9 C8 (heap_lt C8)
    have b9 := b8.trans (q9.mono b8.size)
    clear N8 P8 C8 b8 q9
    have hcn := (cells_of N9).1
    go_wp2_with fail
    refine (HNL.out w9).mono ?_
    rintro e w10 ⟨rfl, q10⟩
    have N10 := below_at q10 N9 (heap_lt N9)
    have P10 := below_at q10 P9 (heap_lt P9)
    have C10 := below_at q10 C9 (heap_lt C9)
    have b10 := b9.trans (q10.mono b9.size)
    clear N9 P9 C9 b9 q10
    have hcn := (cells_of N10).1
    have hcp := (cells_of P10).1
    go_wp2_with fail
    refine (HLI.out w10).mono ?_
    rintro e w11 ⟨rfl, q11⟩
    have N11 := below_at q11 N10 (heap_lt N10)
    have P11 := below_at q11 P10 (heap_lt P10)
    have C11 := below_at q11 C10 (heap_lt C10)
    have b11 := b10.trans (q11.mono b10.size)
    clear N10 P10 C10 b10 q11
    go_wp2_with fail
    refine (HNL.out w11).mono ?_
    rintro e w12 ⟨rfl, q12⟩
    have N12 := below_at q12 N11 (heap_lt N11)
    have P12 := below_at q12 P11 (heap_lt P11)
    have C12 := below_at q12 C11 (heap_lt C11)
    have b12 := b11.trans (q12.mono b11.size)
    clear N11 P11 C11 b11 q12
    have hcn := (cells_of N12).1
    have hcp := (cells_of P12).1
    go_upto_region 13 with fail
    clear e2 e3 e4 e5 hcn hcp d24 d33
    rw [show (F : Int) + 2 = ((F + 2 : Nat) : Int) by omega, show (L : Int) - 1 = ((L - 1 : Nat) : Int) by have := HFL.out; omega]
    obtain ⟨lo, hlo⟩ : ∃ n, F + 2 = n := ⟨_, rfl⟩
    obtain ⟨hi, hhi⟩ : ∃ n, L - 1 = n := ⟨_, rfl⟩
    rw [hlo] at HLO ⊢
    rw [hhi] at HHJ ⊢
    rw [HLO.out, HHJ.out] at HIN HOK
    rw [HLO.out, HHJ.out] at HC
    have HJN := HIN.out
    clear hlo hhi HLO HHJ
    have hcp := (cells_of P12).1
    go_wp2_with fail
    refine (HNX.out w12).mono ?_
    rintro e w13 ⟨rfl, q13⟩
    have N13 := below_at q13 N12 (heap_lt N12)
    have P13 := below_at q13 P12 (heap_lt P12)
    have C13 := below_at q13 C12 (heap_lt C12)
    have b13 := b12.trans (q13.mono b12.size)
    clear hcp N12 P12 C12 b12 q13
    have hcn := (cells_of N13).1
    go_upto_region 14 with fail
    go_cut [13] (fun v wx => v = .bool (netOkB a b) ∧ Below w13.heap.size w13 wx)
    case first =>
      clear P13 C13 b13 HJN HC HIN
      by_cases k1 : x = F
      · have x1 : ((x : Int) != (F : Int)) = false := by rw [k1]; simp
        have HV := Lib.hid (show netOkB a b = false by rw [HOK.out, decide_eq_true k1]; rfl)
        clear k1
        go_wp2_with fail
        go_meet
        exact ⟨by rw [HV.out], Below.refl _ _⟩
      · have x1 : ((x : Int) != (F : Int)) = true := by rw [bne_iff_ne]; omega
        have K1 := Lib.hid k1
        clear k1
        go_wp2_with fail
        refine (HLI.out _).mono ?_
        rintro e u1 ⟨rfl, r1⟩
        go_wp2_with fail
        refine (HNL.out _).mono ?_
        rintro e u2 ⟨rfl, r2⟩
        have r3 := r1.trans (r2.mono r1.size)
        clear r1 r2 hcn N13
        by_cases k2 : x = L
        · have x2 : ((x : Int) != (L : Int)) = false := by rw [k2]; simp
          have HV := Lib.hid (show netOkB a b = false by rw [HOK.out, decide_eq_true k2]; simp)
          clear k2
          go_wp2_with fail
          go_meet
          exact ⟨by rw [HV.out], r3⟩
        · have x2 : ((x : Int) != (L : Int)) = true := by rw [bne_iff_ne]; omega
          have K2 := Lib.hid k2
          clear k2
          by_cases k3 : x < lo
          · have x3 : decide (x < lo) = true := decide_eq_true k3
            have HV := Lib.hid (show netOkB a b = true by rw [HOK.out, decide_eq_false K1.out, decide_eq_false K2.out, decide_eq_true k3]; rfl)
            clear k3
            go_wp2_with fail
            go_meet
            exact ⟨by rw [HV.out], r3⟩
          · have x3 : decide (x < lo) = false := decide_eq_false k3
            by_cases k4 : hi < x
            case' pos =>
              have x4 : decide (hi < x) = true := decide_eq_true k4
              have HV := Lib.hid (show netOkB a b = true by rw [HOK.out, decide_eq_false K1.out, decide_eq_false K2.out, decide_eq_false k3, decide_eq_true k4]; rfl)
            case' neg =>
              have x4 : decide (hi < x) = false := decide_eq_false k4
              have HV := Lib.hid (show netOkB a b = false by rw [HOK.out, decide_eq_false K1.out, decide_eq_false K2.out, decide_eq_false k3, decide_eq_false k4]; rfl)
            all_goals
              clear k3 k4
              go_wp2_with fail
              go_meet
              exact ⟨by rw [HV.out], r3⟩
    case rest =>
      obtain ⟨rfl, qc⟩ := hcut
      have Nc := below_at qc N13 (heap_lt N13)
      have Pc := below_at qc P13 (heap_lt P13)
      have Cc := below_at qc C13 (heap_lt C13)
      have bc := b13.trans (qc.mono b13.size)
      clear hcn N13 P13 C13 b13 qc
      first
        | (replace HOKB : Hid (netOkB a b = false) := Lib.hid (Bool.eq_false_iff.2 HOKB.out)
           rw [HOKB.out]
           go_wp2_with fail
           go_ret
           exact ⟨rfl, bc⟩)
        | (have hn1 : numA c.fst = lo := by rw [HC.out.1, numA_of4 _ (by omega)]
           have hn2 : numA c.lst = hi := by rw [HC.out.2.1, numA_of4 _ (by omega)]
           have HN1 := Lib.hid (show ∀ w, Calls Tryd.prog 14 #[adV c.fst] w (fun e w' => e = .returned (.int .u32 lo) ∧ Below w.heap.size w w') from fun w => by
             have h := numa_any w c.fst
             rwa [hn1] at h)
           have HN2 := Lib.hid (show ∀ w, Calls Tryd.prog 14 #[adV c.lst] w (fun e w' => e = .returned (.int .u32 hi) ∧ Below w.heap.size w w') from fun w => by
             have h := numa_any w c.lst
             rwa [hn2] at h)
           have HH1 := Lib.hid (show ∀ w, Calls Tryd.prog 17 #[netV a b, adV c.fst] w (fun e w' => e = .returned (.bool true) ∧ Below w.heap.size w w') from fun w => by
             have h := has_any w a b c.fst
             rwa [HHAS.out, hn1, decide_eq_true (by omega), decide_eq_true (by omega)] at h)
           have HH2 := Lib.hid (show ∀ w, Calls Tryd.prog 17 #[netV a b, adV c.lst] w (fun e w' => e = .returned (.bool true) ∧ Below w.heap.size w w') from fun w => by
             have h := has_any w a b c.lst
             rwa [HHAS.out, hn2, decide_eq_true (by omega), decide_eq_true (by omega)] at h)
           have em := fun w => run_eql_ad w c.own a
           rw [show adeq c.own a = true by rw [HC.out.2.2]; exact adeq_self a] at em
           have el : IntKind.i64.wrap (lo : Int) = lo := IntWalk.i64_in _ (by omega)
           have eh : IntKind.i64.wrap (hi : Int) = hi := IntWalk.i64_in _ (by omega)
           have hcc := (cells_of Cc).1
           have hcn := (cells_of Nc).1
           have hcp := (cells_of Pc).1
           rw [HOKB.out]
           clear HC HJN hn1 hn2
           go_wp2_with fail
           refine (HN1.out _).mono ?_
           rintro e u1 ⟨rfl, r1⟩
           have N1 := below_at r1 Nc (heap_lt Nc)
           have C1 := below_at r1 Cc (heap_lt Cc)
           have b1 := bc.trans (r1.mono bc.size)
           clear hcc hcn hcp Nc Cc Pc bc r1
           have hcc := (cells_of C1).1
           go_wp2_with fail
           refine (HN2.out _).mono ?_
           rintro e u2 ⟨rfl, r2⟩
           have N2 := below_at r2 N1 (heap_lt N1)
           have C2 := below_at r2 C1 (heap_lt C1)
           have b2 := b1.trans (r2.mono b1.size)
           clear hcc N1 C1 b1 r2
           have hcc := (cells_of C2).1
           have hcn := (cells_of N2).1
           go_wp2_with fail
           refine (HH1.out _).mono ?_
           rintro e u3 ⟨rfl, r3⟩
           have N3 := below_at r3 N2 (heap_lt N2)
           have C3 := below_at r3 C2 (heap_lt C2)
           have b3 := b2.trans (r3.mono b2.size)
           clear hcc hcn N2 C2 b2 r3
           have hcc := (cells_of C3).1
           have hcn := (cells_of N3).1
           go_wp2_with fail
           refine (HH2.out _).mono ?_
           rintro e u4 ⟨rfl, r4⟩
           have b4 := b3.trans (r4.mono b3.size)
           go_wp2_with fail
           go_ret
           exact ⟨rfl, b4⟩)
set_option maxRecDepth 100000 in
set_option maxHeartbeats 16000000 in
theorem confNets_c (w : World) (hm : mlIs w) (hp : powIs w) (a : Ad4) (b : Nat) (h1 : 8 ≤ b) (h2 : b ≤ 28) (h24 : 24 < b) (h33 : ¬ (numA a / 2 ^ (32 - b) * 2 ^ (32 - b) + (2 ^ (32 - b) - 1) - 1 < numA a / 2 ^ (32 - b) * 2 ^ (32 - b) + 33)) : Calls Tryd.prog 7 #[adV a, .int .i64 b] w (TruePost w) := by
  have b0 : Below w.heap.size w (w.alloc (.cells (adC a) 26)) := (Below.refl _ w).alloc (Nat.le_refl _) _
  have P0 := heap_alloc_new w (.cells (adC a) 26)
  have hm0 := hm.below b0 hm.pos
  have hp0 := hp.below b0
  have d1 : decide ((b : Int) < 8) = false := decide_eq_false (by omega)
  have d2 : decide (28 < (b : Int)) = false := decide_eq_false (by omega)
  obtain ⟨a1, a2, a3⟩ := lanT_adds a b (by omega)
  have hpar := net_parse a b h1 h2
  have hlen := lanT_len a b (by omega)
  have HPAR := Lib.hid (show ∀ w, mlIs w → Calls Tryd.prog 9 #[.string (str (lanT a b))] w (ParseGP w (if netOkB a b = true then (⟨netCf a b, [], []⟩, 0, 0) else (zG, 0, 1))) from fun w hm => by
    have h := parse_all w hm (lanT a b) (by omega)
    rw [hpar] at h
    exact h)
  have N := netN a b h1 h2
  have hbe := net_beh b (by omega)
  have HF1 := Lib.hid (num_firstA a b (32 - b) (by omega) hbe)
  have HL1 := Lib.hid (num_lastA a b (32 - b) hbe)
  have HB := Lib.hid (⟨h1, h2⟩ : _ ∧ _)
  obtain ⟨F, hF⟩ : ∃ F, numA a / 2 ^ (32 - b) * 2 ^ (32 - b) = F := ⟨_, rfl⟩
  obtain ⟨P, hP⟩ : ∃ P, (2 : Nat) ^ (32 - b) = P := ⟨_, rfl⟩
  have HOK := Lib.hid (show netOkB a b = (!decide (numA a = F) && !decide (numA a = F + (P - 1)) && (decide (numA a < netLo F b) || decide (netHi F b (32 - b) < numA a))) by rw [netOkB, hF, hP])
  have HHI := Lib.hid (show netHi F b (32 - b) = if 24 < b then (if F + (P - 1) - 1 < F + 33 then F + (P - 1) - 1 else F + 33) else F + 131 by rw [netHi, hP])
  have HC := Lib.hid (show (netCf a b).fst = of4 (netLo F b) ∧ (netCf a b).lst = of4 (netHi F b (32 - b)) ∧ (netCf a b).own = a by rw [← hF]; exact ⟨rfl, rfl, rfl⟩)
  have HHAS := Lib.hid (show ∀ y : Ad4, hasN (numA y) (numA a) (behN b) = (decide (F ≤ numA y) && decide (numA y ≤ F + (P - 1))) from fun y => by
    rw [hbe, has_within _ _ _ (numA_lt y) (numA_lt a) (by omega), firstN_eq _ _ (numA_lt a) (by omega), lastN_eq, hF, hP])
  rw [hF] at N
  rw [hF] at HF1 HL1
  try rw [hF, hP] at h33
  rw [hP] at N HL1
  have HN := Lib.hid N
  obtain ⟨L, hL⟩ : ∃ L, F + (P - 1) = L := ⟨_, rfl⟩
  rw [hL] at HL1 HOK HHI HHAS
  try rw [hL] at h33
  have HLP := Lib.hid hL
  have HIN := Lib.hid (show F ≤ netLo F b ∧ netLo F b ≤ L ∧ F ≤ netHi F b (32 - b) ∧ netHi F b (32 - b) ≤ L ∧ L < 4294967296 by
    have k1 := HN.out.top; have k2 := HN.out.p16; have k3 := HN.out.p256; have k4 := HLP.out
    rw [HHI.out]
    unfold netLo
    split
    · first | omega | (split <;> omega)
    · omega)
  have HNF := Lib.hid (show ∀ w, Calls Tryd.prog 14 #[adV (firstA a b)] w (fun e w' => e = .returned (.int .u32 F) ∧ Below w.heap.size w w') from fun w => by
    have h := numa_any w (firstA a b)
    rwa [HF1.out] at h)
  have HNL := Lib.hid (show ∀ w, Calls Tryd.prog 14 #[adV (lastA a b)] w (fun e w' => e = .returned (.int .u32 L) ∧ Below w.heap.size w w') from fun w => by
    have h := numa_any w (lastA a b)
    rwa [HL1.out] at h)
  have HFI := Lib.hid (show ∀ w, Calls Tryd.prog 15 #[netV a b] w (fun e w' => e = .returned (adV (firstA a b)) ∧ Below w.heap.size w w') from fun w => first_any w a b)
  have HLI := Lib.hid (show ∀ w, Calls Tryd.prog 16 #[netV a b] w (fun e w' => e = .returned (adV (lastA a b)) ∧ Below w.heap.size w w') from fun w => last_any w a b)
  obtain ⟨FA, hFA⟩ : ∃ x, firstA a b = x := ⟨_, rfl⟩
  obtain ⟨LA, hLA⟩ : ∃ x, lastA a b = x := ⟨_, rfl⟩
  rw [hFA] at HNF HFI
  rw [hLA] at HNL HLI
  have hx32 := numA_lt a
  have HNX := Lib.hid (fun w => numa_any w a)
  obtain ⟨x, hx⟩ : ∃ x, numA a = x := ⟨_, rfl⟩
  rw [hx] at HOK HNX hx32
  have HX := Lib.hid hx
  have HX32 := Lib.hid hx32
  clear hF hP N hpar hlen hbe h1 h2 hFA hLA HF1 HL1 hL hx hx32
  have HTX := Lib.hid (fun w hp => text_any w hp a)
  obtain ⟨LT, hLT⟩ : ∃ l, lanT a b = l := ⟨_, rfl⟩
  rw [hLT] at a3 HPAR
  obtain ⟨U2, hU2⟩ : ∃ l, [108, 97, 110, 32, 61, 32] ++ textA a ++ [47] = l := ⟨_, rfl⟩
  rw [hU2] at a2 a3
  obtain ⟨U1, hU1⟩ : ∃ l, [108, 97, 110, 32, 61, 32] ++ textA a = l := ⟨_, rfl⟩
  rw [hU1] at a1 a2
  obtain ⟨TA, hTA⟩ : ∃ l, textA a = l := ⟨_, rfl⟩
  rw [hTA] at a1 HTX
  obtain ⟨DB, hDB⟩ : ∃ l, decB b = l := ⟨_, rfl⟩
  rw [hDB] at a3
  have HDB := Lib.hid hDB
  clear hU2 hU1 hTA hDB
  obtain ⟨C, hC⟩ : ∃ C, netCf a b = C := ⟨_, rfl⟩
  rw [hC] at HPAR HC
  clear hLT hC
  go_enter Tryd.func7, Tryd.ntmps7
  go_upto_region 1 with fail
  generalize w.alloc (.cells (adC a) 26) = w0 at b0 P0 hm0 hp0 ⊢
  obtain ⟨g, hg⟩ : ∃ g, w.heap.size = g := ⟨_, rfl⟩
  have HG := Lib.hid hg
  have hmp := hm.pos
  rw [hg] at P0 hmp ⊢
  have hpp := hp.lt
  rw [hg] at hpp
  clear hg hm hp
  go_wp2_with fail
  refine (awake10_any w0 hm0).mono ?_
  rintro e w1 ⟨rfl, q1⟩
  have P1 := below_at q1 P0 (heap_lt P0)
  have m1 := hm0.below q1 hm0.pos
  have p1 := hp0.below q1
  have b1 := b0.trans (q1.mono b0.size)
  have hc := (cells_of P1).1
  clear P0 hm0 hp0 b0 q1
  go_wp2_with fail
  refine (HTX.out w1 p1).mono ?_
  rintro e w2 ⟨rfl, q2⟩
  have P2 := below_at q2 P1 (heap_lt P1)
  have m2 := m1.below q2 m1.pos
  have b2 := b1.trans (q2.mono b1.size)
  clear hc P1 m1 p1 b1 q2
  go_wp2_with fail
  refine (rtext_all w2 b (by have := HB.out; omega)).mono ?_
  rw [HDB.out]
  rintro e w3 ⟨rfl, q3⟩
  have P3 := below_at q3 P2 (heap_lt P2)
  have m3 := m2.below q3 m2.pos
  have b3 := b2.trans (q3.mono b2.size)
  clear P2 m2 b2 q3
  go_wp2_with fail
  refine (HPAR.out w3 m3).mono ?_
  by_cases hok : netOkB a b = true
  case' pos =>
    rw [if_pos hok]
    rintro e w4 ⟨Ax, nx, kx, Ay, ny, ky, rfl, _, _, CX, q4⟩
    clear CX
    simp only
    obtain ⟨c, hc⟩ : ∃ c, C = c := ⟨_, rfl⟩
    rw [hc] at HC ⊢
    clear hc
  case' neg =>
    rw [if_neg hok]
    rintro e w4 ⟨Ax, nx, kx, Ay, ny, ky, rfl, _, _, CX, q4⟩
    clear CX
    simp only [zG]
    obtain ⟨c, hc⟩ : ∃ c, cf0 = c := ⟨_, rfl⟩
    rw [hc]
    clear hc
  all_goals
    have HOKB := Lib.hid hok
    have P4 := below_at q4 P3 (heap_lt P3)
    have b4 := b3.trans (q4.mono b3.size)
    clear P3 m3 b3 q4 a1 a2 a3 HPAR hok
    go_upto_region 6 with ((with_reducible apply at_store_new 34); (case hx => exact rfl); (case hy => exact rfl); (case hg => first | rfl | simp); (case hi => kernel_rfl); (case hold => rfl); (case h1 => kernel_rfl))
    have q5 : Below w4.heap.size w4 (w4.alloc (.cells (cfC c (.slice Ax nx kx) (.slice Ay ny ky)) 34)) := (Below.refl _ w4).alloc (Nat.le_refl _) _
    have C5 := heap_alloc_new w4 (.cells (cfC c (.slice Ax nx kx) (.slice Ay ny ky)) 34)
    have P5 := below_at q5 P4 (heap_lt P4)
    have b5 := b4.trans (q5.mono b4.size)
    obtain ⟨gc, hgc⟩ : ∃ g, w4.heap.size = g := ⟨_, rfl⟩
    rw [hgc] at C5 ⊢
    generalize w4.alloc (.cells (cfC c (.slice Ax nx kx) (.slice Ay ny ky)) 34) = w5 at C5 P5 b5 ⊢
    clear hgc q5 P4 b4
    have hc := (cells_of P5).1
    have hz5 := b5.size
    go_upto_region 7 with fail
    clear hc
    have q6 : Below w5.heap.size w5 (w5.alloc (.cells (netC a b) 28)) := (Below.refl _ w5).alloc (Nat.le_refl _) _
    have N6 := heap_alloc_new w5 (.cells (netC a b) 28)
    have P6 := below_at q6 P5 (heap_lt P5)
    have C6 := below_at q6 C5 (heap_lt C5)
    have b6 := b5.trans (q6.mono b5.size)
    obtain ⟨gn, hgn⟩ : ∃ g, w5.heap.size = g := ⟨_, rfl⟩
    rw [hgn] at N6 ⊢
    generalize w5.alloc (.cells (netC a b) 28) = w6 at C6 P6 N6 b6 ⊢
    clear hgn q6 P5 b5 C5 hz5
    have hfl : F + 200 < 8000000000 ∧ L < 4294967296 ∧ 1 ≤ L := by
      have h1 := HN.out.top; have h2 := HN.out.p16; have h3 := HLP.out
      omega
    have e1 : IntKind.i64.wrap (F : Int) = F := IntWalk.i64_in _ (by omega)
    have e2 : IntKind.i64.wrap ((F : Int) + 100) = (F : Int) + 100 := IntWalk.i64_in _ (by omega)
    have e3 : IntKind.i64.wrap ((F : Int) + 131) = (F : Int) + 131 := IntWalk.i64_in _ (by omega)
    have e4 : IntKind.i64.wrap ((F : Int) + 2) = (F : Int) + 2 := IntWalk.i64_in _ (by omega)
    have e5 : IntKind.i64.wrap ((F : Int) + 33) = (F : Int) + 33 := IntWalk.i64_in _ (by omega)
    have e6 : IntKind.i64.wrap (L : Int) = L := IntWalk.i64_in _ (by omega)
    have e7 : IntKind.i64.wrap ((L : Int) - 1) = (L : Int) - 1 := IntWalk.i64_in _ (by omega)
    have e8 : IntKind.i64.wrap (x : Int) = x := IntWalk.i64_in _ (by have := HX32.out; omega)
    have HFL := Lib.hid hfl
    have hz6 := b6.size
    clear hfl
    have hcn := (cells_of N6).1
    go_wp2_with fail
    refine (HFI.out w6).mono ?_
    rintro e w7 ⟨rfl, q7⟩
    have N7 := below_at q7 N6 (heap_lt N6)
    have P7 := below_at q7 P6 (heap_lt P6)
    have C7 := below_at q7 C6 (heap_lt C6)
    have b7 := b6.trans (q7.mono b6.size)
    clear hcn N6 P6 C6 b6 q7 hz6
    go_wp2_with fail
    refine (HNF.out w7).mono ?_
    rintro e w8 ⟨rfl, q8⟩
    have N8 := below_at q8 N7 (heap_lt N7)
    have P8 := below_at q8 P7 (heap_lt P7)
    have C8 := below_at q8 C7 (heap_lt C7)
    have b8 := b7.trans (q8.mono b7.size)
    clear N7 P7 C7 b7 q8
    have hcn := (cells_of N8).1
    have hcp := (cells_of P8).1
    have d24 : decide (24 < (b : Int)) = true := decide_eq_true (by omega)
    have d33 : decide ((L : Int) - 1 < (F : Int) + 33) = false := decide_eq_false (by have := HFL.out; omega)
    have HLO := Lib.hid (show netLo F b = F + 2 by rw [netLo, if_pos h24])
    have HHJ := Lib.hid (show netHi F b (32 - b) = F + 33 by rw [HHI.out, if_pos h24, if_neg h33])
    clear HHI
    go_wp2_with fail
    refine (HLI.out w8).mono ?_
    rintro e w9 ⟨rfl, q9⟩
    have N9 := below_at q9 N8 (heap_lt N8)
    have P9 := below_at q9 P8 (heap_lt P8)
    have C9 := below_at q9 C8 (heap_lt C8)
    have b9 := b8.trans (q9.mono b8.size)
    clear N8 P8 C8 b8 q9
    have hcn := (cells_of N9).1
    go_wp2_with fail
    refine (HNL.out w9).mono ?_
    rintro e w10 ⟨rfl, q10⟩
    have N10 := below_at q10 N9 (heap_lt N9)
    have P10 := below_at q10 P9 (heap_lt P9)
    have C10 := below_at q10 C9 (heap_lt C9)
    have b10 := b9.trans (q10.mono b9.size)
    clear N9 P9 C9 b9 q10
    have hcn := (cells_of N10).1
    have hcp := (cells_of P10).1
    go_upto_region 13 with fail
    clear e2 e3 e4 e5 hcn hcp d24 d33
    rw [show (F : Int) + 2 = ((F + 2 : Nat) : Int) by omega, show (F : Int) + 33 = ((F + 33 : Nat) : Int) by omega]
    obtain ⟨lo, hlo⟩ : ∃ n, F + 2 = n := ⟨_, rfl⟩
    obtain ⟨hi, hhi⟩ : ∃ n, F + 33 = n := ⟨_, rfl⟩
    rw [hlo] at HLO ⊢
    rw [hhi] at HHJ ⊢
    rw [HLO.out, HHJ.out] at HIN HOK
    rw [HLO.out, HHJ.out] at HC
    have HJN := HIN.out
    clear hlo hhi HLO HHJ
    have hcp := (cells_of P10).1
    go_wp2_with fail
    refine (HNX.out w10).mono ?_
    rintro e w11 ⟨rfl, q11⟩
    have N11 := below_at q11 N10 (heap_lt N10)
    have P11 := below_at q11 P10 (heap_lt P10)
    have C11 := below_at q11 C10 (heap_lt C10)
    have b11 := b10.trans (q11.mono b10.size)
    clear hcp N10 P10 C10 b10 q11
    have hcn := (cells_of N11).1
    go_upto_region 14 with fail
    go_cut [13] (fun v wx => v = .bool (netOkB a b) ∧ Below w11.heap.size w11 wx)
    case first =>
      clear P11 C11 b11 HJN HC HIN
      by_cases k1 : x = F
      · have x1 : ((x : Int) != (F : Int)) = false := by rw [k1]; simp
        have HV := Lib.hid (show netOkB a b = false by rw [HOK.out, decide_eq_true k1]; rfl)
        clear k1
        go_wp2_with fail
        go_meet
        exact ⟨by rw [HV.out], Below.refl _ _⟩
      · have x1 : ((x : Int) != (F : Int)) = true := by rw [bne_iff_ne]; omega
        have K1 := Lib.hid k1
        clear k1
        go_wp2_with fail
        refine (HLI.out _).mono ?_
        rintro e u1 ⟨rfl, r1⟩
        go_wp2_with fail
        refine (HNL.out _).mono ?_
        rintro e u2 ⟨rfl, r2⟩
        have r3 := r1.trans (r2.mono r1.size)
        clear r1 r2 hcn N11
        by_cases k2 : x = L
        · have x2 : ((x : Int) != (L : Int)) = false := by rw [k2]; simp
          have HV := Lib.hid (show netOkB a b = false by rw [HOK.out, decide_eq_true k2]; simp)
          clear k2
          go_wp2_with fail
          go_meet
          exact ⟨by rw [HV.out], r3⟩
        · have x2 : ((x : Int) != (L : Int)) = true := by rw [bne_iff_ne]; omega
          have K2 := Lib.hid k2
          clear k2
          by_cases k3 : x < lo
          · have x3 : decide (x < lo) = true := decide_eq_true k3
            have HV := Lib.hid (show netOkB a b = true by rw [HOK.out, decide_eq_false K1.out, decide_eq_false K2.out, decide_eq_true k3]; rfl)
            clear k3
            go_wp2_with fail
            go_meet
            exact ⟨by rw [HV.out], r3⟩
          · have x3 : decide (x < lo) = false := decide_eq_false k3
            by_cases k4 : hi < x
            case' pos =>
              have x4 : decide (hi < x) = true := decide_eq_true k4
              have HV := Lib.hid (show netOkB a b = true by rw [HOK.out, decide_eq_false K1.out, decide_eq_false K2.out, decide_eq_false k3, decide_eq_true k4]; rfl)
            case' neg =>
              have x4 : decide (hi < x) = false := decide_eq_false k4
              have HV := Lib.hid (show netOkB a b = false by rw [HOK.out, decide_eq_false K1.out, decide_eq_false K2.out, decide_eq_false k3, decide_eq_false k4]; rfl)
            all_goals
              clear k3 k4
              go_wp2_with fail
              go_meet
              exact ⟨by rw [HV.out], r3⟩
    case rest =>
      obtain ⟨rfl, qc⟩ := hcut
      have Nc := below_at qc N11 (heap_lt N11)
      have Pc := below_at qc P11 (heap_lt P11)
      have Cc := below_at qc C11 (heap_lt C11)
      have bc := b11.trans (qc.mono b11.size)
      clear hcn N11 P11 C11 b11 qc
      first
        | (replace HOKB : Hid (netOkB a b = false) := Lib.hid (Bool.eq_false_iff.2 HOKB.out)
           rw [HOKB.out]
           go_wp2_with fail
           go_ret
           exact ⟨rfl, bc⟩)
        | (have hn1 : numA c.fst = lo := by rw [HC.out.1, numA_of4 _ (by omega)]
           have hn2 : numA c.lst = hi := by rw [HC.out.2.1, numA_of4 _ (by omega)]
           have HN1 := Lib.hid (show ∀ w, Calls Tryd.prog 14 #[adV c.fst] w (fun e w' => e = .returned (.int .u32 lo) ∧ Below w.heap.size w w') from fun w => by
             have h := numa_any w c.fst
             rwa [hn1] at h)
           have HN2 := Lib.hid (show ∀ w, Calls Tryd.prog 14 #[adV c.lst] w (fun e w' => e = .returned (.int .u32 hi) ∧ Below w.heap.size w w') from fun w => by
             have h := numa_any w c.lst
             rwa [hn2] at h)
           have HH1 := Lib.hid (show ∀ w, Calls Tryd.prog 17 #[netV a b, adV c.fst] w (fun e w' => e = .returned (.bool true) ∧ Below w.heap.size w w') from fun w => by
             have h := has_any w a b c.fst
             rwa [HHAS.out, hn1, decide_eq_true (by omega), decide_eq_true (by omega)] at h)
           have HH2 := Lib.hid (show ∀ w, Calls Tryd.prog 17 #[netV a b, adV c.lst] w (fun e w' => e = .returned (.bool true) ∧ Below w.heap.size w w') from fun w => by
             have h := has_any w a b c.lst
             rwa [HHAS.out, hn2, decide_eq_true (by omega), decide_eq_true (by omega)] at h)
           have em := fun w => run_eql_ad w c.own a
           rw [show adeq c.own a = true by rw [HC.out.2.2]; exact adeq_self a] at em
           have el : IntKind.i64.wrap (lo : Int) = lo := IntWalk.i64_in _ (by omega)
           have eh : IntKind.i64.wrap (hi : Int) = hi := IntWalk.i64_in _ (by omega)
           have hcc := (cells_of Cc).1
           have hcn := (cells_of Nc).1
           have hcp := (cells_of Pc).1
           rw [HOKB.out]
           clear HC HJN hn1 hn2
           go_wp2_with fail
           refine (HN1.out _).mono ?_
           rintro e u1 ⟨rfl, r1⟩
           have N1 := below_at r1 Nc (heap_lt Nc)
           have C1 := below_at r1 Cc (heap_lt Cc)
           have b1 := bc.trans (r1.mono bc.size)
           clear hcc hcn hcp Nc Cc Pc bc r1
           have hcc := (cells_of C1).1
           go_wp2_with fail
           refine (HN2.out _).mono ?_
           rintro e u2 ⟨rfl, r2⟩
           have N2 := below_at r2 N1 (heap_lt N1)
           have C2 := below_at r2 C1 (heap_lt C1)
           have b2 := b1.trans (r2.mono b1.size)
           clear hcc N1 C1 b1 r2
           have hcc := (cells_of C2).1
           have hcn := (cells_of N2).1
           go_wp2_with fail
           refine (HH1.out _).mono ?_
           rintro e u3 ⟨rfl, r3⟩
           have N3 := below_at r3 N2 (heap_lt N2)
           have C3 := below_at r3 C2 (heap_lt C2)
           have b3 := b2.trans (r3.mono b2.size)
           clear hcc hcn N2 C2 b2 r3
           have hcc := (cells_of C3).1
           have hcn := (cells_of N3).1
           go_wp2_with fail
           refine (HH2.out _).mono ?_
           rintro e u4 ⟨rfl, r4⟩
           have b4 := b3.trans (r4.mono b3.size)
           go_wp2_with fail
           go_ret
           exact ⟨rfl, b4⟩)
theorem confNets_any (w : World) (hm : mlIs w) (hp : powIs w) (a : Ad4) (_ : True) (b : Int) (_ : (Lit.int .i64 b).wf = true) : Calls Tryd.prog 7 #[adV a, .int .i64 b] w (TruePost w) := by
  by_cases hx : b < 8 ∨ 28 < b
  · exact confNets_out w hm a b hx
  · obtain ⟨b, rfl⟩ := Int.eq_ofNat_of_zero_le (show 0 ≤ b by omega)
    by_cases h24 : 24 < b
    · by_cases h33 : numA a / 2 ^ (32 - b) * 2 ^ (32 - b) + (2 ^ (32 - b) - 1) - 1 < numA a / 2 ^ (32 - b) * 2 ^ (32 - b) + 33
      · exact confNets_b w hm hp a b (by omega) (by omega) h24 h33
      · exact confNets_c w hm hp a b (by omega) (by omega) h24 h33
    · exact confNets_a w hm hp a b (by omega) (by omega) h24
end Go.Proofs.YtnmdiageigbphaaDoor
