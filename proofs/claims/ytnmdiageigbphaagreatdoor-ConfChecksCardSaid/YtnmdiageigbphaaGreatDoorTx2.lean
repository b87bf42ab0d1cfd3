/-
  conf.Text: what it writes.
-/
import Derived.Test.YtnmdiageigbphaaGreatDoorTp1
namespace Go.Proofs.YtnmdiageigbphaaGreatDoor
open Go.RowKit

set_option maxRecDepth 100000 in
set_option maxHeartbeats 16000000 in
theorem text_in (w : World) (hp : powIs w) (c : Cf) (lf : List Fx) (lo : List Opn) (A : Option Addr) (n k : Nat) (A2 : Option Addr) (n2 k2 : Nat) (hC : CR w w.heap.size ⟨c, lf, lo⟩ A n A2 n2) (hk : chkG ⟨c, lf, lo⟩ = 0) :
    Calls Tryz.prog 12 #[.agg (cfC c (.slice A n k) (.slice A2 n2 k2))] w (fun e w' => e = .returned (.string (str (textG ⟨c, lf, lo⟩))) ∧ Below w.heap.size w w') := by
  have OK := ok_of hk
  have P0 := heap_alloc_new w (.cells (cfC c (.slice A n k) (.slice A2 n2 k2)) 32)
  have b0 : Below w.heap.size w (w.alloc (.cells (cfC c (.slice A n k) (.slice A2 n2 k2)) 32)) := (Below.refl _ w).alloc (Nat.le_refl _) _
  have hC0 := hC.next b0
  have hp0 := hp.below b0
  have hpl := hp.lt
  obtain ⟨cs, hcs⟩ : ∃ cs, cfC c (.slice A n k) (.slice A2 n2 k2) = cs := ⟨_, rfl⟩
  have HCS := Lib.hid hcs
  clear hcs
  go_enter Tryz.func12, Tryz.ntmps12
  go_upto_region 1 with fail
  generalize w.alloc (.cells (cfC c (.slice A n k) (.slice A2 n2 k2)) 32) = w0 at P0 b0 hC0 hp0 ⊢
  obtain ⟨g0, hg⟩ : ∃ g, w.heap.size = g := ⟨_, rfl⟩
  have hCw := Lib.hid hC
  have HB := Lib.hid b0
  have hz0 := b0.size
  rw [hg] at P0 hpl hz0 ⊢
  have hl0 := heap_lt P0
  have HG := Lib.hid hg
  clear hg hC b0
  go_wp2_with ((with_reducible apply at_load_row 32); (case hx => exact rfl); (case hg => exact P0); (case hu => exact Tryz.underlying32); (case hd => rfl); (case hi => kernel_rfl))
  refine (check_all w0 ⟨c, lf, lo⟩ A n k A2 n2 k2 hC0).mono ?_
  rw [hk]
  rintro e w1 ⟨rfl, q1⟩
  have P1 := below_at q1 P0 hl0
  have p1 := hp0.below q1
  have hz1 := q1.size
  have HB1 := Lib.hid (HB.out.trans (q1.mono HB.out.size))
  clear hC0 hp0 P0 q1 HB
  go_upto_region 4 with fail
  have I : TxI w1.heap.size g0 cs w1 [] (w1.alloc (.cells #[.pointer none, .slice none 0 0] 77)) := by
    have q : Below w1.heap.size w1 (w1.alloc (.cells #[.pointer none, .slice none 0 0] 77)) := (Below.refl _ w1).alloc (Nat.le_refl _) _
    refine ⟨q, BB.made w1, p1.below q, ?_, by simp [catL]⟩
    rw [← HCS.out]
    exact below_at q P1 (heap_lt P1)
  obtain ⟨b, hb⟩ : ∃ b, w1.heap.size = b := ⟨_, rfl⟩
  have HB2 := Lib.hid hb
  rw [hb] at I hz1 ⊢
  have hgb : g0 < b := by omega
  have hpb : 1 < b := by omega
  generalize w1.alloc (.cells #[.pointer none, .slice none 0 0] 77) = w2 at I ⊢
  have HZ := Lib.hid (⟨hz0, hz1, hl0, hpl⟩ : _ ∧ _ ∧ _ ∧ _)
  clear hz0 hz1 hl0 hpl p1 P1 hb

  have PC : w2.heap[g0]? = some (.cells (cfC c (.slice A n k) (.slice A2 n2 k2)) 32 (0, 0)) := by rw [HCS.out]; exact I.P
  have hc := (cells_of PC).1
  clear PC
  go_wp2_with fail
  refine (netText_int _ I.pw c.own c.lanB (by have := OK.b0; omega) (by have := OK.b1; omega)).mono ?_
  rintro e w3 ⟨rfl, q⟩
  replace I := I.next q
  clear q hc
  go_wp2_with fail
  refine (line1_any I nLan (textN c.own c.lanB.toNat) hgb hpb (by decide) (textN_240 _ _ (by have := OK.b0; have := OK.b1; omega)) (by simp)).mono ?_
  clear I
  rintro e w4 ⟨rfl, I⟩
  have PC : w4.heap[g0]? = some (.cells (cfC c (.slice A n k) (.slice A2 n2 k2)) 32 (0, 0)) := by rw [HCS.out]; exact I.P
  have hc := (cells_of PC).1
  clear PC
  go_wp2_with fail
  refine (macText_any _ c.lm).mono ?_
  rintro e w5 ⟨rfl, q⟩
  replace I := I.next q
  clear q hc
  go_wp2_with fail
  refine (line1_any I nLanmac (textM c.lm) hgb hpb (by decide) (textM_240 _) (by simp)).mono ?_
  clear I
  rintro e w6 ⟨rfl, I⟩
  have PC : w6.heap[g0]? = some (.cells (cfC c (.slice A n k) (.slice A2 n2 k2)) 32 (0, 0)) := by rw [HCS.out]; exact I.P
  have hc := (cells_of PC).1
  clear PC
  go_wp2_with fail
  refine (macText_any _ c.wm).mono ?_
  rintro e w7 ⟨rfl, q⟩
  replace I := I.next q
  clear q hc
  go_wp2_with fail
  refine (line1_any I nWanmac (textM c.wm) hgb hpb (by decide) (textM_240 _) (by simp)).mono ?_
  clear I
  rintro e w8 ⟨rfl, I⟩
  have PC : w8.heap[g0]? = some (.cells (cfC c (.slice A n k) (.slice A2 n2 k2)) 32 (0, 0)) := by rw [HCS.out]; exact I.P
  have hc := (cells_of PC).1
  clear PC
  go_wp2_with fail
  refine (text_any _ I.pw c.fst).mono ?_
  rintro e w9 ⟨rfl, q⟩
  replace I := I.next q
  clear q hc
  go_wp2_with fail
  refine (line1_any I nFirst (textA c.fst) hgb hpb (by decide) (textA_240 _) (by simp)).mono ?_
  clear I
  rintro e w10 ⟨rfl, I⟩
  have PC : w10.heap[g0]? = some (.cells (cfC c (.slice A n k) (.slice A2 n2 k2)) 32 (0, 0)) := by rw [HCS.out]; exact I.P
  have hc := (cells_of PC).1
  clear PC
  go_wp2_with fail
  refine (text_any _ I.pw c.lst).mono ?_
  rintro e w11 ⟨rfl, q⟩
  replace I := I.next q
  clear q hc
  go_wp2_with fail
  refine (line1_any I nLast (textA c.lst) hgb hpb (by decide) (textA_240 _) (by simp)).mono ?_
  clear I
  rintro e w12 ⟨rfl, I⟩
  have PC : w12.heap[g0]? = some (.cells (cfC c (.slice A n k) (.slice A2 n2 k2)) 32 (0, 0)) := by rw [HCS.out]; exact I.P
  have hc := (cells_of PC).1
  clear PC
  go_wp2_with fail
  refine (itoa_int _ I.pw c.time (by have := OK.t; omega) (by have := OK.t; omega)).mono ?_
  rintro e w13 ⟨rfl, q⟩
  replace I := I.next q
  clear q hc
  go_wp2_with fail
  refine (line1_any I nTime (decB c.time.toNat) hgb hpb (by decide) (dec_len240 _ (by have := OK.t; omega)) (by simp)).mono ?_
  clear I
  rintro e w14 ⟨rfl, I⟩
  have PC : w14.heap[g0]? = some (.cells (cfC c (.slice A n k) (.slice A2 n2 k2)) 32 (0, 0)) := by rw [HCS.out]; exact I.P
  have hc := (cells_of PC).1
  clear PC
  go_wp2_with fail
  refine (text_any _ I.pw c.dns).mono ?_
  rintro e w15 ⟨rfl, q⟩
  replace I := I.next q
  clear q hc
  go_wp2_with fail
  refine (line1_any I nDns (textA c.dns) hgb hpb (by decide) (textA_240 _) (by simp)).mono ?_
  clear I
  rintro e w16 ⟨rfl, I⟩
  have PC : w16.heap[g0]? = some (.cells (cfC c (.slice A n k) (.slice A2 n2 k2)) 32 (0, 0)) := by rw [HCS.out]; exact I.P
  have hc := (cells_of PC).1
  clear PC
  go_wp2_with fail
  refine (itoa_int _ I.pw c.udp (by have := OK.u; omega) (by have := OK.u; omega)).mono ?_
  rintro e w17 ⟨rfl, q⟩
  replace I := I.next q
  clear q hc
  go_wp2_with fail
  refine (line1_any I nUdp (decB c.udp.toNat) hgb hpb (by decide) (dec_len240 _ (by have := OK.u; omega)) (by simp)).mono ?_
  clear I
  rintro e w18 ⟨rfl, I⟩
  have PC : w18.heap[g0]? = some (.cells (cfC c (.slice A n k) (.slice A2 n2 k2)) 32 (0, 0)) := by rw [HCS.out]; exact I.P
  have hc := (cells_of PC).1
  clear PC
  go_wp2_with fail
  refine (itoa_int _ I.pw c.tcp (by have := OK.tc; omega) (by have := OK.tc; omega)).mono ?_
  rintro e w19 ⟨rfl, q⟩
  replace I := I.next q
  clear q hc
  go_wp2_with fail
  refine (line1_any I nTcp (decB c.tcp.toNat) hgb hpb (by decide) (dec_len240 _ (by have := OK.tc; omega)) (by simp)).mono ?_
  clear I
  rintro e w20 ⟨rfl, I⟩
  have PC : w20.heap[g0]? = some (.cells (cfC c (.slice A n k) (.slice A2 n2 k2)) 32 (0, 0)) := by rw [HCS.out]; exact I.P
  have hc := (cells_of PC).1
  clear PC
  go_wp2_with fail
  refine (itoa_int _ I.pw c.icmp (by have := OK.ic; omega) (by have := OK.ic; omega)).mono ?_
  rintro e w21 ⟨rfl, q⟩
  replace I := I.next q
  clear q hc
  go_wp2_with fail
  refine (line1_any I nIcmp (decB c.icmp.toNat) hgb hpb (by decide) (dec_len240 _ (by have := OK.ic; omega)) (by simp)).mono ?_
  clear I
  rintro e w22 ⟨rfl, I⟩
  have PC : w22.heap[g0]? = some (.cells (cfC c (.slice A n k) (.slice A2 n2 k2)) 32 (0, 0)) := by rw [HCS.out]; exact I.P
  have hc := (cells_of PC).1
  clear PC
  go_wp2_with fail
  refine (itoa_int _ I.pw c.low (by have := OK.lw; omega) (by have := OK.lw; omega)).mono ?_
  rintro e w23 ⟨rfl, q⟩
  replace I := I.next q
  clear q hc
  go_wp2_with fail
  refine (line1_any I nLow (decB c.low.toNat) hgb hpb (by decide) (dec_len240 _ (by have := OK.lw; omega)) (by simp)).mono ?_
  clear I
  rintro e w24 ⟨rfl, I⟩
  have I0 : TxI b g0 cs w1 (headL c ++ (lf.take 0).map fxT) w24 := by
    rw [List.take_zero, List.map_nil, List.append_nil]
    exact I
  clear I
  have PC : w24.heap[g0]? = some (.cells (cfC c (.slice A n k) (.slice A2 n2 k2)) 32 (0, 0)) := by rw [HCS.out]; exact I0.P
  have hc := (cells_of PC).1
  have HN := Lib.hid hCw.out.nf
  have HN2 := Lib.hid hCw.out.no
  clear PC
  go_wp2_with fail
  clear hc
  go_loopw [86] (fun v wr => ∃ i : Nat, v = .int .i64 i ∧ i ≤ n ∧ TxI b g0 cs w1 (headL c ++ (lf.take i).map fxT) wr) (fun v _ => n - (intOf v).toNat)
  case atStart => exact ⟨0, rfl, Nat.zero_le _, I0⟩
  case round =>
    clear I0
    obtain ⟨i, rfl, hi, I⟩ := hrel
    rcases Nat.lt_or_ge i n with hlt | hge
    · have hlti : decide ((i : Int) < (n : Int)) = true := decide_eq_true (by omega)
      have hnn : (0 : Int) ≤ (i : Int) ∧ (i : Int) < (n : Int) := by omega
      have hn32 : n ≤ 32 := by have := OK.nf; have := HN.out; omega
      have w64 : IntKind.i64.wrap ((i : Int) + 1) = (i : Int) + 1 := IntWalk.i64_in _ (by omega)
      obtain ⟨f, hf⟩ : ∃ f, lf[i]? = some f := ⟨lf[i]'(by have := HN.out; omega), List.getElem?_eq_getElem _⟩
      obtain ⟨bk, ob, rfl, hbk⟩ := fx_some hCw.out.rf hf
      have hra := fx_range (hCw.out.rf.below (HB1.out.trans (I.q.mono (by have := HZ.out; have := HG.out; omega)))) hf
      have HTK := Lib.hid (show headL c ++ (lf.take (i + 1)).map fxT = headL c ++ (lf.take i).map fxT ++ [fxT f] by
        rw [List.take_add_one, hf]
        simp)
      have HLT := Lib.hid hlt
      clear hf hlt hi
      go_upto_region 19 with (first | ((with_reducible apply at_load_mid 73); (case hx => exact rfl); (case hc => exact hra); (case hu => exact Tryz.underlying73); (case hd => rfl); (case hi => kernel_rfl)) | ((with_reducible apply at_store_new 73); (case hx => exact rfl); (case hy => exact rfl); (case hg => first | rfl | simp); (case hi => kernel_rfl); (case hold => rfl); (case h1 => kernel_rfl)))
      have F2 := heap_alloc_new wr (.cells (fxC f) 73)
      have I2 := I.next ((Below.refl wr.heap.size wr).alloc (Nat.le_refl _) (.cells (fxC f) 73))
      have hbl : b < wr.heap.size := I.bb.lt
      obtain ⟨gf, hgf⟩ : ∃ gf, wr.heap.size = gf := ⟨_, rfl⟩
      rw [hgf] at F2 hbl ⊢
      generalize wr.alloc (.cells (fxC f) 73) = w5 at F2 I2 ⊢
      have I3 := I2.next (w' := w5.drew) (Below.refl _ _).drew
      have hgl := heap_lt F2
      have hM : ¬ kM b w5 gf := kM_no F2 (by omega) (by decide)
      have kF := Ext.cells (w := w5.drew) (M := kM b w5) F2 hM
      have hlm := textM_240 f.m
      have hla := textA_le f.a
      clear I I2 hgf F2 hM hra hbl
      refine rg_begin (kM b w5) (by kernel_rfl) ?_
      refine rg_take (v := ?_) 0 rfl (by kernel_rfl) (by kernel_rfl) (by kernel_rfl) (fun _ _ _ h => h) (by rfl) ?_ ?_; rotate_left
      · (intro x hx; go_simp; first | done | with_reducible rfl | (rw [if_pos (by omega)]; try with_reducible rfl) | (rw [if_neg (by omega)]; try with_reducible rfl))
      try simp only [Act.put, List.setIfInBounds_toArray, List.set_cons_zero, List.set_cons_succ]
      refine rg_take (v := ?_) 1 rfl (by kernel_rfl) (by kernel_rfl) (by kernel_rfl) (fun _ _ _ h => h) (by rfl) ?_ ?_; rotate_left
      · (intro x hx; go_simp; first | done | with_reducible rfl | (rw [if_pos (by omega)]; try with_reducible rfl) | (rw [if_neg (by omega)]; try with_reducible rfl))
      try simp only [Act.put, List.setIfInBounds_toArray, List.set_cons_zero, List.set_cons_succ]
      refine rg_take (v := ?_) 2 rfl (by kernel_rfl) (by kernel_rfl) (by kernel_rfl) (fun _ _ _ h => h) (by rfl) ?_ ?_; rotate_left
      · (intro x hx; go_simp; first | done | with_reducible rfl | (rw [if_pos (by omega)]; try with_reducible rfl) | (rw [if_neg (by omega)]; try with_reducible rfl))
      try simp only [Act.put, List.setIfInBounds_toArray, List.set_cons_zero, List.set_cons_succ]
      refine rg_take (v := ?_) 4 rfl (by kernel_rfl) (by kernel_rfl) (by kernel_rfl) (fun _ _ _ h => h) (by rfl) ?_ ?_; rotate_left
      · (intro x hx; go_simp; first | done | with_reducible rfl | (rw [if_pos (by omega)]; try with_reducible rfl) | (rw [if_neg (by omega)]; try with_reducible rfl))
      try simp only [Act.put, List.setIfInBounds_toArray, List.set_cons_zero, List.set_cons_succ]
      refine rg_take (v := ?_) 5 rfl (by kernel_rfl) (by kernel_rfl) (by kernel_rfl) (fun _ _ _ h => h) (by rfl) ?_ ?_; rotate_left
      · (intro x hx; go_simp; first | done | with_reducible rfl | (rw [if_pos (by omega)]; try with_reducible rfl) | (rw [if_neg (by omega)]; try with_reducible rfl))
      try simp only [Act.put, List.setIfInBounds_toArray, List.set_cons_zero, List.set_cons_succ]
      refine rg_step 3 rfl (by kernel_rfl) (by rfl) (fun K hK => ?_)
      go_simp
      refine (macText_any _ f.m).mono ?_
      rintro e u1 ⟨rfl, p1⟩
      have e1 := Ext.below_all (kM b w5) p1
      have I4 := I3.next p1
      refine hK.out _ _ (Ext.below_all _ p1) ?_
      clear hK K; try simp only [Act.put, List.setIfInBounds_toArray, List.set_cons_zero, List.set_cons_succ]
      refine rg_step 6 rfl (by kernel_rfl) (by rfl) (fun K hK => ?_)
      go_simp
      refine (text_any _ I4.pw f.a).mono ?_
      rintro e u2 ⟨rfl, p2⟩
      have e2 := e1.trans (Ext.below_all _ p2)
      have I5 := I4.next p2
      refine hK.out _ _ (Ext.below_all _ p2) ?_
      clear hK K; try simp only [Act.put, List.setIfInBounds_toArray, List.set_cons_zero, List.set_cons_succ]
      refine rg_step 7 rfl (by kernel_rfl) (by rfl) (fun K hK => ?_)
      go_simp
      have p3 : Below u2.heap.size u2 (u2.alloc (.cells #[.string (str (textM f.m)), .string (str (textA f.a))] 9)) := (Below.refl _ _).alloc (Nat.le_refl _) _
      have e3 := e2.trans (Ext.below_all _ p3)
      have I6 := I5.next p3
      have hcc := (cells_of (heap_alloc_new u2 (.cells #[.string (str (textM f.m)), .string (str (textA f.a))] 9))).1
      refine hK.out _ _ (Ext.below_all _ p3) ?_
      clear hK K; try simp only [Act.put, List.setIfInBounds_toArray, List.set_cons_zero, List.set_cons_succ]
      refine rg_step 8 rfl (by kernel_rfl) (by rfl) (fun K hK => ?_)
      go_simp
      refine (lineN_any I6 nFixed [textM f.m, textA f.a] u2.heap.size 2 2 rfl (by decide) (Nat.le_refl _) (by simp) (fun j x hx => by
        rcases j with _ | _ | j
        · obtain rfl : textM f.m = x := by simpa using hx
          exact hcc 0
        · obtain rfl : textA f.a = x := by simpa using hx
          exact hcc 1
        · simp at hx) hgb hpb (by decide) (by rw [join_two]; have := textM_17 f.m; simp; omega) (by have := OK.nf; simp [headL]; omega)).mono ?_
      rintro e u4 ⟨rfl, I7, p4, k4⟩
      refine hK.out _ _ (ext_kept e3 p4 k4 (by have := I6.bb.lt; omega)) ?_
      clear hK K; try simp only [Act.put, List.setIfInBounds_toArray, List.set_cons_zero, List.set_cons_succ]
      refine rg_done (by kernel_rfl) ?_
      go_wp2_with fail
      go_roundw
      case rel => exact ⟨i + 1, by push_cast; rfl, HLT.out, by rw [HTK.out, fxT, ← join_two]; exact I7⟩
      case measure => have := HLT.out; simp [intOf]; omega
    · obtain rfl : i = n := by omega
      have hlti : decide ((i : Int) < (i : Int)) = false := decide_eq_false (by omega)
      have J0 : TxI b g0 cs w1 (headL c ++ lf.map fxT ++ (lo.take 0).map opT) wr := by
        rw [List.take_zero, List.map_nil, List.append_nil]
        have h := I
        rwa [List.take_of_length_le (by have := HN.out; omega)] at h
      have PC : wr.heap[g0]? = some (.cells (cfC c (.slice A i k) (.slice A2 n2 k2)) 32 (0, 0)) := by rw [HCS.out]; exact J0.P
      have hc := (cells_of PC).1
      clear PC I
      go_wp2_with fail
      clear hc
      go_loopw [103] (fun v wr => ∃ j : Nat, v = .int .i64 j ∧ j ≤ n2 ∧ TxI b g0 cs w1 (headL c ++ lf.map fxT ++ (lo.take j).map opT) wr) (fun v _ => n2 - (intOf v).toNat)
      case atStart => exact ⟨0, rfl, Nat.zero_le _, J0⟩
      case round =>
        clear J0
        rename_i wq _
        obtain ⟨j, rfl, hj, I⟩ := hrel
        rcases Nat.lt_or_ge j n2 with hlt | hge
        · have hltj : decide ((j : Int) < (n2 : Int)) = true := decide_eq_true (by omega)
          have hnn : (0 : Int) ≤ (j : Int) ∧ (j : Int) < (n2 : Int) := by omega
          have hn32 : n2 ≤ 32 := by have := OK.no; have := HN2.out; omega
          have w64 : IntKind.i64.wrap ((j : Int) + 1) = (j : Int) + 1 := IntWalk.i64_in _ (by omega)
          obtain ⟨f, hf⟩ : ∃ f, lo[j]? = some f := ⟨lo[j]'(by have := HN2.out; omega), List.getElem?_eq_getElem _⟩
          have HOP := Lib.hid (OK.op f (List.mem_iff_getElem?.2 ⟨j, hf⟩))
          obtain ⟨bk, ob, rfl, hbk⟩ := op_some hCw.out.ro hf
          have hra := op_range (hCw.out.ro.below (HB1.out.trans (I.q.mono (by have := HZ.out; have := HG.out; omega)))) hf
          have HTK := Lib.hid (show headL c ++ lf.map fxT ++ (lo.take (j + 1)).map opT = headL c ++ lf.map fxT ++ (lo.take j).map opT ++ [opT f] by
            rw [List.take_add_one, hf]
            simp)
          have HLT := Lib.hid hlt
          clear hf hlt hj
          go_upto_region 24 with (first | ((with_reducible apply at_load_mid 48); (case hx => exact rfl); (case hc => exact hra); (case hu => exact Tryz.underlying48); (case hd => rfl); (case hi => kernel_rfl)) | ((with_reducible apply at_store_new 48); (case hx => exact rfl); (case hy => exact rfl); (case hg => first | rfl | simp); (case hi => kernel_rfl); (case hold => rfl); (case h1 => kernel_rfl)))
          have F2 := heap_alloc_new wr (.cells (opC f) 48)
          have I2 := I.next ((Below.refl wr.heap.size wr).alloc (Nat.le_refl _) (.cells (opC f) 48))
          have hbl : b < wr.heap.size := I.bb.lt
          obtain ⟨gf, hgf⟩ : ∃ gf, wr.heap.size = gf := ⟨_, rfl⟩
          rw [hgf] at F2 hbl ⊢
          generalize wr.alloc (.cells (opC f) 48) = w5 at F2 I2 ⊢
          have I3 := I2.next (w' := w5.drew) (Below.refl _ _).drew
          have hgl := heap_lt F2
          have hM : ¬ kM b w5 gf := kM_no F2 (by omega) (by decide)
          have kF := Ext.cells (w := w5.drew) (M := kM b w5) F2 hM
          have hpo := dec_len240 f.po.toNat (by have := HOP.out; have := OK.lw; omega)
          have lpo : (decB f.po.toNat).length ≤ 9 := decB_len9 (by have := HOP.out; have := OK.lw; omega)
          have ltp : (decB f.tp.toNat).length ≤ 9 := decB_len9 (by have := HOP.out; omega)
          have hla := textA_le f.a
          have hlp : (prT f.pr).length ≤ 3 := by unfold prT; split <;> decide
          clear I I2 hgf F2 hM hra hbl
          refine rg_begin (kM b w5) (by kernel_rfl) ?_
          refine rg_take (v := ?_) 0 rfl (by kernel_rfl) (by kernel_rfl) (by kernel_rfl) (fun _ _ _ h => h) (by rfl) ?_ ?_; rotate_left
          · (intro x hx; go_simp; first | done | with_reducible rfl | (rw [if_pos (by omega)]; try with_reducible rfl) | (rw [if_neg (by omega)]; try with_reducible rfl))
          try simp only [Act.put, List.setIfInBounds_toArray, List.set_cons_zero, List.set_cons_succ]
          refine rg_take (v := ?_) 1 rfl (by kernel_rfl) (by kernel_rfl) (by kernel_rfl) (fun _ _ _ h => h) (by rfl) ?_ ?_; rotate_left
          · (intro x hx; go_simp; first | done | with_reducible rfl | (rw [if_pos (by omega)]; try with_reducible rfl) | (rw [if_neg (by omega)]; try with_reducible rfl))
          try simp only [Act.put, List.setIfInBounds_toArray, List.set_cons_zero, List.set_cons_succ]
          refine rg_take (v := ?_) 2 rfl (by kernel_rfl) (by kernel_rfl) (by kernel_rfl) (fun _ _ _ h => h) (by rfl) ?_ ?_; rotate_left
          · (intro x hx; go_simp; first | done | with_reducible rfl | (rw [if_pos (by omega)]; try with_reducible rfl) | (rw [if_neg (by omega)]; try with_reducible rfl))
          try simp only [Act.put, List.setIfInBounds_toArray, List.set_cons_zero, List.set_cons_succ]
          refine rg_take (v := ?_) 4 rfl (by kernel_rfl) (by kernel_rfl) (by kernel_rfl) (fun _ _ _ h => h) (by rfl) ?_ ?_; rotate_left
          · (intro x hx; go_simp; first | done | with_reducible rfl | (rw [if_pos (by omega)]; try with_reducible rfl) | (rw [if_neg (by omega)]; try with_reducible rfl))
          try simp only [Act.put, List.setIfInBounds_toArray, List.set_cons_zero, List.set_cons_succ]
          refine rg_take (v := ?_) 5 rfl (by kernel_rfl) (by kernel_rfl) (by kernel_rfl) (fun _ _ _ h => h) (by rfl) ?_ ?_; rotate_left
          · (intro x hx; go_simp; first | done | with_reducible rfl | (rw [if_pos (by omega)]; try with_reducible rfl) | (rw [if_neg (by omega)]; try with_reducible rfl))
          try simp only [Act.put, List.setIfInBounds_toArray, List.set_cons_zero, List.set_cons_succ]
          refine rg_take (v := ?_) 7 rfl (by kernel_rfl) (by kernel_rfl) (by kernel_rfl) (fun _ _ _ h => h) (by rfl) ?_ ?_; rotate_left
          · (intro x hx; go_simp; first | done | with_reducible rfl | (rw [if_pos (by omega)]; try with_reducible rfl) | (rw [if_neg (by omega)]; try with_reducible rfl))
          try simp only [Act.put, List.setIfInBounds_toArray, List.set_cons_zero, List.set_cons_succ]
          refine rg_take (v := ?_) 8 rfl (by kernel_rfl) (by kernel_rfl) (by kernel_rfl) (fun _ _ _ h => h) (by rfl) ?_ ?_; rotate_left
          · (intro x hx; go_simp; first | done | with_reducible rfl | (rw [if_pos (by omega)]; try with_reducible rfl) | (rw [if_neg (by omega)]; try with_reducible rfl))
          try simp only [Act.put, List.setIfInBounds_toArray, List.set_cons_zero, List.set_cons_succ]
          refine rg_take (v := ?_) 10 rfl (by kernel_rfl) (by kernel_rfl) (by kernel_rfl) (fun _ _ _ h => h) (by rfl) ?_ ?_; rotate_left
          · (intro x hx; go_simp; first | done | with_reducible rfl | (rw [if_pos (by omega)]; try with_reducible rfl) | (rw [if_neg (by omega)]; try with_reducible rfl))
          try simp only [Act.put, List.setIfInBounds_toArray, List.set_cons_zero, List.set_cons_succ]
          refine rg_take (v := ?_) 11 rfl (by kernel_rfl) (by kernel_rfl) (by kernel_rfl) (fun _ _ _ h => h) (by rfl) ?_ ?_; rotate_left
          · (intro x hx; go_simp; first | done | with_reducible rfl | (rw [if_pos (by omega)]; try with_reducible rfl) | (rw [if_neg (by omega)]; try with_reducible rfl))
          try simp only [Act.put, List.setIfInBounds_toArray, List.set_cons_zero, List.set_cons_succ]
          refine rg_step 3 rfl (by kernel_rfl) (by rfl) (fun K hK => ?_)
          go_simp
          refine (protocol_any _ f.pr).mono ?_
          rintro e u0 ⟨rfl, rfl⟩
          refine hK.out _ _ (Ext.refl _ _) ?_
          clear hK K; try simp only [Act.put, List.setIfInBounds_toArray, List.set_cons_zero, List.set_cons_succ]
          refine rg_step 6 rfl (by kernel_rfl) (by rfl) (fun K hK => ?_)
          go_simp
          refine (itoa_int _ I3.pw f.po (by have := HOP.out; omega) (by have := HOP.out; have := OK.lw; omega)).mono ?_
          rintro e u1 ⟨rfl, p1⟩
          have e1 := Ext.below_all (kM b w5) p1
          have I4 := I3.next p1
          refine hK.out _ _ (Ext.below_all _ p1) ?_
          clear hK K; try simp only [Act.put, List.setIfInBounds_toArray, List.set_cons_zero, List.set_cons_succ]
          refine rg_step 9 rfl (by kernel_rfl) (by rfl) (fun K hK => ?_)
          go_simp
          refine (text_any _ I4.pw f.a).mono ?_
          rintro e u2 ⟨rfl, p2⟩
          have e2 := e1.trans (Ext.below_all _ p2)
          have I5 := I4.next p2
          refine hK.out _ _ (Ext.below_all _ p2) ?_
          clear hK K; try simp only [Act.put, List.setIfInBounds_toArray, List.set_cons_zero, List.set_cons_succ]
          refine rg_step 12 rfl (by kernel_rfl) (by rfl) (fun K hK => ?_)
          go_simp
          refine (itoa_int _ I5.pw f.tp (by have := HOP.out; omega) (by have := HOP.out; omega)).mono ?_
          rintro e u3 ⟨rfl, p3⟩
          have e3 := e2.trans (Ext.below_all _ p3)
          have I6 := I5.next p3
          refine hK.out _ _ (Ext.below_all _ p3) ?_
          clear hK K; try simp only [Act.put, List.setIfInBounds_toArray, List.set_cons_zero, List.set_cons_succ]
          refine rg_step 13 rfl (by kernel_rfl) (by rfl) (fun K hK => ?_)
          go_simp
          have p4 : Below u3.heap.size u3 (u3.alloc (.cells #[.string (str (prT f.pr)), .string (str (decB f.po.toNat)), .string (str (textA f.a)), .string (str (decB f.tp.toNat))] 9)) := (Below.refl _ _).alloc (Nat.le_refl _) _
          have e4 := e3.trans (Ext.below_all _ p4)
          have I7 := I6.next p4
          have hcc := (cells_of (heap_alloc_new u3 (.cells #[.string (str (prT f.pr)), .string (str (decB f.po.toNat)), .string (str (textA f.a)), .string (str (decB f.tp.toNat))] 9))).1
          refine hK.out _ _ (Ext.below_all _ p4) ?_
          clear hK K; try simp only [Act.put, List.setIfInBounds_toArray, List.set_cons_zero, List.set_cons_succ]
          refine rg_step 14 rfl (by kernel_rfl) (by rfl) (fun K hK => ?_)
          go_simp
          refine (lineN_any I7 nOpen [prT f.pr, decB f.po.toNat, textA f.a, decB f.tp.toNat] u3.heap.size 4 4 rfl (by decide) (Nat.le_refl _) (by simp) (fun j x hx => by
            rcases j with _ | _ | _ | _ | j
            · obtain rfl : prT f.pr = x := by simpa using hx
              exact hcc 0
            · obtain rfl : decB f.po.toNat = x := by simpa using hx
              exact hcc 1
            · obtain rfl : textA f.a = x := by simpa using hx
              exact hcc 2
            · obtain rfl : decB f.tp.toNat = x := by simpa using hx
              exact hcc 3
            · simp at hx) hgb hpb (by decide) (by rw [join_four]; simp; omega) (by have := OK.nf; have := OK.no; simp [headL]; omega)).mono ?_
          rintro e u5 ⟨rfl, I8, p5, k5⟩
          refine hK.out _ _ (ext_kept e4 p5 k5 (by have := I7.bb.lt; omega)) ?_
          clear hK K; try simp only [Act.put, List.setIfInBounds_toArray, List.set_cons_zero, List.set_cons_succ]
          refine rg_done (by kernel_rfl) ?_
          go_wp2_with fail
          go_roundw
          case rel => exact ⟨j + 1, by push_cast; rfl, HLT.out, by rw [HTK.out, opT, ← join_four]; exact I8⟩
          case measure => have := HLT.out; simp [intOf]; omega
        · obtain rfl : j = n2 := by omega
          have hltj : decide ((j : Int) < (j : Int)) = false := decide_eq_false (by omega)
          have I9 : TxI b g0 cs w1 (linesG ⟨c, lf, lo⟩) wr := by
            have h := I
            rw [List.take_of_length_le (by have := HN2.out; omega)] at h
            exact h
          obtain ⟨TG, hTG⟩ : ∃ t, catL (linesG ⟨c, lf, lo⟩) = t := ⟨_, rfl⟩
          have HB9 : BB b b TG wr := by rw [← hTG]; exact I9.bb
          have HE := Lib.hid (show textG ⟨c, lf, lo⟩ = TG from hTG)
          have hq9 := I9.q
          clear hTG I9 I
          go_wp2_with fail
          refine (bstring_any b b TG _ HB9 (by have := HB9.lt; omega)).mono ?_
          rintro e w9 ⟨rfl, q9⟩
          have b9 := hq9.trans q9
          go_wp2_with fail
          go_ret
          exact ⟨by rw [HE.out]; rfl, HB1.out.trans (b9.mono (by have := HZ.out; have := HG.out; omega))⟩
end Go.Proofs.YtnmdiageigbphaaGreatDoor
