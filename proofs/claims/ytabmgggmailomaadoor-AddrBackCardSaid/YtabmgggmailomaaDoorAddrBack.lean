/-
  The walk of the statement AddrBack.
-/
import Derived.Test.YtabmgggmailomaaDoorAn9
import Derived.Test.YtabmgggmailomaaDoorAn11
namespace Go.Proofs.YtabmgggmailomaaDoor
open Go.RowKit

set_option maxRecDepth 100000 in
theorem addrBack_out (w : World) (hp : powIs w) (a : Ad4) (b : Int) (m : Mac6) (h : b < 0 ∨ 32 < b) : Calls Tryd.prog 5 #[adV a, .int .i64 b, macV m] w (TruePost w) := by
  have b0 : Below w.heap.size w ((w.alloc (.cells (adC a) 24)).alloc (.cells #[.int .u8 (m.a.toNat : Int), .int .u8 (m.b.toNat : Int), .int .u8 (m.c.toNat : Int), .int .u8 (m.d.toNat : Int), .int .u8 (m.e.toNat : Int), .int .u8 (m.f.toNat : Int)] 33)) := ((Below.refl _ w).alloc (Nat.le_refl _) _).alloc (by simp) _
  rcases Int.lt_or_le b 0 with k1 | k1
  case' inl =>
    have d1 : decide (b < 0) = true := decide_eq_true k1
  case' inr =>
    have d1 : decide (b < 0) = false := decide_eq_false (by omega)
    have d2 : decide (32 < b) = true := decide_eq_true (by omega)
  all_goals
    go_enter Tryd.func5, Tryd.ntmps5
    go_wp2_with fail
    refine (awake3_any _ (hp.below b0)).mono ?_
    rintro e w1 ⟨rfl, q1⟩
    go_wp2_with fail
    go_ret
    exact ⟨rfl, b0.trans (q1.mono b0.size)⟩

abbrev maC (m : Mac6) : Array Value := #[.int .u8 (m.a.toNat : Int), .int .u8 (m.b.toNat : Int), .int .u8 (m.c.toNat : Int), .int .u8 (m.d.toNat : Int), .int .u8 (m.e.toNat : Int), .int .u8 (m.f.toNat : Int)]
set_option maxRecDepth 100000 in
set_option maxHeartbeats 8000000 in
theorem addrBack_in (w : World) (hp : powIs w) (a : Ad4) (b : Nat) (m : Mac6) (hb : b ≤ 32) : Calls Tryd.prog 5 #[adV a, .int .i64 b, macV m] w (TruePost w) := by
  have d1 : decide ((b : Int) < 0) = false := decide_eq_false (by omega)
  have d2 : decide (32 < (b : Int)) = false := decide_eq_false (by omega)
  have hpt := parse_text a
  have hpn := parse_textN a b hb
  have hpm := parse_textM m
  have lt := textA_le a
  have ln : (textN (firstA a b) b).length ≤ 200 := by
    have h1 := textA_le (firstA a b); have h2 := decB_le b
    simp [textN]
    omega
  have lm := textM_le m
  obtain ⟨F, eF⟩ : ∃ v, firstA a b = v := ⟨_, rfl⟩
  rw [eF] at hpn ln
  obtain ⟨T, eT⟩ : ∃ v, textA a = v := ⟨_, rfl⟩
  rw [eT] at hpt lt
  obtain ⟨U, eU⟩ : ∃ v, textN F b = v := ⟨_, rfl⟩
  rw [eU] at hpn ln
  obtain ⟨V, eV⟩ : ∃ v, textM m = v := ⟨_, rfl⟩
  rw [eV] at hpm lm
  have EF := Lib.hid (show of4 ((firstN (numA a) (behN b) : Nat) : Int) = F from eF)
  have ET := Lib.hid eT; have EU := Lib.hid eU; have EV := Lib.hid eV; have HT := Lib.hid hpt; have HN := Lib.hid hpn; have HM := Lib.hid hpm
  have HP := Lib.hid hp
  clear eF eT eU eV hpt hpn hpm hp
  have P0 : ((w.alloc (.cells (adC a) 24)).alloc (.cells (maC m) 33)).heap[w.heap.size]? = some (.cells (adC a) 24 (0, 0)) := heap_alloc_of (heap_alloc_new w _)
  have M0 : ((w.alloc (.cells (adC a) 24)).alloc (.cells (maC m) 33)).heap[w.heap.size + 1]? = some (.cells (maC m) 33 (0, 0)) := heap_alloc_at (by simp)
  have b0 : Below w.heap.size w ((w.alloc (.cells (adC a) 24)).alloc (.cells (maC m) 33)) := ((Below.refl _ w).alloc (Nat.le_refl _) _).alloc (by simp) _
  go_enter Tryd.func5, Tryd.ntmps5
  go_upto_region 1 with fail
  generalize (w.alloc (.cells (adC a) 24)).alloc (.cells (maC m) 33) = w0 at P0 M0 b0 ⊢
  obtain ⟨g, hg⟩ : ∃ g, w.heap.size = g := ⟨_, rfl⟩
  rw [hg] at P0 M0 ⊢
  have HG := Lib.hid hg
  clear hg
  go_wp2_with fail
  refine (awake3_any w0 (HP.out.below b0)).mono ?_
  rintro e w1 ⟨rfl, q1⟩
  have P1 := below_at q1 P0 (heap_lt P0)
  have M1 := below_at q1 M0 (heap_lt M0)
  have b1 := b0.trans (q1.mono b0.size)
  clear P0 M0 b0 q1
  go_wp2_with ((with_reducible apply at_load_row 24); (case hx => exact rfl); (case hg => exact P1); (case hu => exact Tryd.underlying24); (case hd => rfl); (case hi => kernel_rfl))
  refine (first_any w1 a b).mono ?_
  rw [EF.out]
  rintro e w2 ⟨rfl, q2⟩
  have P2 := below_at q2 P1 (heap_lt P1)
  have M2 := below_at q2 M1 (heap_lt M1)
  have b2 := b1.trans (q2.mono b1.size)
  clear P1 M1 b1 q2
  go_upto_region 6 with ((with_reducible apply at_store_new 29); (case hx => exact rfl); (case hy => exact rfl); (case hg => first | rfl | simp); (case hi => kernel_rfl); (case hold => rfl); (case h1 => kernel_rfl))
  have q3 : Below w2.heap.size w2 (w2.alloc (.cells (netC F b) 29)) := (Below.refl _ w2).alloc (Nat.le_refl _) _
  have P3 := below_at q3 P2 (heap_lt P2)
  have M3 := below_at q3 M2 (heap_lt M2)
  have N3 := heap_alloc_new w2 (.cells (netC F b) 29)
  have b3 := b2.trans (q3.mono b2.size)
  obtain ⟨gn, hgn⟩ : ∃ gn, w2.heap.size = gn := ⟨_, rfl⟩
  rw [hgn] at N3 ⊢
  generalize w2.alloc (.cells (netC F b) 29) = w3 at P3 M3 N3 b3 ⊢
  clear hgn q3 b2 P2 M2
  go_wp2_with ((with_reducible apply at_load_row 24); (case hx => exact rfl); (case hg => exact P3); (case hu => exact Tryd.underlying24); (case hd => rfl); (case hi => kernel_rfl))
  refine (text_any w3 (HP.out.below b3) a).mono ?_
  rw [ET.out]
  rintro e w4 ⟨rfl, q4⟩
  have P4 := below_at q4 P3 (heap_lt P3)
  have M4 := below_at q4 M3 (heap_lt M3)
  have N4 := below_at q4 N3 (heap_lt N3)
  have b4 := b3.trans (q4.mono b3.size)
  clear q4 b3 P3 M3 N3
  go_wp2_with fail
  refine (parse_any w4 T (by omega)).mono ?_
  unfold ParsePost
  rw [HT.out]
  rintro e w5 ⟨rfl, q5⟩
  have P5 := below_at q5 P4 (heap_lt P4)
  have M5 := below_at q5 M4 (heap_lt M4)
  have N5 := below_at q5 N4 (heap_lt N4)
  have b5 := b4.trans (q5.mono b4.size)
  clear q5 b4 P4 M4 N4
  go_upto_region 7 with ((with_reducible apply at_store_new 24); (case hx => exact rfl); (case hy => exact rfl); (case hg => first | rfl | simp); (case hi => kernel_rfl); (case hold => rfl); (case h1 => kernel_rfl))
  have q6 : Below w5.heap.size w5 (w5.alloc (.cells (adC a) 24)) := (Below.refl _ w5).alloc (Nat.le_refl _) _
  have P6 := below_at q6 P5 (heap_lt P5)
  have M6 := below_at q6 M5 (heap_lt M5)
  have N6 := below_at q6 N5 (heap_lt N5)
  have X6 := heap_alloc_new w5 (.cells (adC a) 24)
  have b6 := b5.trans (q6.mono b5.size)
  obtain ⟨gx, hgx⟩ : ∃ gx, w5.heap.size = gx := ⟨_, rfl⟩
  rw [hgx] at X6 ⊢
  generalize w5.alloc (.cells (adC a) 24) = w6 at P6 M6 N6 X6 b6 ⊢
  clear hgx q6 b5 P5 M5 N5
  go_wp2_with ((with_reducible apply at_load_row 29); (case hx => exact rfl); (case hg => exact N6); (case hu => exact Tryd.underlying29); (case hd => rfl); (case hi => kernel_rfl))
  refine (netText_any w6 (HP.out.below b6) F b (by omega)).mono ?_
  rw [EU.out]
  rintro e w7 ⟨rfl, q7⟩
  have P7 := below_at q7 P6 (heap_lt P6)
  have M7 := below_at q7 M6 (heap_lt M6)
  have N7 := below_at q7 N6 (heap_lt N6)
  have X7 := below_at q7 X6 (heap_lt X6)
  have b7 := b6.trans (q7.mono b6.size)
  clear q7 b6 P6 M6 N6 X6
  go_wp2_with fail
  refine (parseNet_any w7 U (by omega)).mono ?_
  unfold ParseNPost
  rw [HN.out]
  rintro e w8 ⟨rfl, q8⟩
  have P8 := below_at q8 P7 (heap_lt P7)
  have M8 := below_at q8 M7 (heap_lt M7)
  have N8 := below_at q8 N7 (heap_lt N7)
  have X8 := below_at q8 X7 (heap_lt X7)
  have b8 := b7.trans (q8.mono b7.size)
  clear q8 b7 P7 M7 N7 X7
  go_upto_region 8 with ((with_reducible apply at_store_new 29); (case hx => exact rfl); (case hy => exact rfl); (case hg => first | rfl | simp); (case hi => kernel_rfl); (case hold => rfl); (case h1 => kernel_rfl))
  have q9 : Below w8.heap.size w8 (w8.alloc (.cells (netC F b) 29)) := (Below.refl _ w8).alloc (Nat.le_refl _) _
  have P9 := below_at q9 P8 (heap_lt P8)
  have M9 := below_at q9 M8 (heap_lt M8)
  have N9 := below_at q9 N8 (heap_lt N8)
  have X9 := below_at q9 X8 (heap_lt X8)
  have Y9 := heap_alloc_new w8 (.cells (netC F b) 29)
  have b9 := b8.trans (q9.mono b8.size)
  obtain ⟨gy, hgy⟩ : ∃ gy, w8.heap.size = gy := ⟨_, rfl⟩
  rw [hgy] at Y9 ⊢
  generalize w8.alloc (.cells (netC F b) 29) = w9 at P9 M9 N9 X9 Y9 b9 ⊢
  clear hgy q9 b8 P8 M8 N8 X8
  go_wp2_with ((with_reducible apply at_load_row 33); (case hx => exact rfl); (case hg => exact M9); (case hu => exact Tryd.underlying33); (case hd => rfl); (case hi => kernel_rfl))
  refine (macText_any w9 m).mono ?_
  rw [EV.out]
  rintro e wa ⟨rfl, qa⟩
  have Pa := below_at qa P9 (heap_lt P9)
  have Ma := below_at qa M9 (heap_lt M9)
  have Na := below_at qa N9 (heap_lt N9)
  have Xa := below_at qa X9 (heap_lt X9)
  have Ya := below_at qa Y9 (heap_lt Y9)
  have ba := b9.trans (qa.mono b9.size)
  clear qa b9 P9 M9 N9 X9 Y9
  go_wp2_with fail
  refine (parseMac_any wa V (by omega)).mono ?_
  unfold ParseMPost
  rw [HM.out]
  rintro e wb ⟨rfl, qb⟩
  have Pb := below_at qb Pa (heap_lt Pa)
  have Mb := below_at qb Ma (heap_lt Ma)
  have Nb := below_at qb Na (heap_lt Na)
  have Xb := below_at qb Xa (heap_lt Xa)
  have Yb := below_at qb Ya (heap_lt Ya)
  have bb := ba.trans (qb.mono ba.size)
  clear qb ba Pa Ma Na Xa Ya
  go_upto_region 9 with ((with_reducible apply at_store_new 33); (case hx => exact rfl); (case hy => exact rfl); (case hg => first | rfl | simp); (case hi => kernel_rfl); (case hold => rfl); (case h1 => kernel_rfl))
  have qc : Below wb.heap.size wb (wb.alloc (.cells (maC m) 33)) := (Below.refl _ wb).alloc (Nat.le_refl _) _
  have Pc := below_at qc Pb (heap_lt Pb)
  have Mc := below_at qc Mb (heap_lt Mb)
  have Nc := below_at qc Nb (heap_lt Nb)
  have Xc := below_at qc Xb (heap_lt Xb)
  have Yc := below_at qc Yb (heap_lt Yb)
  have Zc := heap_alloc_new wb (.cells (maC m) 33)
  have bc := bb.trans (qc.mono bb.size)
  obtain ⟨gz, hgz⟩ : ∃ gz, wb.heap.size = gz := ⟨_, rfl⟩
  rw [hgz] at Zc ⊢
  generalize wb.alloc (.cells (maC m) 33) = wc at Pc Mc Nc Xc Yc Zc bc ⊢
  clear hgz qc bb Pb Mb Nb Xb Yb
  have e1 : ∀ w, (binOp .eql 24 (.agg (adC a)) (.agg (adC a))).run Tryd.prog w = .ok (.bool true) w := fun w => by rw [run_eql_ad w a a, adeq_self]
  have e2 := fun w => run_eql_net w F b
  have e3 : ∀ w, (binOp .eql 33 (.agg (maC m)) (.agg (maC m))).run Tryd.prog w = .ok (.bool true) w := fun w => by rw [show Value.agg (maC m) = macV m from rfl, run_eql_mac w m m, (meq_iff m m).2 rfl]
  go_wp2_with (first
    | ((with_reducible apply at_load_guard 24); (case hx => exact rfl); (case hg => exact Xc); (case hw => first | rfl | kernel_rfl); (case hu => exact Tryd.underlying24); (case hd => rfl); (case hi => kernel_rfl))
    | ((with_reducible apply at_load_guard 24); (case hx => exact rfl); (case hg => exact Pc); (case hw => first | rfl | kernel_rfl); (case hu => exact Tryd.underlying24); (case hd => rfl); (case hi => kernel_rfl))
    | ((with_reducible apply at_load_guard 29); (case hx => exact rfl); (case hg => exact Yc); (case hw => first | rfl | kernel_rfl); (case hu => exact Tryd.underlying29); (case hd => rfl); (case hi => kernel_rfl))
    | ((with_reducible apply at_load_guard 29); (case hx => exact rfl); (case hg => exact Nc); (case hw => first | rfl | kernel_rfl); (case hu => exact Tryd.underlying29); (case hd => rfl); (case hi => kernel_rfl))
    | ((with_reducible apply at_load_guard 33); (case hx => exact rfl); (case hg => exact Zc); (case hw => first | rfl | kernel_rfl); (case hu => exact Tryd.underlying33); (case hd => rfl); (case hi => kernel_rfl))
    | ((with_reducible apply at_load_guard 33); (case hx => exact rfl); (case hg => exact Mc); (case hw => first | rfl | kernel_rfl); (case hu => exact Tryd.underlying33); (case hd => rfl); (case hi => kernel_rfl)))
  go_ret
  exact ⟨rfl, bc⟩
theorem addrBack_all (w : World) (hp : powIs w) (a : Ad4) (_ : True) (b : Int) (_ : (Lit.int .i64 b).wf = true) (m : Mac6) (_ : True) : Calls Tryd.prog 5 #[adV a, .int .i64 b, macV m] w (TruePost w) := by
  by_cases h : b < 0 ∨ 32 < b
  · exact addrBack_out w hp a b m h
  · obtain ⟨n, rfl⟩ := Int.eq_ofNat_of_zero_le (show 0 ≤ b by omega)
    exact addrBack_in w hp a n m (by omega)
end Go.Proofs.YtabmgggmailomaaDoor
