/-
  The walk of the statement AddrReads.
-/
import Derived.Test.YtabmgggmailomaaDoorAn9
import Derived.Test.YtabmgggmailomaaDoorAn11
import Derived.Test.YtabmgggmailomaaDoorCn7
namespace Go.Proofs.YtabmgggmailomaaDoor
open Go.RowKit

abbrev maC (m : Mac6) : Array Value := #[.int .u8 (m.a.toNat : Int), .int .u8 (m.b.toNat : Int), .int .u8 (m.c.toNat : Int), .int .u8 (m.d.toNat : Int), .int .u8 (m.e.toNat : Int), .int .u8 (m.f.toNat : Int)]
theorem parseMV_err (s : List UInt8) : (parseMV s).2 = 0 ∨ (parseMV s).2 = 9 := by
  unfold parseMV
  split <;> simp
set_option maxRecDepth 100000 in
theorem addrReads_long (w : World) (hp : powIs w) (s : List UInt8) (h : 200 < s.length) : Calls Tryd.prog 4 #[.string (str s)] w (TruePost w) := by
  have hss : (str s).size = s.length := rfl
  have d1 : decide (200 < (s.length : Int)) = true := decide_eq_true (by omega)
  go_enter Tryd.func4, Tryd.ntmps4
  go_wp2_with fail
  refine (awake3_any _ hp).mono ?_
  rintro e w1 ⟨rfl, q1⟩
  go_wp2_with fail
  go_ret
  exact ⟨rfl, q1⟩
set_option maxRecDepth 100000 in
set_option maxHeartbeats 8000000 in
theorem addrReads_in (w : World) (hp : powIs w) (s : List UInt8) (h : s.length ≤ 200) : Calls Tryd.prog 4 #[.string (str s)] w (TruePost w) := by
  have hss : (str s).size = s.length := rfl
  have d1 : decide (200 < (s.length : Int)) = false := decide_eq_false (by omega)
  have HE := Lib.hid (parseV_err s)
  have HM := Lib.hid (parseMV_err s)
  have hl : s.length ≤ 1099511627776 := by omega
  obtain ⟨⟨a, e1⟩, hA⟩ : ∃ v, parseV s = v := ⟨_, rfl⟩
  obtain ⟨⟨⟨na, nb⟩, e2⟩, hN⟩ : ∃ v, parseNV s = v := ⟨_, rfl⟩
  obtain ⟨⟨m, e3⟩, hM⟩ : ∃ v, parseMV s = v := ⟨_, rfl⟩
  rw [hA] at HE
  rw [hM] at HM
  have HA := Lib.hid hA; have HN := Lib.hid hN; have HMM := Lib.hid hM
  clear hA hN hM
  go_enter Tryd.func4, Tryd.ntmps4
  go_wp2_with fail
  refine (awake3_any _ hp).mono ?_
  rintro e w1 ⟨rfl, b1⟩
  clear hp h
  go_wp2_with fail
  refine (parse_any w1 s hl).mono ?_
  unfold ParsePost
  rw [HA.out]
  rintro e w2 ⟨rfl, q2⟩
  have b2 := b1.trans (q2.mono b1.size)
  clear b1 q2
  go_upto_region 6 with ((with_reducible apply at_store_new 24); (case hx => exact rfl); (case hy => exact rfl); (case hg => first | rfl | simp); (case hi => kernel_rfl); (case hold => rfl); (case h1 => kernel_rfl))
  have q3 : Below w2.heap.size w2 (w2.alloc (.cells (adC a) 24)) := (Below.refl _ w2).alloc (Nat.le_refl _) _
  have A3 := heap_alloc_new w2 (.cells (adC a) 24)
  have b3 := b2.trans (q3.mono b2.size)
  obtain ⟨g1, hg1⟩ : ∃ g, w2.heap.size = g := ⟨_, rfl⟩
  rw [hg1] at A3 ⊢
  generalize w2.alloc (.cells (adC a) 24) = w3 at A3 b3 ⊢
  clear hg1 b2 q3
  go_wp2_with fail
  refine (rParse_any w3 s hl).mono ?_
  unfold RPPost
  rw [HA.out]
  rintro e w4 ⟨rfl, q4⟩
  have A4 := below_at q4 A3 (heap_lt A3)
  have b4 := b3.trans (q4.mono b3.size)
  clear A3 b3 q4
  go_upto_region 7 with ((with_reducible apply at_store_new 24); (case hx => exact rfl); (case hy => exact rfl); (case hg => first | rfl | simp); (case hi => kernel_rfl); (case hold => rfl); (case h1 => kernel_rfl))
  have q5 : Below w4.heap.size w4 (w4.alloc (.cells (adC a) 24)) := (Below.refl _ w4).alloc (Nat.le_refl _) _
  have A5 := below_at q5 A4 (heap_lt A4)
  have B5 := heap_alloc_new w4 (.cells (adC a) 24)
  have b5 := b4.trans (q5.mono b4.size)
  obtain ⟨g2, hg2⟩ : ∃ g, w4.heap.size = g := ⟨_, rfl⟩
  rw [hg2] at B5 ⊢
  generalize w4.alloc (.cells (adC a) 24) = w5 at A5 B5 b5 ⊢
  clear hg2 b4 q5 A4
  go_wp2_with fail
  refine (parseNet_any w5 s hl).mono ?_
  unfold ParseNPost
  rw [HN.out]
  rintro e w6 ⟨rfl, q6⟩
  have A6 := below_at q6 A5 (heap_lt A5)
  have B6 := below_at q6 B5 (heap_lt B5)
  have b6 := b5.trans (q6.mono b5.size)
  clear A5 B5 b5 q6
  go_upto_region 8 with ((with_reducible apply at_store_new 29); (case hx => exact rfl); (case hy => exact rfl); (case hg => first | rfl | simp); (case hi => kernel_rfl); (case hold => rfl); (case h1 => kernel_rfl))
  have q7 : Below w6.heap.size w6 (w6.alloc (.cells (netC na nb) 29)) := (Below.refl _ w6).alloc (Nat.le_refl _) _
  have A7 := below_at q7 A6 (heap_lt A6)
  have B7 := below_at q7 B6 (heap_lt B6)
  have C7 := heap_alloc_new w6 (.cells (netC na nb) 29)
  have b7 := b6.trans (q7.mono b6.size)
  obtain ⟨g3, hg3⟩ : ∃ g, w6.heap.size = g := ⟨_, rfl⟩
  rw [hg3] at C7 ⊢
  generalize w6.alloc (.cells (netC na nb) 29) = w7 at A7 B7 C7 b7 ⊢
  clear hg3 b6 q7 A6 B6
  go_wp2_with fail
  refine (rParseNet_any w7 s hl).mono ?_
  unfold ParseNPost
  rw [HN.out]
  rintro e w8 ⟨rfl, q8⟩
  have A8 := below_at q8 A7 (heap_lt A7)
  have B8 := below_at q8 B7 (heap_lt B7)
  have C8 := below_at q8 C7 (heap_lt C7)
  have b8 := b7.trans (q8.mono b7.size)
  clear A7 B7 C7 b7 q8
  go_upto_region 9 with ((with_reducible apply at_store_new 41); (case hx => exact rfl); (case hy => exact rfl); (case hg => first | rfl | simp); (case hi => kernel_rfl); (case hold => rfl); (case h1 => kernel_rfl))
  have q9 : Below w8.heap.size w8 (w8.alloc (.cells (netC na nb) 41)) := (Below.refl _ w8).alloc (Nat.le_refl _) _
  have A9 := below_at q9 A8 (heap_lt A8)
  have B9 := below_at q9 B8 (heap_lt B8)
  have C9 := below_at q9 C8 (heap_lt C8)
  have D9 := heap_alloc_new w8 (.cells (netC na nb) 41)
  have b9 := b8.trans (q9.mono b8.size)
  obtain ⟨g4, hg4⟩ : ∃ g, w8.heap.size = g := ⟨_, rfl⟩
  rw [hg4] at D9 ⊢
  generalize w8.alloc (.cells (netC na nb) 41) = w9 at A9 B9 C9 D9 b9 ⊢
  clear hg4 b8 q9 A8 B8 C8
  go_wp2_with fail
  refine (parseMac_any w9 s hl).mono ?_
  unfold ParseMPost
  rw [HMM.out]
  rintro e wa ⟨rfl, qa⟩
  have Aa := below_at qa A9 (heap_lt A9)
  have Ba := below_at qa B9 (heap_lt B9)
  have Ca := below_at qa C9 (heap_lt C9)
  have Da := below_at qa D9 (heap_lt D9)
  have ba := b9.trans (qa.mono b9.size)
  clear A9 B9 C9 D9 b9 qa
  go_upto_region 10 with ((with_reducible apply at_store_new 33); (case hx => exact rfl); (case hy => exact rfl); (case hg => first | rfl | simp); (case hi => kernel_rfl); (case hold => rfl); (case h1 => kernel_rfl))
  have qb : Below wa.heap.size wa (wa.alloc (.cells (maC m) 33)) := (Below.refl _ wa).alloc (Nat.le_refl _) _
  have Ab := below_at qb Aa (heap_lt Aa)
  have Bb := below_at qb Ba (heap_lt Ba)
  have Cb := below_at qb Ca (heap_lt Ca)
  have Db := below_at qb Da (heap_lt Da)
  have Eb := heap_alloc_new wa (.cells (maC m) 33)
  have bb := ba.trans (qb.mono ba.size)
  obtain ⟨g5, hg5⟩ : ∃ g, wa.heap.size = g := ⟨_, rfl⟩
  rw [hg5] at Eb ⊢
  generalize wa.alloc (.cells (maC m) 33) = wb at Ab Bb Cb Db Eb bb ⊢
  clear hg5 ba qb Aa Ba Ca Da
  go_wp2_with fail
  refine (rParseMac_any wb s hl).mono ?_
  unfold RPMPost
  rw [HMM.out]
  rintro e wc ⟨rfl, qc⟩
  have Ac := below_at qc Ab (heap_lt Ab)
  have Bc := below_at qc Bb (heap_lt Bb)
  have Cc := below_at qc Cb (heap_lt Cb)
  have Dc := below_at qc Db (heap_lt Db)
  have Ec := below_at qc Eb (heap_lt Eb)
  have bc := bb.trans (qc.mono bb.size)
  clear Ab Bb Cb Db Eb bb qc
  go_upto_region 11 with ((with_reducible apply at_store_new 33); (case hx => exact rfl); (case hy => exact rfl); (case hg => first | rfl | simp); (case hi => kernel_rfl); (case hold => rfl); (case h1 => kernel_rfl))
  have qd : Below wc.heap.size wc (wc.alloc (.cells (maC m) 33)) := (Below.refl _ wc).alloc (Nat.le_refl _) _
  have Ad := below_at qd Ac (heap_lt Ac)
  have Bd := below_at qd Bc (heap_lt Bc)
  have Cd := below_at qd Cc (heap_lt Cc)
  have Dd := below_at qd Dc (heap_lt Dc)
  have Ed := below_at qd Ec (heap_lt Ec)
  have Fd := heap_alloc_new wc (.cells (maC m) 33)
  have bd := bc.trans (qd.mono bc.size)
  obtain ⟨g6, hg6⟩ : ∃ g, wc.heap.size = g := ⟨_, rfl⟩
  rw [hg6] at Fd ⊢
  generalize wc.alloc (.cells (maC m) 33) = wd at Ad Bd Cd Dd Ed Fd bd ⊢
  clear hg6 bc qd Ac Bc Cc Dc Ec
  have r1 : ∀ w, (binOp .eql 24 (.agg (adC a)) (.agg (adC a))).run Tryd.prog w = .ok (.bool true) w := fun w => by rw [run_eql_ad w a a, adeq_self]
  have r2 : ∀ w, (binOp .eql 24 (.agg (adC na)) (.agg (adC na))).run Tryd.prog w = .ok (.bool true) w := fun w => by rw [run_eql_ad w na na, adeq_self]
  have r3 : ∀ w, (binOp .eql 33 (.agg (maC m)) (.agg (maC m))).run Tryd.prog w = .ok (.bool true) w := fun w => by rw [show Value.agg (maC m) = macV m from rfl, run_eql_mac w m m, (meq_iff m m).2 rfl]
  have c0 := (cells_of Cd).1 0; have c1 := (cells_of Cd).1 1; have c2 := (cells_of Cd).1 2; have c3 := (cells_of Cd).1 3; have c4 := (cells_of Cd).1 4
  have k0 := (cells_of Dd).1 0; have k1 := (cells_of Dd).1 1; have k2 := (cells_of Dd).1 2; have k3 := (cells_of Dd).1 3; have k4 := (cells_of Dd).1 4
  have y1 : ((nb : Int) == (nb : Int)) = true := beq_self_eq_true _
  have y2 : (e2 == e2) = true := beq_self_eq_true _
  have he := HE.out
  have hm := HM.out
  rcases he with rfl | rfl <;> rcases hm with rfl | rfl
  all_goals
    go_wp2_with (first
      | ((with_reducible apply at_load_guard 24); (case hx => exact rfl); (case hg => exact Ad); (case hw => first | rfl | kernel_rfl); (case hu => exact Tryd.underlying24); (case hd => rfl); (case hi => kernel_rfl))
      | ((with_reducible apply at_load_row 24); (case hx => exact rfl); (case hg => exact Ad); (case hu => exact Tryd.underlying24); (case hd => rfl); (case hi => kernel_rfl))
      | ((with_reducible apply at_load_guard 24); (case hx => exact rfl); (case hg => exact Bd); (case hw => first | rfl | kernel_rfl); (case hu => exact Tryd.underlying24); (case hd => rfl); (case hi => kernel_rfl))
      | ((with_reducible apply at_load_row 24); (case hx => exact rfl); (case hg => exact Bd); (case hu => exact Tryd.underlying24); (case hd => rfl); (case hi => kernel_rfl))
      | ((with_reducible apply at_load_guard 33); (case hx => exact rfl); (case hg => exact Ed); (case hw => first | rfl | kernel_rfl); (case hu => exact Tryd.underlying33); (case hd => rfl); (case hi => kernel_rfl))
      | ((with_reducible apply at_load_guard 33); (case hx => exact rfl); (case hg => exact Fd); (case hw => first | rfl | kernel_rfl); (case hu => exact Tryd.underlying33); (case hd => rfl); (case hi => kernel_rfl)))
    go_ret
    exact ⟨rfl, bd⟩
theorem addrReads_all (w : World) (hp : powIs w) (b : ByteArray) (_ : b.size ≤ maxLen) : Calls Tryd.prog 4 #[.string b] w (TruePost w) := by
  have e : b = str b.data.toList := by simp [str]
  rw [e]
  rcases Nat.lt_or_ge 200 b.data.toList.length with h | h
  · exact addrReads_long w hp _ h
  · exact addrReads_in w hp _ h
end Go.Proofs.YtabmgggmailomaaDoor
