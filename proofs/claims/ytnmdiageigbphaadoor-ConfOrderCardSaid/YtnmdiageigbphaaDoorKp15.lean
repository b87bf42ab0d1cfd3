/-
  conf: times; fixed and open where there are none; Check.
-/
import Derived.Test.YtnmdiageigbphaaDoorKp14
namespace Go.Proofs.YtnmdiageigbphaaDoor
open Go.RowKit

def timesB (c : Cf) : Bool := inR c.time 60 86400 && decide (1 ≤ c.dns.a.toNat) && decide (c.dns.a.toNat ≤ 223) && inR c.udp 10 86400 && inR c.tcp 10 86400 && inR c.icmp 10 86400 && inR c.low 1024 60000
set_option maxRecDepth 100000 in
set_option maxHeartbeats 4000000 in
theorem times_any (w : World) (c : Cf) (vf vo : Value) : Calls Tryd.prog 30 #[.agg (cfC c vf vo)] w (fun e w' => e = .returned (.bool (timesB c)) ∧ Below w.heap.size w w') := by
  have hB : timesB c = (inR c.time 60 86400 && decide (1 ≤ c.dns.a.toNat) && decide (c.dns.a.toNat ≤ 223) && inR c.udp 10 86400 && inR c.tcp 10 86400 && inR c.icmp 10 86400 && inR c.low 1024 60000) := rfl
  obtain ⟨t1, h1⟩ : ∃ b, inR c.time 60 86400 = b := ⟨_, rfl⟩
  obtain ⟨t2, h2⟩ : ∃ b, inR c.udp 10 86400 = b := ⟨_, rfl⟩
  obtain ⟨t3, h3⟩ : ∃ b, inR c.tcp 10 86400 = b := ⟨_, rfl⟩
  obtain ⟨t4, h4⟩ : ∃ b, inR c.icmp 10 86400 = b := ⟨_, rfl⟩
  obtain ⟨t5, h5⟩ : ∃ b, inR c.low 1024 60000 = b := ⟨_, rfl⟩
  rw [h1, h2, h3, h4, h5] at hB
  have E1 := Lib.hid h1
  have E2 := Lib.hid h2
  have E3 := Lib.hid h3
  have E4 := Lib.hid h4
  have E5 := Lib.hid h5
  have HB := Lib.hid hB
  clear h1 h2 h3 h4 h5 hB
  have P0 := heap_alloc_new w (.cells (cfC c vf vo) 34)
  have b0 : Below w.heap.size w (w.alloc (.cells (cfC c vf vo) 34)) := (Below.refl _ w).alloc (Nat.le_refl _) _
  go_enter Tryd.func30, Tryd.ntmps30
  go_upto_region 1 with fail
  generalize w.alloc (.cells (cfC c vf vo) 34) = w1 at P0 b0 ⊢
  have f0 := (cells_of P0).1
  clear P0
  go_wp2_with fail
  refine (within_any w1 c.time 60 86400).mono ?_
  rw [E1.out]
  rintro e w2 ⟨rfl, rfl⟩
  rcases t1 with _ | _
  · go_wp2_with fail
    go_ret
    exact ⟨by rw [HB.out]; rfl, b0⟩
  rcases Nat.lt_or_ge c.dns.a.toNat 1 with k1 | k1
  · have d1 : decide (1 ≤ (c.dns.a.toNat : Int)) = false := decide_eq_false (by omega)
    have d2 : decide (1 ≤ c.dns.a.toNat) = false := decide_eq_false (by omega)
    clear k1
    go_wp2_with fail
    go_ret
    exact ⟨by rw [HB.out, d2]; rfl, b0⟩
  have d1 : decide (1 ≤ (c.dns.a.toNat : Int)) = true := decide_eq_true (by omega)
  have d2 : decide (1 ≤ c.dns.a.toNat) = true := decide_eq_true k1
  clear k1
  rcases Nat.lt_or_ge 223 c.dns.a.toNat with k1 | k1
  · have d3 : decide ((c.dns.a.toNat : Int) ≤ 223) = false := decide_eq_false (by omega)
    have d4 : decide (c.dns.a.toNat ≤ 223) = false := decide_eq_false (by omega)
    clear k1
    go_wp2_with fail
    go_ret
    exact ⟨by rw [HB.out, d2, d4]; rfl, b0⟩
  have d3 : decide ((c.dns.a.toNat : Int) ≤ 223) = true := decide_eq_true (by omega)
  have d4 : decide (c.dns.a.toNat ≤ 223) = true := decide_eq_true k1
  clear k1
  go_wp2_with fail
  refine (flow_any w2 c.udp).mono ?_
  rw [E2.out]
  rintro e w2 ⟨rfl, rfl⟩
  rcases t2 with _ | _
  · go_wp2_with fail
    go_ret
    exact ⟨by rw [HB.out, d2, d4]; rfl, b0⟩
  go_wp2_with fail
  refine (flow_any w2 c.tcp).mono ?_
  rw [E3.out]
  rintro e w2 ⟨rfl, rfl⟩
  rcases t3 with _ | _
  · go_wp2_with fail
    go_ret
    exact ⟨by rw [HB.out, d2, d4]; rfl, b0⟩
  go_wp2_with fail
  refine (flow_any w2 c.icmp).mono ?_
  rw [E4.out]
  rintro e w2 ⟨rfl, rfl⟩
  rcases t4 with _ | _
  · go_wp2_with fail
    go_ret
    exact ⟨by rw [HB.out, d2, d4]; rfl, b0⟩
  go_wp2_with fail
  refine (within_any w2 c.low 1024 60000).mono ?_
  rw [E5.out]
  rintro e w2 ⟨rfl, rfl⟩
  go_wp2_with fail
  go_ret
  exact ⟨by rw [HB.out, d2, d4]; rfl, b0⟩
abbrev nilS : Value := .slice none 0 0
set_option maxRecDepth 100000 in
set_option maxHeartbeats 4000000 in
theorem fixed_nil (w : World) (c : Cf) (vo : Value) : Calls Tryd.prog 31 #[.agg (cfC c nilS vo)] w (fun e w' => e = .returned (.bool true) ∧ Below w.heap.size w w') := by
  have P0 : (((w.alloc (.cells (cfC c nilS vo) 34)).alloc (.map #[] 0)).alloc (.map #[] 0)).heap[w.heap.size]? = some (.cells (cfC c nilS vo) 34 (0, 0)) := heap_alloc_of (heap_alloc_of (heap_alloc_new w _))
  have b0 : Below w.heap.size w (((w.alloc (.cells (cfC c nilS vo) 34)).alloc (.map #[] 0)).alloc (.map #[] 0)) := (((Below.refl _ w).alloc (Nat.le_refl _) _).alloc (by simp) _).alloc (by simp; omega) _
  have hmm := @run_makeMap Tryd.prog
  go_enter Tryd.func31, Tryd.ntmps31
  go_upto_region 2 with fail
  generalize ((w.alloc (.cells (cfC c nilS vo) 34)).alloc (.map #[] 0)).alloc (.map #[] 0) = w1 at P0 b0 ⊢
  have f0 := (cells_of P0).1
  clear P0
  go_wp2_with fail
  go_loopw [12] (fun i wr => i = .int .i64 0 ∧ wr = w1) (fun _ _ => 0)
  case atStart => exact ⟨rfl, rfl⟩
  case round =>
    obtain ⟨rfl, rfl⟩ := hrel
    go_wp2_with fail
    go_ret
    exact ⟨rfl, b0⟩
set_option maxRecDepth 100000 in
set_option maxHeartbeats 4000000 in
theorem open_nil (w : World) (c : Cf) (vf : Value) : Calls Tryd.prog 32 #[.agg (cfC c vf nilS)] w (fun e w' => e = .returned (.bool true) ∧ Below w.heap.size w w') := by
  have P0 : ((w.alloc (.cells (cfC c vf nilS) 34)).alloc (.map #[] 0)).heap[w.heap.size]? = some (.cells (cfC c vf nilS) 34 (0, 0)) := heap_alloc_of (heap_alloc_new w _)
  have b0 : Below w.heap.size w ((w.alloc (.cells (cfC c vf nilS) 34)).alloc (.map #[] 0)) := ((Below.refl _ w).alloc (Nat.le_refl _) _).alloc (by simp) _
  have hmm := @run_makeMap Tryd.prog
  go_enter Tryd.func32, Tryd.ntmps32
  go_upto_region 2 with fail
  generalize (w.alloc (.cells (cfC c vf nilS) 34)).alloc (.map #[] 0) = w1 at P0 b0 ⊢
  have f0 := (cells_of P0).1
  clear P0
  go_wp2_with fail
  go_loopw [11] (fun i wr => i = .int .i64 0 ∧ wr = w1) (fun _ _ => 0)
  case atStart => exact ⟨rfl, rfl⟩
  case round =>
    obtain ⟨rfl, rfl⟩ := hrel
    go_wp2_with fail
    go_ret
    exact ⟨rfl, b0⟩
def checkB (c : Cf) : Bool := netB c && poolB c && timesB c
def chkE (c : Cf) : Int := if checkB c = true then 0 else 1
set_option maxRecDepth 100000 in
set_option maxHeartbeats 4000000 in
theorem check_any (w : World) (c : Cf) : Calls Tryd.prog 20 #[.agg (cfC c nilS nilS)] w (fun e w' => e = .returned (.int .i64 (chkE c)) ∧ Below w.heap.size w w') := by
  have hB : chkE c = (if (netB c && poolB c && timesB c) = true then 0 else 1) := rfl
  obtain ⟨t1, h1⟩ : ∃ b, netB c = b := ⟨_, rfl⟩
  obtain ⟨t2, h2⟩ : ∃ b, poolB c = b := ⟨_, rfl⟩
  obtain ⟨t3, h3⟩ : ∃ b, timesB c = b := ⟨_, rfl⟩
  rw [h1, h2, h3] at hB
  have E1 := Lib.hid h1
  have E2 := Lib.hid h2
  have E3 := Lib.hid h3
  have HB := Lib.hid hB
  clear h1 h2 h3 hB
  have P0 := heap_alloc_new w (.cells (cfC c nilS nilS) 34)
  have b0 : Below w.heap.size w (w.alloc (.cells (cfC c nilS nilS) 34)) := (Below.refl _ w).alloc (Nat.le_refl _) _
  go_enter Tryd.func20, Tryd.ntmps20
  go_upto_region 1 with fail
  generalize w.alloc (.cells (cfC c nilS nilS) 34) = w1 at P0 b0 ⊢
  go_wp2_with (first | ((with_reducible apply at_load_row 34); (case hx => exact rfl); (case hg => exact P0); (case hu => exact Tryd.underlying34); (case hd => rfl); (case hi => kernel_rfl)) | ((with_reducible apply at_load_guard 34); (case hx => exact rfl); (case hg => exact P0); (case hw => first | rfl | kernel_rfl); (case hu => exact Tryd.underlying34); (case hd => rfl); (case hi => kernel_rfl)))
  refine (net_any w1 c nilS nilS).mono ?_
  rw [E1.out]
  rintro e w2 ⟨rfl, q2⟩
  have P1 := below_at q2 P0 (heap_lt P0)
  have b1 := b0.trans (q2.mono b0.size)
  clear P0 b0 q2
  rcases t1 with _ | _
  · go_wp2_with fail
    go_ret
    exact ⟨by rw [HB.out]; rfl, b1⟩
  go_wp2_with (first | ((with_reducible apply at_load_row 34); (case hx => exact rfl); (case hg => exact P1); (case hu => exact Tryd.underlying34); (case hd => rfl); (case hi => kernel_rfl)) | ((with_reducible apply at_load_guard 34); (case hx => exact rfl); (case hg => exact P1); (case hw => first | rfl | kernel_rfl); (case hu => exact Tryd.underlying34); (case hd => rfl); (case hi => kernel_rfl)))
  refine (pool_any w2 c nilS nilS).mono ?_
  rw [E2.out]
  rintro e w3 ⟨rfl, q3⟩
  have P2 := below_at q3 P1 (heap_lt P1)
  have b2 := b1.trans (q3.mono b1.size)
  clear P1 b1 q3
  rcases t2 with _ | _
  · go_wp2_with fail
    go_ret
    exact ⟨by rw [HB.out]; rfl, b2⟩
  go_wp2_with (first | ((with_reducible apply at_load_row 34); (case hx => exact rfl); (case hg => exact P2); (case hu => exact Tryd.underlying34); (case hd => rfl); (case hi => kernel_rfl)) | ((with_reducible apply at_load_guard 34); (case hx => exact rfl); (case hg => exact P2); (case hw => first | rfl | kernel_rfl); (case hu => exact Tryd.underlying34); (case hd => rfl); (case hi => kernel_rfl)))
  refine (times_any w3 c nilS nilS).mono ?_
  rw [E3.out]
  rintro e w4 ⟨rfl, q4⟩
  have P3 := below_at q4 P2 (heap_lt P2)
  have b3 := b2.trans (q4.mono b2.size)
  clear P2 b2 q4
  rcases t3 with _ | _
  · go_wp2_with fail
    go_ret
    exact ⟨by rw [HB.out]; rfl, b3⟩
  go_wp2_with (first | ((with_reducible apply at_load_row 34); (case hx => exact rfl); (case hg => exact P3); (case hu => exact Tryd.underlying34); (case hd => rfl); (case hi => kernel_rfl)) | ((with_reducible apply at_load_guard 34); (case hx => exact rfl); (case hg => exact P3); (case hw => first | rfl | kernel_rfl); (case hu => exact Tryd.underlying34); (case hd => rfl); (case hi => kernel_rfl)))
  refine (fixed_nil w4 c nilS).mono ?_
  rintro e w5 ⟨rfl, q5⟩
  have P4 := below_at q5 P3 (heap_lt P3)
  have b4 := b3.trans (q5.mono b3.size)
  clear P3 b3 q5
  go_wp2_with (first | ((with_reducible apply at_load_row 34); (case hx => exact rfl); (case hg => exact P4); (case hu => exact Tryd.underlying34); (case hd => rfl); (case hi => kernel_rfl)) | ((with_reducible apply at_load_guard 34); (case hx => exact rfl); (case hg => exact P4); (case hw => first | rfl | kernel_rfl); (case hu => exact Tryd.underlying34); (case hd => rfl); (case hi => kernel_rfl)))
  refine (open_nil w5 c nilS).mono ?_
  rintro e w6 ⟨rfl, q6⟩
  have P5 := below_at q6 P4 (heap_lt P4)
  have b5 := b4.trans (q6.mono b4.size)
  clear P4 b4 q6
  go_wp2_with fail
  go_ret
  exact ⟨by rw [HB.out]; rfl, b5⟩
end Go.Proofs.YtnmdiageigbphaaDoor
