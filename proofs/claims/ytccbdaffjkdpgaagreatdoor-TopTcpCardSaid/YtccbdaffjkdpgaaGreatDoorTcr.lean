/-
  gatehousetop.TopTcp: its run from behind the first question on: true is given back.
-/
import Derived.Test.YtccbdaffjkdpgaaGreatDoorTpa
import Derived.Test.YtccbdaffjkdpgaaGreatDoorTpb
import Derived.Test.YtccbdaffjkdpgaaGreatDoorTpc
import Derived.Test.YtccbdaffjkdpgaaGreatDoorTpd
import Derived.Test.YtccbdaffjkdpgaaGreatDoorTpe
import Derived.Test.YtccbdaffjkdpgaaGreatDoorTpf
namespace Go.Proofs.YtccbdaffjkdpgaaGreatDoor.Vw
open LB
set_option maxHeartbeats 16000000
theorem tc_run0 [Val] {k : Nat} (hk : k ≤ 100) (hT : ∀ w, TB0.has w → RowOk w) (hI : ∀ i, i < k → RowOk ⟨211, i, 18446744073709551618, .bool true⟩) (hO : RowOk ⟨211, k, 18446744073709551618, .bool false⟩)
    {a : Act} {w0 w : World} {R : Ending → World → Prop} (st : TopSt Tryz.prog tcLive 157 w0 (ofL tS0) (heapOf []) ([] : List LB).length a w) (hR : ∀ w', RowKit.Below w0.heap.size w0 w' → R (.returned (.bool true)) w') : tcC.wp Tryz.prog (bodyPost Tryz.prog tcFn R) a w := by
  have hs := tc_shape
  simp only [Bool.and_eq_true] at hs
  obtain ⟨⟨⟨⟨⟨⟨s1, s0⟩, s2⟩, s3⟩, s4⟩, s5⟩, s6⟩ := hs
  have hE := hEE0 hT
  refine hE.parts rfl st s1 p0_u fun a w st => ?_
  refine hE.parts (c := tcU) rfl st s0 p0_a fun a w st => ?_
  refine go_seq (c := tcD) s2 (go_seq s3 (hE.piece rfl st p0_b fun a w st => ?_))
  refine go_blk s4 (go_loop s5 ?_)
  refine Top.count hE s6 (hEO hO) (fun i hi => hEI (hI i hi)) (fun _ => sl0) (fun _ => rfl) (fun _ => rfl) (fun i hi => allB_at p0_h i (Nat.zero_le _) (by omega)) (fun i hi => ?_) (allB_at p0_x k (Nat.zero_le _) (by omega)) (fun a w st => ?_) k 0 (Nat.zero_add k) st
  · rcases Nat.lt_or_ge i 50 with h | h
    · exact allB_at p0_l0 i (Nat.zero_le _) (by omega)
    · exact allB_at p0_l1 i h (by omega)
  · exact hE.ends rfl st (allB_at p0_e k (Nat.zero_le _) (by omega)) (oneTmp_eq tc_res) rfl hR
theorem tc_run1 [Val] {k : Nat} (hk : k ≤ 100) (hT : ∀ w, TB1.has w → RowOk w) (hI : ∀ i, i < k → RowOk ⟨211, i, 18446744073709551618, .bool true⟩) (hO : RowOk ⟨211, k, 18446744073709551618, .bool false⟩)
    {a : Act} {w0 w : World} {R : Ending → World → Prop} (st : TopSt Tryz.prog tcLive 157 w0 (ofL tS1) (heapOf []) ([] : List LB).length a w) (hR : ∀ w', RowKit.Below w0.heap.size w0 w' → R (.returned (.bool true)) w') : tcC.wp Tryz.prog (bodyPost Tryz.prog tcFn R) a w := by
  have hs := tc_shape
  simp only [Bool.and_eq_true] at hs
  obtain ⟨⟨⟨⟨⟨⟨s1, s0⟩, s2⟩, s3⟩, s4⟩, s5⟩, s6⟩ := hs
  have hE := hEE1 hT
  refine hE.parts rfl st s1 p1_u fun a w st => ?_
  refine hE.parts (c := tcU) rfl st s0 p1_a fun a w st => ?_
  refine go_seq (c := tcD) s2 (go_seq s3 (hE.piece rfl st p1_b fun a w st => ?_))
  refine go_blk s4 (go_loop s5 ?_)
  refine Top.count hE s6 (hEO hO) (fun i hi => hEI (hI i hi)) (fun _ => sl1) (fun _ => rfl) (fun _ => rfl) (fun i hi => allB_at p1_h i (Nat.zero_le _) (by omega)) (fun i hi => ?_) (allB_at p1_x k (Nat.zero_le _) (by omega)) (fun a w st => ?_) k 0 (Nat.zero_add k) st
  · rcases Nat.lt_or_ge i 50 with h | h
    · exact allB_at p1_l0 i (Nat.zero_le _) (by omega)
    · exact allB_at p1_l1 i h (by omega)
  · exact hE.ends rfl st (allB_at p1_e k (Nat.zero_le _) (by omega)) (oneTmp_eq tc_res) rfl hR
theorem tc_run2 [Val] {k : Nat} (hk : k ≤ 100) (hT : ∀ w, TB2.has w → RowOk w) (hI : ∀ i, i < k → RowOk ⟨211, i, 18446744073709551618, .bool true⟩) (hO : RowOk ⟨211, k, 18446744073709551618, .bool false⟩)
    {a : Act} {w0 w : World} {R : Ending → World → Prop} (st : TopSt Tryz.prog tcLive 157 w0 (ofL tS2) (heapOf []) ([] : List LB).length a w) (hR : ∀ w', RowKit.Below w0.heap.size w0 w' → R (.returned (.bool true)) w') : tcC.wp Tryz.prog (bodyPost Tryz.prog tcFn R) a w := by
  have hs := tc_shape
  simp only [Bool.and_eq_true] at hs
  obtain ⟨⟨⟨⟨⟨⟨s1, s0⟩, s2⟩, s3⟩, s4⟩, s5⟩, s6⟩ := hs
  have hE := hEE2 hT
  refine hE.parts rfl st s1 p2_u fun a w st => ?_
  refine hE.parts (c := tcU) rfl st s0 p2_a fun a w st => ?_
  refine go_seq (c := tcD) s2 (go_seq s3 (hE.piece rfl st p2_b fun a w st => ?_))
  refine go_blk s4 (go_loop s5 ?_)
  refine Top.count hE s6 (hEO hO) (fun i hi => hEI (hI i hi)) (fun _ => sl2) (fun _ => rfl) (fun _ => rfl) (fun i hi => allB_at p2_h i (Nat.zero_le _) (by omega)) (fun i hi => ?_) (allB_at p2_x k (Nat.zero_le _) (by omega)) (fun a w st => ?_) k 0 (Nat.zero_add k) st
  · rcases Nat.lt_or_ge i 50 with h | h
    · exact allB_at p2_l0 i (Nat.zero_le _) (by omega)
    · exact allB_at p2_l1 i h (by omega)
  · exact hE.ends rfl st (allB_at p2_e k (Nat.zero_le _) (by omega)) (oneTmp_eq tc_res) rfl hR
theorem tc_run3 [Val] {k : Nat} (hk : k ≤ 100) (hT : ∀ w, TB3.has w → RowOk w) (hI : ∀ i, i < k → RowOk ⟨211, i, 18446744073709551618, .bool true⟩) (hO : RowOk ⟨211, k, 18446744073709551618, .bool false⟩)
    {a : Act} {w0 w : World} {R : Ending → World → Prop} (st : TopSt Tryz.prog tcLive 157 w0 (ofL tS3) (heapOf []) ([] : List LB).length a w) (hR : ∀ w', RowKit.Below w0.heap.size w0 w' → R (.returned (.bool true)) w') : tcC.wp Tryz.prog (bodyPost Tryz.prog tcFn R) a w := by
  have hs := tc_shape
  simp only [Bool.and_eq_true] at hs
  obtain ⟨⟨⟨⟨⟨⟨s1, s0⟩, s2⟩, s3⟩, s4⟩, s5⟩, s6⟩ := hs
  have hE := hEE3 hT
  refine hE.parts rfl st s1 p3_u fun a w st => ?_
  refine hE.parts (c := tcU) rfl st s0 p3_a fun a w st => ?_
  refine go_seq (c := tcD) s2 (go_seq s3 (hE.piece rfl st p3_b fun a w st => ?_))
  refine go_blk s4 (go_loop s5 ?_)
  refine Top.count hE s6 (hEO hO) (fun i hi => hEI (hI i hi)) (fun _ => sl3) (fun _ => rfl) (fun _ => rfl) (fun i hi => allB_at p3_h i (Nat.zero_le _) (by omega)) (fun i hi => ?_) (allB_at p3_x k (Nat.zero_le _) (by omega)) (fun a w st => ?_) k 0 (Nat.zero_add k) st
  · rcases Nat.lt_or_ge i 50 with h | h
    · exact allB_at p3_l0 i (Nat.zero_le _) (by omega)
    · exact allB_at p3_l1 i h (by omega)
  · exact hE.ends rfl st (allB_at p3_e k (Nat.zero_le _) (by omega)) (oneTmp_eq tc_res) rfl hR
theorem tc_run4 [Val] {k : Nat} (hk : k ≤ 100) (hT : ∀ w, TB4.has w → RowOk w) (hI : ∀ i, i < k → RowOk ⟨211, i, 18446744073709551618, .bool true⟩) (hO : RowOk ⟨211, k, 18446744073709551618, .bool false⟩)
    {a : Act} {w0 w : World} {R : Ending → World → Prop} (st : TopSt Tryz.prog tcLive 157 w0 (ofL tS4) (heapOf []) ([] : List LB).length a w) (hR : ∀ w', RowKit.Below w0.heap.size w0 w' → R (.returned (.bool true)) w') : tcC.wp Tryz.prog (bodyPost Tryz.prog tcFn R) a w := by
  have hs := tc_shape
  simp only [Bool.and_eq_true] at hs
  obtain ⟨⟨⟨⟨⟨⟨s1, s0⟩, s2⟩, s3⟩, s4⟩, s5⟩, s6⟩ := hs
  have hE := hEE4 hT
  refine hE.parts rfl st s1 p4_u fun a w st => ?_
  refine hE.parts (c := tcU) rfl st s0 p4_a fun a w st => ?_
  refine go_seq (c := tcD) s2 (go_seq s3 (hE.piece rfl st p4_b fun a w st => ?_))
  refine go_blk s4 (go_loop s5 ?_)
  refine Top.count hE s6 (hEO hO) (fun i hi => hEI (hI i hi)) (fun _ => sl4) (fun _ => rfl) (fun _ => rfl) (fun i hi => allB_at p4_h i (Nat.zero_le _) (by omega)) (fun i hi => ?_) (allB_at p4_x k (Nat.zero_le _) (by omega)) (fun a w st => ?_) k 0 (Nat.zero_add k) st
  · rcases Nat.lt_or_ge i 50 with h | h
    · exact allB_at p4_l0 i (Nat.zero_le _) (by omega)
    · exact allB_at p4_l1 i h (by omega)
  · exact hE.ends rfl st (allB_at p4_e k (Nat.zero_le _) (by omega)) (oneTmp_eq tc_res) rfl hR
theorem tc_run5 [Val] {k : Nat} (hk : k ≤ 100) (hT : ∀ w, TB5.has w → RowOk w) (hI : ∀ i, i < k → RowOk ⟨211, i, 18446744073709551618, .bool true⟩) (hO : RowOk ⟨211, k, 18446744073709551618, .bool false⟩)
    {a : Act} {w0 w : World} {R : Ending → World → Prop} (st : TopSt Tryz.prog tcLive 157 w0 (ofL tS5) (heapOf []) ([] : List LB).length a w) (hR : ∀ w', RowKit.Below w0.heap.size w0 w' → R (.returned (.bool true)) w') : tcC.wp Tryz.prog (bodyPost Tryz.prog tcFn R) a w := by
  have hs := tc_shape
  simp only [Bool.and_eq_true] at hs
  obtain ⟨⟨⟨⟨⟨⟨s1, s0⟩, s2⟩, s3⟩, s4⟩, s5⟩, s6⟩ := hs
  have hE := hEE5 hT
  refine hE.parts rfl st s1 p5_u fun a w st => ?_
  refine hE.parts (c := tcU) rfl st s0 p5_a fun a w st => ?_
  refine go_seq (c := tcD) s2 (go_seq s3 (hE.piece rfl st p5_b fun a w st => ?_))
  refine go_blk s4 (go_loop s5 ?_)
  refine Top.count hE s6 (hEO hO) (fun i hi => hEI (hI i hi)) (fun _ => sl5) (fun _ => rfl) (fun _ => rfl) (fun i hi => allB_at p5_h i (Nat.zero_le _) (by omega)) (fun i hi => ?_) (allB_at p5_x k (Nat.zero_le _) (by omega)) (fun a w st => ?_) k 0 (Nat.zero_add k) st
  · rcases Nat.lt_or_ge i 50 with h | h
    · exact allB_at p5_l0 i (Nat.zero_le _) (by omega)
    · exact allB_at p5_l1 i h (by omega)
  · exact hE.ends rfl st (allB_at p5_e k (Nat.zero_le _) (by omega)) (oneTmp_eq tc_res) rfl hR
end Go.Proofs.YtccbdaffjkdpgaaGreatDoor.Vw
