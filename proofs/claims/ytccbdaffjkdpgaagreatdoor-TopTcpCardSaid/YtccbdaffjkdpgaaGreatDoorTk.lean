/-
  conf: the configuration as data; its lines' values set.
-/
import Derived.Test.YtccbdaffjkdpgaaGreatDoorKp2
import Derived.Test.YtccbdaffjkdpgaaGreatDoorAt
import Derived.Test.YtccbdaffjkdpgaaGreatDoorBig
import Derived.Test.YtccbdaffjkdpgaaGreatDoorZeros
import Derived.Test.YtccbdaffjkdpgaaGreatDoorAn5
import Derived.Test.YtccbdaffjkdpgaaGreatDoorRegion
namespace Go.Proofs.YtccbdaffjkdpgaaGreatDoor
section
open Go.RowKit

abbrev maC (m : Mac6) : Array Value := #[.int .u8 (m.a.toNat : Int), .int .u8 (m.b.toNat : Int), .int .u8 (m.c.toNat : Int), .int .u8 (m.d.toNat : Int), .int .u8 (m.e.toNat : Int), .int .u8 (m.f.toNat : Int)]

/-- A configuration, but for what is kept and open. -/
structure Cf where
  own : Ad4
  lanA : Ad4
  lanB : Int
  lm : Mac6
  wm : Mac6
  fst : Ad4
  lst : Ad4
  time : Int
  dns : Ad4
  udp : Int
  tcp : Int
  icmp : Int
  low : Int
abbrev cfC (c : Cf) (vf vo : Value) : Array Value := #[.int .u8 (c.own.a.toNat : Int), .int .u8 (c.own.b.toNat : Int), .int .u8 (c.own.c.toNat : Int), .int .u8 (c.own.d.toNat : Int),
  .int .u8 (c.lanA.a.toNat : Int), .int .u8 (c.lanA.b.toNat : Int), .int .u8 (c.lanA.c.toNat : Int), .int .u8 (c.lanA.d.toNat : Int), .int .i64 c.lanB,
  .int .u8 (c.lm.a.toNat : Int), .int .u8 (c.lm.b.toNat : Int), .int .u8 (c.lm.c.toNat : Int), .int .u8 (c.lm.d.toNat : Int), .int .u8 (c.lm.e.toNat : Int), .int .u8 (c.lm.f.toNat : Int),
  .int .u8 (c.wm.a.toNat : Int), .int .u8 (c.wm.b.toNat : Int), .int .u8 (c.wm.c.toNat : Int), .int .u8 (c.wm.d.toNat : Int), .int .u8 (c.wm.e.toNat : Int), .int .u8 (c.wm.f.toNat : Int),
  .int .u8 (c.fst.a.toNat : Int), .int .u8 (c.fst.b.toNat : Int), .int .u8 (c.fst.c.toNat : Int), .int .u8 (c.fst.d.toNat : Int),
  .int .u8 (c.lst.a.toNat : Int), .int .u8 (c.lst.b.toNat : Int), .int .u8 (c.lst.c.toNat : Int), .int .u8 (c.lst.d.toNat : Int), .int .i64 c.time,
  .int .u8 (c.dns.a.toNat : Int), .int .u8 (c.dns.b.toNat : Int), .int .u8 (c.dns.c.toNat : Int), .int .u8 (c.dns.d.toNat : Int), .int .i64 c.udp, .int .i64 c.tcp, .int .i64 c.icmp, .int .i64 c.low, vf, vo]
abbrev rdC (c : Cf) (vf vo vs : Value) : Array Value := #[.int .u8 (c.own.a.toNat : Int), .int .u8 (c.own.b.toNat : Int), .int .u8 (c.own.c.toNat : Int), .int .u8 (c.own.d.toNat : Int),
  .int .u8 (c.lanA.a.toNat : Int), .int .u8 (c.lanA.b.toNat : Int), .int .u8 (c.lanA.c.toNat : Int), .int .u8 (c.lanA.d.toNat : Int), .int .i64 c.lanB,
  .int .u8 (c.lm.a.toNat : Int), .int .u8 (c.lm.b.toNat : Int), .int .u8 (c.lm.c.toNat : Int), .int .u8 (c.lm.d.toNat : Int), .int .u8 (c.lm.e.toNat : Int), .int .u8 (c.lm.f.toNat : Int),
  .int .u8 (c.wm.a.toNat : Int), .int .u8 (c.wm.b.toNat : Int), .int .u8 (c.wm.c.toNat : Int), .int .u8 (c.wm.d.toNat : Int), .int .u8 (c.wm.e.toNat : Int), .int .u8 (c.wm.f.toNat : Int),
  .int .u8 (c.fst.a.toNat : Int), .int .u8 (c.fst.b.toNat : Int), .int .u8 (c.fst.c.toNat : Int), .int .u8 (c.fst.d.toNat : Int),
  .int .u8 (c.lst.a.toNat : Int), .int .u8 (c.lst.b.toNat : Int), .int .u8 (c.lst.c.toNat : Int), .int .u8 (c.lst.d.toNat : Int), .int .i64 c.time,
  .int .u8 (c.dns.a.toNat : Int), .int .u8 (c.dns.b.toNat : Int), .int .u8 (c.dns.c.toNat : Int), .int .u8 (c.dns.d.toNat : Int), .int .i64 c.udp, .int .i64 c.tcp, .int .i64 c.icmp, .int .i64 c.low, vf, vo, vs]
end
section
open Go.RowKit

abbrev z5 : Array Value := #[.int .u8 0, .int .u8 0, .int .u8 0, .int .u8 0, .int .i64 0]
theorem splice5 (a : Ad4) (b : Int) : spliceAt z5 0 (netC a b).toList = netC a b := by simp [spliceAt]
theorem netC_one (a : Ad4) (b : Int) : (netC a b).all (·.oneCell') = true := by simp [Value.oneCell']
set_option maxRecDepth 100000 in
set_option maxHeartbeats 4000000 in
theorem netof_any (w : World) (a : Ad4) (b : Int) : Calls Tryz.prog 34 #[adV a, .int .i64 b] w (fun e w' => e = .returned (netV (firstA a b) b) ∧ Below w.heap.size w w') := by
  have A0 : ((w.alloc (.cells (adC a) 26)).alloc (.cells z5 72)).heap[w.heap.size]? = some (.cells (adC a) 26 (0, 0)) := heap_alloc_of (heap_alloc_new w _)
  have R0 : ((w.alloc (.cells (adC a) 26)).alloc (.cells z5 72)).heap[w.heap.size + 1]? = some (.cells z5 72 (0, 0)) := heap_alloc_at (by simp)
  have b0 : Below w.heap.size w ((w.alloc (.cells (adC a) 26)).alloc (.cells z5 72)) := ((Below.refl _ w).alloc (Nat.le_refl _) _).alloc (by simp) _
  go_enter Tryz.func34, Tryz.ntmps34
  go_upto_region 1 with fail
  generalize (w.alloc (.cells (adC a) 26)).alloc (.cells z5 72) = w1 at A0 R0 b0 ⊢
  obtain ⟨g, hg⟩ : ∃ g, w.heap.size = g := ⟨_, rfl⟩
  rw [hg] at A0 R0 ⊢
  have HG := Lib.hid hg
  clear hg
  go_upto_region 2 with (first | ((with_reducible apply at_load_row 26); (case hx => exact rfl); (case hg => exact A0); (case hu => exact Tryz.underlying26); (case hd => rfl); (case hi => kernel_rfl)) | ((with_reducible apply at_store_new 72); (case hx => exact rfl); (case hy => exact rfl); (case hg => first | rfl | simp); (case hi => kernel_rfl); (case hold => rfl); (case h1 => kernel_rfl)))
  have q2 : Below w1.heap.size w1 (w1.alloc (.cells (netC a b) 72)) := (Below.refl _ w1).alloc (Nat.le_refl _) _
  have R2 := below_at q2 R0 (heap_lt R0)
  have N2 := heap_alloc_new w1 (.cells (netC a b) 72)
  have b2 := b0.trans (q2.mono b0.size)
  obtain ⟨gn, hgn⟩ : ∃ gn, w1.heap.size = gn := ⟨_, rfl⟩
  have HGN := Lib.hid (show g + 1 < gn by have := heap_lt R0; omega)
  have HGW := Lib.hid (show w.heap.size ≤ gn by have := HG.out; have := HGN.out; omega)
  rw [hgn] at N2 ⊢
  generalize w1.alloc (.cells (netC a b) 72) = w2 at R2 N2 b2 ⊢
  clear hgn q2 A0 R0 b0
  go_wp2_with ((with_reducible apply at_load_row 72); (case hx => exact rfl); (case hg => exact N2); (case hu => exact Tryz.underlying72); (case hd => rfl); (case hi => kernel_rfl))
  refine (first_any w2 a b).mono ?_
  rintro e w3 ⟨rfl, q3⟩
  have R3 := below_at q3 R2 (heap_lt R2)
  have N3 := below_at q3 N2 (heap_lt N2)
  have b3 := b2.trans (q3.mono b2.size)
  clear R2 N2 b2 q3
  rw [show of4 (firstN (numA a) (behN b)) = firstA a b from rfl]
  obtain ⟨f, hf⟩ : ∃ f, firstA a b = f := ⟨_, rfl⟩
  rw [hf]
  go_upto_region 3 with ((with_reducible apply at_store_part 26); (case hx => exact rfl); (case hy => exact rfl); (case hg => exact N3); (case hle => simp); (case hi => kernel_rfl); (case h1 => kernel_rfl); (intro w4 g4 P4; replace P4 := Lib.hid P4))
  have N4 : w4.heap[gn]? = some (.cells (netC f b) 72 (0, 0)) := P4.out
  have R4 := grown_at g4 R3 (by have := HGN.out; omega)
  have b4 := below_grown b3 g4 b3.size HGW.out
  clear R3 N3 b3 g4 P4
  go_wp2_with (first | ((with_reducible apply at_load_row 72); (case hx => exact rfl); (case hg => exact N4); (case hu => exact Tryz.underlying72); (case hd => rfl); (case hi => kernel_rfl)) | ((with_reducible apply at_store_part 72); (case hx => exact rfl); (case hy => exact rfl); (case hg => exact R4); (case hle => simp); (case hi => kernel_rfl); (case h1 => kernel_rfl); (intro w5 g5 P5; replace P5 := Lib.hid P5)))
  have P6 := P5.out
  rw [splice5] at P6
  refine bodyPost_cell (g + 1) _ _ _ rfl rfl P6 Tryz.underlying72 rfl (by kernel_rfl) rfl ?_
  exact ⟨rfl, below_grown b4 g5 b4.size (by have := HG.out; omega)⟩
section
variable (w : World) (m : Mac6) (a : Ad4) (k : Nat)
end
end
section
section
open Go.RowKit

def inR (v lo hi : Int) : Bool := decide (lo ≤ v) && decide (v ≤ hi)
theorem within_any (w : World) (v lo hi : Int) : Calls Tryz.prog 307 #[.int .i64 v, .int .i64 lo, .int .i64 hi] w (fun e w' => e = .returned (.bool (inR v lo hi)) ∧ w' = w) := by
  have H : inR v lo hi = (decide (lo ≤ v) && decide (v ≤ hi)) := rfl
  obtain ⟨r, hr⟩ : ∃ r, inR v lo hi = r := ⟨_, rfl⟩
  rw [hr] at H ⊢
  have HR := Lib.hid H
  clear H hr
  rcases Int.lt_or_le v lo with h1 | h1
  · have d1 : decide (lo ≤ v) = false := decide_eq_false (by omega)
    go_enter Tryz.func307, Tryz.ntmps307
    go_wp2_with fail
    go_ret
    exact ⟨by rw [HR.out, d1]; rfl, rfl⟩
  have d1 : decide (lo ≤ v) = true := decide_eq_true h1
  rcases Int.lt_or_le hi v with h2 | h2
  · have d2 : decide (v ≤ hi) = false := decide_eq_false (by omega)
    go_enter Tryz.func307, Tryz.ntmps307
    go_wp2_with fail
    go_ret
    exact ⟨by rw [HR.out, d1]; rw [d2]; rfl, rfl⟩
  · have d2 : decide (v ≤ hi) = true := decide_eq_true h2
    go_enter Tryz.func307, Tryz.ntmps307
    go_wp2_with fail
    go_ret
    exact ⟨by rw [HR.out, d1]; rw [d2]; rfl, rfl⟩
def grpB (m : Mac6) : Bool := m.a.toNat % 2 == 1
set_option maxRecDepth 100000 in
theorem group_any (w : World) (m : Mac6) : Calls Tryz.prog 309 #[macV m] w (fun e w' => e = .returned (.bool (grpB m)) ∧ Below w.heap.size w w') := by
  have hx := m.a.toNat_lt
  have e1 : bits BinOp.and IntKind.u8 (m.a.toNat : Int) 1 = ((m.a.toNat % 2 : Nat) : Int) := by
    have := u8_and_nat m.a.toNat 1 (by omega) (by omega)
    rw [Nat.and_one_is_mod] at this
    simpa using this
  have HR := Lib.hid (show (((m.a.toNat % 2 : Nat) : Int) == 1) = grpB m by rw [grpB, Bool.eq_iff_iff]; simp; omega)
  obtain ⟨k, hk⟩ : ∃ k, m.a.toNat % 2 = k := ⟨_, rfl⟩
  rw [hk] at e1 HR
  have P0 := heap_alloc_new w (.cells (maC m) 45)
  have b0 : Below w.heap.size w (w.alloc (.cells (maC m) 45)) := (Below.refl _ w).alloc (Nat.le_refl _) _
  have c0 := (cells_of P0).1 0
  clear hx hk
  go_enter Tryz.func309, Tryz.ntmps309
  go_upto_region 1 with fail
  generalize w.alloc (.cells (maC m) 45) = w1 at P0 b0 c0 ⊢
  go_wp2_with fail
  go_ret
  exact ⟨by rw [← HR.out]; rfl, b0⟩
def inB (c : Cf) (a : Ad4) : Bool := hasN (numA a) (numA c.lanA) (behN c.lanB) && !adeq a (firstA c.lanA c.lanB) && !adeq a (lastA c.lanA c.lanB)
set_option maxRecDepth 100000 in
set_option maxHeartbeats 4000000 in
theorem inner_any (w : World) (c : Cf) (vf vo : Value) (a : Ad4) : Calls Tryz.prog 308 #[.agg (cfC c vf vo), adV a] w (fun e w' => e = .returned (.bool (inB c a)) ∧ Below w.heap.size w w') := by
  have hB : inB c a = (hasN (numA a) (numA c.lanA) (behN c.lanB) && !adeq a (firstA c.lanA c.lanB) && !adeq a (lastA c.lanA c.lanB)) := rfl
  obtain ⟨t1, h1⟩ : ∃ b, hasN (numA a) (numA c.lanA) (behN c.lanB) = b := ⟨_, rfl⟩
  have E1 := Lib.hid h1
  have n2 := fun w => run_neq_ad w a (firstA c.lanA c.lanB)
  have n3 := fun w => run_neq_ad w a (lastA c.lanA c.lanB)
  obtain ⟨af, hf⟩ : ∃ b, firstA c.lanA c.lanB = b := ⟨_, rfl⟩
  obtain ⟨al, hl⟩ : ∃ b, lastA c.lanA c.lanB = b := ⟨_, rfl⟩
  have EF := Lib.hid (show of4 ((firstN (numA c.lanA) (behN c.lanB) : Nat) : Int) = af from hf)
  have EL := Lib.hid (show of4 ((lastN (numA c.lanA) (behN c.lanB) : Nat) : Int) = al from hl)
  rw [hf] at n2 hB
  rw [hl] at n3 hB
  obtain ⟨t2, h2⟩ : ∃ b, (!adeq a af) = b := ⟨_, rfl⟩
  obtain ⟨t3, h3⟩ : ∃ b, (!adeq a al) = b := ⟨_, rfl⟩
  rw [h1, h2, h3] at hB
  simp only [h2] at n2
  simp only [h3] at n3
  have HB := Lib.hid hB
  clear h1 hf hl h2 h3 hB
  have P0 : ((w.alloc (.cells (cfC c vf vo) 76)).alloc (.cells (adC a) 26)).heap[w.heap.size]? = some (.cells (cfC c vf vo) 76 (0, 0)) := heap_alloc_of (heap_alloc_new w _)
  have A0 : ((w.alloc (.cells (cfC c vf vo) 76)).alloc (.cells (adC a) 26)).heap[w.heap.size + 1]? = some (.cells (adC a) 26 (0, 0)) := heap_alloc_at (by simp)
  have b0 : Below w.heap.size w ((w.alloc (.cells (cfC c vf vo) 76)).alloc (.cells (adC a) 26)) := ((Below.refl _ w).alloc (Nat.le_refl _) _).alloc (by simp) _
  go_enter Tryz.func308, Tryz.ntmps308
  go_upto_region 1 with fail
  generalize (w.alloc (.cells (cfC c vf vo) 76)).alloc (.cells (adC a) 26) = w1 at P0 A0 b0 ⊢
  obtain ⟨g, hg⟩ : ∃ g, w.heap.size = g := ⟨_, rfl⟩
  rw [hg] at P0 A0 ⊢
  have HG := Lib.hid hg
  clear hg
  have r0 : Below w1.heap.size w1 w1.drew := (Below.refl _ _).drew
  have f0 := Ext.cells (w := w1.drew) (M := fun _ => False) P0 (fun h => h)
  have CA := Ext.at_ (M := fun _ => False) (w := w1.drew) A0 (fun h => h)
  refine rg_begin (fun _ => False) (by kernel_rfl) ?_
  refine rg_take (v := ?_) 0 rfl (by kernel_rfl) (by kernel_rfl) (by kernel_rfl) (fun _ _ _ h => h) (by rfl) ?_ ?_; rotate_left
  · (intro x hx; go_simp; first | done | with_reducible rfl | (rw [if_pos (by omega)]; try with_reducible rfl) | (rw [if_neg (by omega)]; try with_reducible rfl))
  try simp only [Act.put, List.setIfInBounds_toArray, List.set_cons_zero, List.set_cons_succ]
  refine rg_take (v := ?_) 1 rfl (by kernel_rfl) (by kernel_rfl) (by kernel_rfl) (fun _ _ _ h => h) (by rfl) ?_ ?_; rotate_left
  · (intro x hx; go_simp; first | done | with_reducible rfl | (rw [if_pos (by omega)]; try with_reducible rfl) | (rw [if_neg (by omega)]; try with_reducible rfl))
  try simp only [Act.put, List.setIfInBounds_toArray, List.set_cons_zero, List.set_cons_succ]
  refine rg_take (v := .agg (adC a)) 2 rfl (by kernel_rfl) (by kernel_rfl) (by kernel_rfl) (fun _ _ _ h => h) (by rfl) ?_ ?_
  · (intro x hx; apply run_load_big; (case ho => exact rfl); (case hv => exact rfl); (case hg => exact CA x hx); (case hu => exact Tryz.underlying26); (case hd => rfl); (case hi => kernel_rfl))
  try simp only [Act.put, List.setIfInBounds_toArray, List.set_cons_zero, List.set_cons_succ]
  refine rg_step 3 rfl (by kernel_rfl) (by rfl) (fun K hK => ?_)
  go_simp
  refine (has_any _ c.lanA c.lanB a).mono ?_
  rw [E1.out]
  rintro e u1 ⟨rfl, p1⟩
  have r1 := r0.trans (p1.mono r0.size)
  have f0 := Ext.cells (w := u1) (M := fun _ => False) (below_at r1 P0 (heap_lt P0)) (fun h => h)
  have CA := Ext.at_ (M := fun _ => False) (w := u1) (below_at r1 A0 (heap_lt A0)) (fun h => h)
  refine hK.out _ _ (Ext.below_all _ p1) ?_
  clear hK K; try simp only [Act.put, List.setIfInBounds_toArray, List.set_cons_zero, List.set_cons_succ]
  refine rg_take (v := ?_) 4 rfl (by kernel_rfl) (by kernel_rfl) (by kernel_rfl) (fun _ _ _ h => h) (by rfl) ?_ ?_; rotate_left
  · (intro x hx; go_simp; first | done | with_reducible rfl | (rw [if_pos (by omega)]; try with_reducible rfl) | (rw [if_neg (by omega)]; try with_reducible rfl))
  try simp only [Act.put, List.setIfInBounds_toArray, List.set_cons_zero, List.set_cons_succ]
  rcases t1 with _ | _
  · refine rg_skip 5 rfl (by kernel_rfl) (by kernel_rfl) (by kernel_rfl) (fun _ _ _ h => h) (by rfl) ?_; simp only [Act.put, List.setIfInBounds_toArray, List.set_cons_zero, List.set_cons_succ]
    refine rg_skip 6 rfl (by kernel_rfl) (by kernel_rfl) (by kernel_rfl) (fun _ _ _ h => h) (by rfl) ?_; simp only [Act.put, List.setIfInBounds_toArray, List.set_cons_zero, List.set_cons_succ]
    refine rg_skip 7 rfl (by kernel_rfl) (by kernel_rfl) (by kernel_rfl) (fun _ _ _ h => h) (by rfl) ?_; simp only [Act.put, List.setIfInBounds_toArray, List.set_cons_zero, List.set_cons_succ]
    refine rg_skip 8 rfl (by kernel_rfl) (by kernel_rfl) (by kernel_rfl) (fun _ _ _ h => h) (by rfl) ?_; simp only [Act.put, List.setIfInBounds_toArray, List.set_cons_zero, List.set_cons_succ]
    refine rg_skip 9 rfl (by kernel_rfl) (by kernel_rfl) (by kernel_rfl) (fun _ _ _ h => h) (by rfl) ?_; simp only [Act.put, List.setIfInBounds_toArray, List.set_cons_zero, List.set_cons_succ]
    refine rg_take (v := ?_) 10 rfl (by kernel_rfl) (by kernel_rfl) (by kernel_rfl) (fun _ _ _ h => h) (by rfl) ?_ ?_; rotate_left
    · (intro x hx; go_simp; first | done | with_reducible rfl | (rw [if_pos (by omega)]; try with_reducible rfl) | (rw [if_neg (by omega)]; try with_reducible rfl))
    try simp only [Act.put, List.setIfInBounds_toArray, List.set_cons_zero, List.set_cons_succ]
    refine rg_take (v := ?_) 11 rfl (by kernel_rfl) (by kernel_rfl) (by kernel_rfl) (fun _ _ _ h => h) (by rfl) ?_ ?_; rotate_left
    · (intro x hx; go_simp; first | done | with_reducible rfl | (rw [if_pos (by omega)]; try with_reducible rfl) | (rw [if_neg (by omega)]; try with_reducible rfl))
    try simp only [Act.put, List.setIfInBounds_toArray, List.set_cons_zero, List.set_cons_succ]
    refine rg_skip 12 rfl (by kernel_rfl) (by kernel_rfl) (by kernel_rfl) (fun _ _ _ h => h) (by rfl) ?_; simp only [Act.put, List.setIfInBounds_toArray, List.set_cons_zero, List.set_cons_succ]
    refine rg_skip 13 rfl (by kernel_rfl) (by kernel_rfl) (by kernel_rfl) (fun _ _ _ h => h) (by rfl) ?_; simp only [Act.put, List.setIfInBounds_toArray, List.set_cons_zero, List.set_cons_succ]
    refine rg_skip 14 rfl (by kernel_rfl) (by kernel_rfl) (by kernel_rfl) (fun _ _ _ h => h) (by rfl) ?_; simp only [Act.put, List.setIfInBounds_toArray, List.set_cons_zero, List.set_cons_succ]
    refine rg_skip 15 rfl (by kernel_rfl) (by kernel_rfl) (by kernel_rfl) (fun _ _ _ h => h) (by rfl) ?_; simp only [Act.put, List.setIfInBounds_toArray, List.set_cons_zero, List.set_cons_succ]
    refine rg_skip 16 rfl (by kernel_rfl) (by kernel_rfl) (by kernel_rfl) (fun _ _ _ h => h) (by rfl) ?_; simp only [Act.put, List.setIfInBounds_toArray, List.set_cons_zero, List.set_cons_succ]
    refine rg_take (v := ?_) 17 rfl (by kernel_rfl) (by kernel_rfl) (by kernel_rfl) (fun _ _ _ h => h) (by rfl) ?_ ?_; rotate_left
    · (intro x hx; go_simp; first | done | with_reducible rfl | (rw [if_pos (by omega)]; try with_reducible rfl) | (rw [if_neg (by omega)]; try with_reducible rfl))
    try simp only [Act.put, List.setIfInBounds_toArray, List.set_cons_zero, List.set_cons_succ]
    refine rg_take (v := ?_) 18 rfl (by kernel_rfl) (by kernel_rfl) (by kernel_rfl) (fun _ _ _ h => h) (by rfl) ?_ ?_; rotate_left
    · (intro x hx; go_simp; first | done | with_reducible rfl | (rw [if_pos (by omega)]; try with_reducible rfl) | (rw [if_neg (by omega)]; try with_reducible rfl))
    try simp only [Act.put, List.setIfInBounds_toArray, List.set_cons_zero, List.set_cons_succ]
    refine rg_done (by kernel_rfl) ?_
    --TAIL
    go_wp2_with fail
    go_ret
    refine ⟨by rw [HB.out]; first | rfl | simp, ?_⟩
    have := HG.out
    subst this
    exact b0.trans (r1.mono b0.size)
  · refine rg_take (v := .agg (adC a)) 5 rfl (by kernel_rfl) (by kernel_rfl) (by kernel_rfl) (fun _ _ _ h => h) (by rfl) ?_ ?_
    · (intro x hx; apply run_load_big; (case ho => exact rfl); (case hv => exact rfl); (case hg => exact CA x hx); (case hu => exact Tryz.underlying26); (case hd => rfl); (case hi => kernel_rfl))
    try simp only [Act.put, List.setIfInBounds_toArray, List.set_cons_zero, List.set_cons_succ]
    refine rg_take (v := ?_) 6 rfl (by kernel_rfl) (by kernel_rfl) (by kernel_rfl) (fun _ _ _ h => h) (by rfl) ?_ ?_; rotate_left
    · (intro x hx; go_simp; first | done | with_reducible rfl | (rw [if_pos (by omega)]; try with_reducible rfl) | (rw [if_neg (by omega)]; try with_reducible rfl))
    try simp only [Act.put, List.setIfInBounds_toArray, List.set_cons_zero, List.set_cons_succ]
    refine rg_take (v := ?_) 7 rfl (by kernel_rfl) (by kernel_rfl) (by kernel_rfl) (fun _ _ _ h => h) (by rfl) ?_ ?_; rotate_left
    · (intro x hx; go_simp; first | done | with_reducible rfl | (rw [if_pos (by omega)]; try with_reducible rfl) | (rw [if_neg (by omega)]; try with_reducible rfl))
    try simp only [Act.put, List.setIfInBounds_toArray, List.set_cons_zero, List.set_cons_succ]
    refine rg_step 8 rfl (by kernel_rfl) (by rfl) (fun K hK => ?_)
    go_simp
    refine (first_any _ c.lanA c.lanB).mono ?_
    rw [EF.out]
    rintro e u1 ⟨rfl, p1⟩
    replace r1 := r1.trans (p1.mono r1.size)
    have f0 := Ext.cells (w := u1) (M := fun _ => False) (below_at r1 P0 (heap_lt P0)) (fun h => h)
    have CA := Ext.at_ (M := fun _ => False) (w := u1) (below_at r1 A0 (heap_lt A0)) (fun h => h)
    refine hK.out _ _ (Ext.below_all _ p1) ?_
    clear hK K; try simp only [Act.put, List.setIfInBounds_toArray, List.set_cons_zero, List.set_cons_succ]
    refine rg_take (v := ?_) 9 rfl (by kernel_rfl) (by kernel_rfl) (by kernel_rfl) (fun _ _ _ h => h) (by rfl) ?_ ?_; rotate_left
    · (intro x hx; go_simp; first | done | with_reducible rfl | (rw [if_pos (by omega)]; try with_reducible rfl) | (rw [if_neg (by omega)]; try with_reducible rfl))
    try simp only [Act.put, List.setIfInBounds_toArray, List.set_cons_zero, List.set_cons_succ]
    refine rg_take (v := ?_) 10 rfl (by kernel_rfl) (by kernel_rfl) (by kernel_rfl) (fun _ _ _ h => h) (by rfl) ?_ ?_; rotate_left
    · (intro x hx; go_simp; first | done | with_reducible rfl | (rw [if_pos (by omega)]; try with_reducible rfl) | (rw [if_neg (by omega)]; try with_reducible rfl))
    try simp only [Act.put, List.setIfInBounds_toArray, List.set_cons_zero, List.set_cons_succ]
    refine rg_take (v := ?_) 11 rfl (by kernel_rfl) (by kernel_rfl) (by kernel_rfl) (fun _ _ _ h => h) (by rfl) ?_ ?_; rotate_left
    · (intro x hx; go_simp; first | done | with_reducible rfl | (rw [if_pos (by omega)]; try with_reducible rfl) | (rw [if_neg (by omega)]; try with_reducible rfl))
    try simp only [Act.put, List.setIfInBounds_toArray, List.set_cons_zero, List.set_cons_succ]
    rcases t2 with _ | _
    · refine rg_skip 12 rfl (by kernel_rfl) (by kernel_rfl) (by kernel_rfl) (fun _ _ _ h => h) (by rfl) ?_; simp only [Act.put, List.setIfInBounds_toArray, List.set_cons_zero, List.set_cons_succ]
      refine rg_skip 13 rfl (by kernel_rfl) (by kernel_rfl) (by kernel_rfl) (fun _ _ _ h => h) (by rfl) ?_; simp only [Act.put, List.setIfInBounds_toArray, List.set_cons_zero, List.set_cons_succ]
      refine rg_skip 14 rfl (by kernel_rfl) (by kernel_rfl) (by kernel_rfl) (fun _ _ _ h => h) (by rfl) ?_; simp only [Act.put, List.setIfInBounds_toArray, List.set_cons_zero, List.set_cons_succ]
      refine rg_skip 15 rfl (by kernel_rfl) (by kernel_rfl) (by kernel_rfl) (fun _ _ _ h => h) (by rfl) ?_; simp only [Act.put, List.setIfInBounds_toArray, List.set_cons_zero, List.set_cons_succ]
      refine rg_skip 16 rfl (by kernel_rfl) (by kernel_rfl) (by kernel_rfl) (fun _ _ _ h => h) (by rfl) ?_; simp only [Act.put, List.setIfInBounds_toArray, List.set_cons_zero, List.set_cons_succ]
      refine rg_take (v := ?_) 17 rfl (by kernel_rfl) (by kernel_rfl) (by kernel_rfl) (fun _ _ _ h => h) (by rfl) ?_ ?_; rotate_left
      · (intro x hx; go_simp; first | done | with_reducible rfl | (rw [if_pos (by omega)]; try with_reducible rfl) | (rw [if_neg (by omega)]; try with_reducible rfl))
      try simp only [Act.put, List.setIfInBounds_toArray, List.set_cons_zero, List.set_cons_succ]
      refine rg_take (v := ?_) 18 rfl (by kernel_rfl) (by kernel_rfl) (by kernel_rfl) (fun _ _ _ h => h) (by rfl) ?_ ?_; rotate_left
      · (intro x hx; go_simp; first | done | with_reducible rfl | (rw [if_pos (by omega)]; try with_reducible rfl) | (rw [if_neg (by omega)]; try with_reducible rfl))
      try simp only [Act.put, List.setIfInBounds_toArray, List.set_cons_zero, List.set_cons_succ]
      refine rg_done (by kernel_rfl) ?_
      --TAIL
      go_wp2_with fail
      go_ret
      refine ⟨by rw [HB.out]; first | rfl | simp, ?_⟩
      have := HG.out
      subst this
      exact b0.trans (r1.mono b0.size)
    · refine rg_take (v := .agg (adC a)) 12 rfl (by kernel_rfl) (by kernel_rfl) (by kernel_rfl) (fun _ _ _ h => h) (by rfl) ?_ ?_
      · (intro x hx; apply run_load_big; (case ho => exact rfl); (case hv => exact rfl); (case hg => exact CA x hx); (case hu => exact Tryz.underlying26); (case hd => rfl); (case hi => kernel_rfl))
      try simp only [Act.put, List.setIfInBounds_toArray, List.set_cons_zero, List.set_cons_succ]
      refine rg_take (v := ?_) 13 rfl (by kernel_rfl) (by kernel_rfl) (by kernel_rfl) (fun _ _ _ h => h) (by rfl) ?_ ?_; rotate_left
      · (intro x hx; go_simp; first | done | with_reducible rfl | (rw [if_pos (by omega)]; try with_reducible rfl) | (rw [if_neg (by omega)]; try with_reducible rfl))
      try simp only [Act.put, List.setIfInBounds_toArray, List.set_cons_zero, List.set_cons_succ]
      refine rg_take (v := ?_) 14 rfl (by kernel_rfl) (by kernel_rfl) (by kernel_rfl) (fun _ _ _ h => h) (by rfl) ?_ ?_; rotate_left
      · (intro x hx; go_simp; first | done | with_reducible rfl | (rw [if_pos (by omega)]; try with_reducible rfl) | (rw [if_neg (by omega)]; try with_reducible rfl))
      try simp only [Act.put, List.setIfInBounds_toArray, List.set_cons_zero, List.set_cons_succ]
      refine rg_step 15 rfl (by kernel_rfl) (by rfl) (fun K hK => ?_)
      go_simp
      refine (last_any _ c.lanA c.lanB).mono ?_
      rw [EL.out]
      rintro e u1 ⟨rfl, p1⟩
      replace r1 := r1.trans (p1.mono r1.size)
      refine hK.out _ _ (Ext.below_all _ p1) ?_
      clear hK K; try simp only [Act.put, List.setIfInBounds_toArray, List.set_cons_zero, List.set_cons_succ]
      refine rg_take (v := ?_) 16 rfl (by kernel_rfl) (by kernel_rfl) (by kernel_rfl) (fun _ _ _ h => h) (by rfl) ?_ ?_; rotate_left
      · (intro x hx; go_simp; first | done | with_reducible rfl | (rw [if_pos (by omega)]; try with_reducible rfl) | (rw [if_neg (by omega)]; try with_reducible rfl))
      try simp only [Act.put, List.setIfInBounds_toArray, List.set_cons_zero, List.set_cons_succ]
      refine rg_take (v := ?_) 17 rfl (by kernel_rfl) (by kernel_rfl) (by kernel_rfl) (fun _ _ _ h => h) (by rfl) ?_ ?_; rotate_left
      · (intro x hx; go_simp; first | done | with_reducible rfl | (rw [if_pos (by omega)]; try with_reducible rfl) | (rw [if_neg (by omega)]; try with_reducible rfl))
      try simp only [Act.put, List.setIfInBounds_toArray, List.set_cons_zero, List.set_cons_succ]
      refine rg_take (v := ?_) 18 rfl (by kernel_rfl) (by kernel_rfl) (by kernel_rfl) (fun _ _ _ h => h) (by rfl) ?_ ?_; rotate_left
      · (intro x hx; go_simp; first | done | with_reducible rfl | (rw [if_pos (by omega)]; try with_reducible rfl) | (rw [if_neg (by omega)]; try with_reducible rfl))
      try simp only [Act.put, List.setIfInBounds_toArray, List.set_cons_zero, List.set_cons_succ]
      refine rg_done (by kernel_rfl) ?_
      --TAIL
      go_wp2_with fail
      go_ret
      refine ⟨by rw [HB.out]; first | rfl | simp, ?_⟩
      have := HG.out
      subst this
      exact b0.trans (r1.mono b0.size)
end
section
open Go.RowKit

theorem part_agg {P : Program} (w : World) (t : TypeId) (cs : Array Value) (off n : Nat) (ha : (isAgg t).run P w = .ok true w) (hs : (sizeOf t).run P w = .ok n w) :
    (part t cs off).run P w = .ok (.agg (cs.extract off (off + n))) w := by simp [part, Sem.run_bind, ha, hs]
theorem part_one {P : Program} (w : World) (t : TypeId) (cs : Array Value) (off : Nat) (v : Value) (ha : (isAgg t).run P w = .ok false w) (hv : cs[off]? = some v) :
    (part t cs off).run P w = .ok v w := by simp [part, Sem.run_bind, ha, hv]
set_option maxRecDepth 100000 in
set_option maxHeartbeats 1000000 in
theorem eq_net_fields (w : World) (a b : Ad4) (t : Int) : (Op.eqFields 9999 (netC a t) (netC b t) (Tryz.prog.fieldsOf 72).toList).run Tryz.prog w = .ok (adeq a b) w := by
  have q0 := part_agg (P := Tryz.prog) w 26 (netC a t) 0 4 (by kernel_rfl) (by kernel_rfl)
  have q1 := part_agg (P := Tryz.prog) w 26 (netC b t) 0 4 (by kernel_rfl) (by kernel_rfl)
  have q4 := part_one (P := Tryz.prog) w 3 (netC a t) 4 _ (by kernel_rfl) rfl
  have q5 := part_one (P := Tryz.prog) w 3 (netC b t) 4 _ (by kernel_rfl) rfl
  change _ = Result.ok (adV a) w at q0
  change _ = Result.ok (adV b) w at q1
  change _ = Result.ok (Value.int .i64 t) w at q4
  change _ = Result.ok (Value.int .i64 t) w at q5
  have e4 := run_equalIn_int (P := Tryz.prog) w 9998 3 .i64 .i64 t t Tryz.underlying3
  rw [beq_self_eq_true] at e4
  change (Op.equalIn 9999 _ _ _).run _ _ = _ at e4
  have e0 : (Op.equalIn 9999 26 (adV a) (adV b)).run Tryz.prog w = .ok (adeq a b) w :=
    run_equalIn_bytes (P := Tryz.prog) w 9997 26 5 4 Tryz.underlying26 Tryz.underlying5 (fun w => by kernel_rfl) a.bytes b.bytes rfl rfl
  rcases hx : adeq a b with _ | _
  all_goals
    rw [hx] at e0
    simp only [Program.fieldsOf, Tryz.underlying72, Op.eqFields, Sem.run_bind, Sem.run_ite, q0, q1, q4, q5, Result.andThen_ok, e0, e4]
    simp
theorem run_eql_net (w : World) (a b : Ad4) (t : Int) : (binOp .eql 72 (netV a t) (netV b t)).run Tryz.prog w = .ok (.bool (adeq a b)) w := by
  rw [run_eql_struct, run_equalIn_agg w 9999 72 (netC a t) (netC b t) (by kernel_rfl) (by kernel_rfl), eq_net_fields w]
  rfl
def netB (c : Cf) : Bool := inR c.lanB 8 30 && adeq c.lanA (firstA c.own c.lanB) && inB c c.own && !grpB c.lm && !grpB c.wm
set_option maxRecDepth 100000 in
set_option maxHeartbeats 4000000 in
theorem net_any (w : World) (c : Cf) (vf vo : Value) : Calls Tryz.prog 207 #[.agg (cfC c vf vo)] w (fun e w' => e = .returned (.bool (netB c)) ∧ Below w.heap.size w w') := by
  have hB : netB c = (inR c.lanB 8 30 && adeq c.lanA (firstA c.own c.lanB) && inB c c.own && !grpB c.lm && !grpB c.wm) := rfl
  obtain ⟨t1, h1⟩ : ∃ b, inR c.lanB 8 30 = b := ⟨_, rfl⟩
  obtain ⟨t2, h2⟩ : ∃ b, adeq c.lanA (firstA c.own c.lanB) = b := ⟨_, rfl⟩
  obtain ⟨t3, h3⟩ : ∃ b, inB c c.own = b := ⟨_, rfl⟩
  obtain ⟨t4, h4⟩ : ∃ b, grpB c.lm = b := ⟨_, rfl⟩
  obtain ⟨t5, h5⟩ : ∃ b, grpB c.wm = b := ⟨_, rfl⟩
  have n2 := fun w => run_eql_net w c.lanA (firstA c.own c.lanB) c.lanB
  rw [h1, h2, h3, h4, h5] at hB
  simp only [h2] at n2
  have E1 := Lib.hid h1
  have E3 := Lib.hid h3
  have E4 := Lib.hid h4
  have E5 := Lib.hid h5
  have HB := Lib.hid hB
  clear h1 h2 h3 h4 h5 hB
  have P0 := heap_alloc_new w (.cells (cfC c vf vo) 76)
  have b0 : Below w.heap.size w (w.alloc (.cells (cfC c vf vo) 76)) := (Below.refl _ w).alloc (Nat.le_refl _) _
  go_enter Tryz.func207, Tryz.ntmps207
  go_upto_region 1 with fail
  generalize w.alloc (.cells (cfC c vf vo) 76) = w1 at P0 b0 ⊢
  obtain ⟨g, hg⟩ : ∃ g, w.heap.size = g := ⟨_, rfl⟩
  rw [hg] at P0 ⊢
  have HG := Lib.hid hg
  clear hg
  have r0 : Below w1.heap.size w1 w1.drew := (Below.refl _ _).drew
  have f0 := Ext.cells (w := w1.drew) (M := fun _ => False) P0 (fun h => h)
  refine rg_begin (fun _ => False) (by kernel_rfl) ?_
  refine rg_take (v := ?_) 0 rfl (by kernel_rfl) (by kernel_rfl) (by kernel_rfl) (fun _ _ _ h => h) (by rfl) ?_ ?_; rotate_left
  · (intro x hx; go_simp; first | done | with_reducible rfl | (rw [if_pos (by omega)]; try with_reducible rfl) | (rw [if_neg (by omega)]; try with_reducible rfl))
  try simp only [Act.put, List.setIfInBounds_toArray, List.set_cons_zero, List.set_cons_succ]
  refine rg_take (v := ?_) 1 rfl (by kernel_rfl) (by kernel_rfl) (by kernel_rfl) (fun _ _ _ h => h) (by rfl) ?_ ?_; rotate_left
  · (intro x hx; go_simp; first | done | with_reducible rfl | (rw [if_pos (by omega)]; try with_reducible rfl) | (rw [if_neg (by omega)]; try with_reducible rfl))
  try simp only [Act.put, List.setIfInBounds_toArray, List.set_cons_zero, List.set_cons_succ]
  refine rg_take (v := ?_) 2 rfl (by kernel_rfl) (by kernel_rfl) (by kernel_rfl) (fun _ _ _ h => h) (by rfl) ?_ ?_; rotate_left
  · (intro x hx; go_simp; first | done | with_reducible rfl | (rw [if_pos (by omega)]; try with_reducible rfl) | (rw [if_neg (by omega)]; try with_reducible rfl))
  try simp only [Act.put, List.setIfInBounds_toArray, List.set_cons_zero, List.set_cons_succ]
  refine rg_step 3 rfl (by kernel_rfl) (by rfl) (fun K hK => ?_)
  go_simp
  refine (within_any _ c.lanB 8 30).mono ?_
  rw [E1.out]
  rintro e u1 ⟨rfl, rfl⟩
  refine hK.out _ _ (Ext.refl _ _) ?_
  clear hK K; try simp only [Act.put, List.setIfInBounds_toArray, List.set_cons_zero, List.set_cons_succ]
  refine rg_take (v := ?_) 4 rfl (by kernel_rfl) (by kernel_rfl) (by kernel_rfl) (fun _ _ _ h => h) (by rfl) ?_ ?_; rotate_left
  · (intro x hx; go_simp; first | done | with_reducible rfl | (rw [if_pos (by omega)]; try with_reducible rfl) | (rw [if_neg (by omega)]; try with_reducible rfl))
  try simp only [Act.put, List.setIfInBounds_toArray, List.set_cons_zero, List.set_cons_succ]
  rcases t1 with _ | _
  · refine rg_skip 5 rfl (by kernel_rfl) (by kernel_rfl) (by kernel_rfl) (fun _ _ _ h => h) (by rfl) ?_; simp only [Act.put, List.setIfInBounds_toArray, List.set_cons_zero, List.set_cons_succ]
    refine rg_skip 6 rfl (by kernel_rfl) (by kernel_rfl) (by kernel_rfl) (fun _ _ _ h => h) (by rfl) ?_; simp only [Act.put, List.setIfInBounds_toArray, List.set_cons_zero, List.set_cons_succ]
    refine rg_skip 7 rfl (by kernel_rfl) (by kernel_rfl) (by kernel_rfl) (fun _ _ _ h => h) (by rfl) ?_; simp only [Act.put, List.setIfInBounds_toArray, List.set_cons_zero, List.set_cons_succ]
    refine rg_skip 8 rfl (by kernel_rfl) (by kernel_rfl) (by kernel_rfl) (fun _ _ _ h => h) (by rfl) ?_; simp only [Act.put, List.setIfInBounds_toArray, List.set_cons_zero, List.set_cons_succ]
    refine rg_skip 9 rfl (by kernel_rfl) (by kernel_rfl) (by kernel_rfl) (fun _ _ _ h => h) (by rfl) ?_; simp only [Act.put, List.setIfInBounds_toArray, List.set_cons_zero, List.set_cons_succ]
    refine rg_skip 10 rfl (by kernel_rfl) (by kernel_rfl) (by kernel_rfl) (fun _ _ _ h => h) (by rfl) ?_; simp only [Act.put, List.setIfInBounds_toArray, List.set_cons_zero, List.set_cons_succ]
    refine rg_skip 11 rfl (by kernel_rfl) (by kernel_rfl) (by kernel_rfl) (fun _ _ _ h => h) (by rfl) ?_; simp only [Act.put, List.setIfInBounds_toArray, List.set_cons_zero, List.set_cons_succ]
    refine rg_skip 12 rfl (by kernel_rfl) (by kernel_rfl) (by kernel_rfl) (fun _ _ _ h => h) (by rfl) ?_; simp only [Act.put, List.setIfInBounds_toArray, List.set_cons_zero, List.set_cons_succ]
    refine rg_skip 13 rfl (by kernel_rfl) (by kernel_rfl) (by kernel_rfl) (fun _ _ _ h => h) (by rfl) ?_; simp only [Act.put, List.setIfInBounds_toArray, List.set_cons_zero, List.set_cons_succ]
    refine rg_take (v := ?_) 14 rfl (by kernel_rfl) (by kernel_rfl) (by kernel_rfl) (fun _ _ _ h => h) (by rfl) ?_ ?_; rotate_left
    · (intro x hx; go_simp; first | done | with_reducible rfl | (rw [if_pos (by omega)]; try with_reducible rfl) | (rw [if_neg (by omega)]; try with_reducible rfl))
    try simp only [Act.put, List.setIfInBounds_toArray, List.set_cons_zero, List.set_cons_succ]
    refine rg_take (v := ?_) 15 rfl (by kernel_rfl) (by kernel_rfl) (by kernel_rfl) (fun _ _ _ h => h) (by rfl) ?_ ?_; rotate_left
    · (intro x hx; go_simp; first | done | with_reducible rfl | (rw [if_pos (by omega)]; try with_reducible rfl) | (rw [if_neg (by omega)]; try with_reducible rfl))
    try simp only [Act.put, List.setIfInBounds_toArray, List.set_cons_zero, List.set_cons_succ]
    refine rg_skip 16 rfl (by kernel_rfl) (by kernel_rfl) (by kernel_rfl) (fun _ _ _ h => h) (by rfl) ?_; simp only [Act.put, List.setIfInBounds_toArray, List.set_cons_zero, List.set_cons_succ]
    refine rg_skip 17 rfl (by kernel_rfl) (by kernel_rfl) (by kernel_rfl) (fun _ _ _ h => h) (by rfl) ?_; simp only [Act.put, List.setIfInBounds_toArray, List.set_cons_zero, List.set_cons_succ]
    refine rg_skip 18 rfl (by kernel_rfl) (by kernel_rfl) (by kernel_rfl) (fun _ _ _ h => h) (by rfl) ?_; simp only [Act.put, List.setIfInBounds_toArray, List.set_cons_zero, List.set_cons_succ]
    refine rg_skip 19 rfl (by kernel_rfl) (by kernel_rfl) (by kernel_rfl) (fun _ _ _ h => h) (by rfl) ?_; simp only [Act.put, List.setIfInBounds_toArray, List.set_cons_zero, List.set_cons_succ]
    refine rg_take (v := ?_) 20 rfl (by kernel_rfl) (by kernel_rfl) (by kernel_rfl) (fun _ _ _ h => h) (by rfl) ?_ ?_; rotate_left
    · (intro x hx; go_simp; first | done | with_reducible rfl | (rw [if_pos (by omega)]; try with_reducible rfl) | (rw [if_neg (by omega)]; try with_reducible rfl))
    try simp only [Act.put, List.setIfInBounds_toArray, List.set_cons_zero, List.set_cons_succ]
    refine rg_take (v := ?_) 21 rfl (by kernel_rfl) (by kernel_rfl) (by kernel_rfl) (fun _ _ _ h => h) (by rfl) ?_ ?_; rotate_left
    · (intro x hx; go_simp; first | done | with_reducible rfl | (rw [if_pos (by omega)]; try with_reducible rfl) | (rw [if_neg (by omega)]; try with_reducible rfl))
    try simp only [Act.put, List.setIfInBounds_toArray, List.set_cons_zero, List.set_cons_succ]
    refine rg_skip 22 rfl (by kernel_rfl) (by kernel_rfl) (by kernel_rfl) (fun _ _ _ h => h) (by rfl) ?_; simp only [Act.put, List.setIfInBounds_toArray, List.set_cons_zero, List.set_cons_succ]
    refine rg_skip 23 rfl (by kernel_rfl) (by kernel_rfl) (by kernel_rfl) (fun _ _ _ h => h) (by rfl) ?_; simp only [Act.put, List.setIfInBounds_toArray, List.set_cons_zero, List.set_cons_succ]
    refine rg_skip 24 rfl (by kernel_rfl) (by kernel_rfl) (by kernel_rfl) (fun _ _ _ h => h) (by rfl) ?_; simp only [Act.put, List.setIfInBounds_toArray, List.set_cons_zero, List.set_cons_succ]
    refine rg_skip 25 rfl (by kernel_rfl) (by kernel_rfl) (by kernel_rfl) (fun _ _ _ h => h) (by rfl) ?_; simp only [Act.put, List.setIfInBounds_toArray, List.set_cons_zero, List.set_cons_succ]
    refine rg_take (v := ?_) 26 rfl (by kernel_rfl) (by kernel_rfl) (by kernel_rfl) (fun _ _ _ h => h) (by rfl) ?_ ?_; rotate_left
    · (intro x hx; go_simp; first | done | with_reducible rfl | (rw [if_pos (by omega)]; try with_reducible rfl) | (rw [if_neg (by omega)]; try with_reducible rfl))
    try simp only [Act.put, List.setIfInBounds_toArray, List.set_cons_zero, List.set_cons_succ]
    refine rg_take (v := ?_) 27 rfl (by kernel_rfl) (by kernel_rfl) (by kernel_rfl) (fun _ _ _ h => h) (by rfl) ?_ ?_; rotate_left
    · (intro x hx; go_simp; first | done | with_reducible rfl | (rw [if_pos (by omega)]; try with_reducible rfl) | (rw [if_neg (by omega)]; try with_reducible rfl))
    try simp only [Act.put, List.setIfInBounds_toArray, List.set_cons_zero, List.set_cons_succ]
    refine rg_skip 28 rfl (by kernel_rfl) (by kernel_rfl) (by kernel_rfl) (fun _ _ _ h => h) (by rfl) ?_; simp only [Act.put, List.setIfInBounds_toArray, List.set_cons_zero, List.set_cons_succ]
    refine rg_skip 29 rfl (by kernel_rfl) (by kernel_rfl) (by kernel_rfl) (fun _ _ _ h => h) (by rfl) ?_; simp only [Act.put, List.setIfInBounds_toArray, List.set_cons_zero, List.set_cons_succ]
    refine rg_skip 30 rfl (by kernel_rfl) (by kernel_rfl) (by kernel_rfl) (fun _ _ _ h => h) (by rfl) ?_; simp only [Act.put, List.setIfInBounds_toArray, List.set_cons_zero, List.set_cons_succ]
    refine rg_skip 31 rfl (by kernel_rfl) (by kernel_rfl) (by kernel_rfl) (fun _ _ _ h => h) (by rfl) ?_; simp only [Act.put, List.setIfInBounds_toArray, List.set_cons_zero, List.set_cons_succ]
    refine rg_take (v := ?_) 32 rfl (by kernel_rfl) (by kernel_rfl) (by kernel_rfl) (fun _ _ _ h => h) (by rfl) ?_ ?_; rotate_left
    · (intro x hx; go_simp; first | done | with_reducible rfl | (rw [if_pos (by omega)]; try with_reducible rfl) | (rw [if_neg (by omega)]; try with_reducible rfl))
    try simp only [Act.put, List.setIfInBounds_toArray, List.set_cons_zero, List.set_cons_succ]
    refine rg_take (v := ?_) 33 rfl (by kernel_rfl) (by kernel_rfl) (by kernel_rfl) (fun _ _ _ h => h) (by rfl) ?_ ?_; rotate_left
    · (intro x hx; go_simp; first | done | with_reducible rfl | (rw [if_pos (by omega)]; try with_reducible rfl) | (rw [if_neg (by omega)]; try with_reducible rfl))
    try simp only [Act.put, List.setIfInBounds_toArray, List.set_cons_zero, List.set_cons_succ]
    refine rg_done (by kernel_rfl) ?_
    --TAIL
    go_wp2_with fail
    go_ret
    refine ⟨by rw [HB.out]; first | rfl | simp, ?_⟩
    have := HG.out
    subst this
    exact b0.trans (r0.mono b0.size)
  · refine rg_take (v := ?_) 5 rfl (by kernel_rfl) (by kernel_rfl) (by kernel_rfl) (fun _ _ _ h => h) (by rfl) ?_ ?_; rotate_left
    · (intro x hx; go_simp; first | done | with_reducible rfl | (rw [if_pos (by omega)]; try with_reducible rfl) | (rw [if_neg (by omega)]; try with_reducible rfl))
    try simp only [Act.put, List.setIfInBounds_toArray, List.set_cons_zero, List.set_cons_succ]
    refine rg_take (v := ?_) 6 rfl (by kernel_rfl) (by kernel_rfl) (by kernel_rfl) (fun _ _ _ h => h) (by rfl) ?_ ?_; rotate_left
    · (intro x hx; go_simp; first | done | with_reducible rfl | (rw [if_pos (by omega)]; try with_reducible rfl) | (rw [if_neg (by omega)]; try with_reducible rfl))
    try simp only [Act.put, List.setIfInBounds_toArray, List.set_cons_zero, List.set_cons_succ]
    refine rg_take (v := ?_) 7 rfl (by kernel_rfl) (by kernel_rfl) (by kernel_rfl) (fun _ _ _ h => h) (by rfl) ?_ ?_; rotate_left
    · (intro x hx; go_simp; first | done | with_reducible rfl | (rw [if_pos (by omega)]; try with_reducible rfl) | (rw [if_neg (by omega)]; try with_reducible rfl))
    try simp only [Act.put, List.setIfInBounds_toArray, List.set_cons_zero, List.set_cons_succ]
    refine rg_take (v := ?_) 8 rfl (by kernel_rfl) (by kernel_rfl) (by kernel_rfl) (fun _ _ _ h => h) (by rfl) ?_ ?_; rotate_left
    · (intro x hx; go_simp; first | done | with_reducible rfl | (rw [if_pos (by omega)]; try with_reducible rfl) | (rw [if_neg (by omega)]; try with_reducible rfl))
    try simp only [Act.put, List.setIfInBounds_toArray, List.set_cons_zero, List.set_cons_succ]
    refine rg_take (v := ?_) 9 rfl (by kernel_rfl) (by kernel_rfl) (by kernel_rfl) (fun _ _ _ h => h) (by rfl) ?_ ?_; rotate_left
    · (intro x hx; go_simp; first | done | with_reducible rfl | (rw [if_pos (by omega)]; try with_reducible rfl) | (rw [if_neg (by omega)]; try with_reducible rfl))
    try simp only [Act.put, List.setIfInBounds_toArray, List.set_cons_zero, List.set_cons_succ]
    refine rg_take (v := ?_) 10 rfl (by kernel_rfl) (by kernel_rfl) (by kernel_rfl) (fun _ _ _ h => h) (by rfl) ?_ ?_; rotate_left
    · (intro x hx; go_simp; first | done | with_reducible rfl | (rw [if_pos (by omega)]; try with_reducible rfl) | (rw [if_neg (by omega)]; try with_reducible rfl))
    try simp only [Act.put, List.setIfInBounds_toArray, List.set_cons_zero, List.set_cons_succ]
    refine rg_take (v := ?_) 11 rfl (by kernel_rfl) (by kernel_rfl) (by kernel_rfl) (fun _ _ _ h => h) (by rfl) ?_ ?_; rotate_left
    · (intro x hx; go_simp; first | done | with_reducible rfl | (rw [if_pos (by omega)]; try with_reducible rfl) | (rw [if_neg (by omega)]; try with_reducible rfl))
    try simp only [Act.put, List.setIfInBounds_toArray, List.set_cons_zero, List.set_cons_succ]
    refine rg_step 12 rfl (by kernel_rfl) (by rfl) (fun K hK => ?_)
    go_simp
    refine (netof_any _ c.own c.lanB).mono ?_
    rintro e u1 ⟨rfl, p1⟩
    replace r0 := r0.trans (p1.mono r0.size)
    have f0 := Ext.cells (w := u1) (M := fun _ => False) (below_at r0 P0 (heap_lt P0)) (fun h => h)
    have CC := Ext.at_ (M := fun _ => False) (w := u1) (below_at r0 P0 (heap_lt P0)) (fun h => h)
    refine hK.out _ _ (Ext.below_all _ p1) ?_
    clear hK K; try simp only [Act.put, List.setIfInBounds_toArray, List.set_cons_zero, List.set_cons_succ]
    refine rg_take (v := ?_) 13 rfl (by kernel_rfl) (by kernel_rfl) (by kernel_rfl) (fun _ _ _ h => h) (by rfl) ?_ ?_; rotate_left
    · (intro x hx; go_simp; first | done | with_reducible rfl | (rw [if_pos (by omega)]; try with_reducible rfl) | (rw [if_neg (by omega)]; try with_reducible rfl))
    try simp only [Act.put, List.setIfInBounds_toArray, List.set_cons_zero, List.set_cons_succ]
    refine rg_take (v := ?_) 14 rfl (by kernel_rfl) (by kernel_rfl) (by kernel_rfl) (fun _ _ _ h => h) (by rfl) ?_ ?_; rotate_left
    · (intro x hx; go_simp; first | done | with_reducible rfl | (rw [if_pos (by omega)]; try with_reducible rfl) | (rw [if_neg (by omega)]; try with_reducible rfl))
    try simp only [Act.put, List.setIfInBounds_toArray, List.set_cons_zero, List.set_cons_succ]
    refine rg_take (v := ?_) 15 rfl (by kernel_rfl) (by kernel_rfl) (by kernel_rfl) (fun _ _ _ h => h) (by rfl) ?_ ?_; rotate_left
    · (intro x hx; go_simp; first | done | with_reducible rfl | (rw [if_pos (by omega)]; try with_reducible rfl) | (rw [if_neg (by omega)]; try with_reducible rfl))
    try simp only [Act.put, List.setIfInBounds_toArray, List.set_cons_zero, List.set_cons_succ]
    rcases t2 with _ | _
    · refine rg_skip 16 rfl (by kernel_rfl) (by kernel_rfl) (by kernel_rfl) (fun _ _ _ h => h) (by rfl) ?_; simp only [Act.put, List.setIfInBounds_toArray, List.set_cons_zero, List.set_cons_succ]
      refine rg_skip 17 rfl (by kernel_rfl) (by kernel_rfl) (by kernel_rfl) (fun _ _ _ h => h) (by rfl) ?_; simp only [Act.put, List.setIfInBounds_toArray, List.set_cons_zero, List.set_cons_succ]
      refine rg_skip 18 rfl (by kernel_rfl) (by kernel_rfl) (by kernel_rfl) (fun _ _ _ h => h) (by rfl) ?_; simp only [Act.put, List.setIfInBounds_toArray, List.set_cons_zero, List.set_cons_succ]
      refine rg_skip 19 rfl (by kernel_rfl) (by kernel_rfl) (by kernel_rfl) (fun _ _ _ h => h) (by rfl) ?_; simp only [Act.put, List.setIfInBounds_toArray, List.set_cons_zero, List.set_cons_succ]
      refine rg_take (v := ?_) 20 rfl (by kernel_rfl) (by kernel_rfl) (by kernel_rfl) (fun _ _ _ h => h) (by rfl) ?_ ?_; rotate_left
      · (intro x hx; go_simp; first | done | with_reducible rfl | (rw [if_pos (by omega)]; try with_reducible rfl) | (rw [if_neg (by omega)]; try with_reducible rfl))
      try simp only [Act.put, List.setIfInBounds_toArray, List.set_cons_zero, List.set_cons_succ]
      refine rg_take (v := ?_) 21 rfl (by kernel_rfl) (by kernel_rfl) (by kernel_rfl) (fun _ _ _ h => h) (by rfl) ?_ ?_; rotate_left
      · (intro x hx; go_simp; first | done | with_reducible rfl | (rw [if_pos (by omega)]; try with_reducible rfl) | (rw [if_neg (by omega)]; try with_reducible rfl))
      try simp only [Act.put, List.setIfInBounds_toArray, List.set_cons_zero, List.set_cons_succ]
      refine rg_skip 22 rfl (by kernel_rfl) (by kernel_rfl) (by kernel_rfl) (fun _ _ _ h => h) (by rfl) ?_; simp only [Act.put, List.setIfInBounds_toArray, List.set_cons_zero, List.set_cons_succ]
      refine rg_skip 23 rfl (by kernel_rfl) (by kernel_rfl) (by kernel_rfl) (fun _ _ _ h => h) (by rfl) ?_; simp only [Act.put, List.setIfInBounds_toArray, List.set_cons_zero, List.set_cons_succ]
      refine rg_skip 24 rfl (by kernel_rfl) (by kernel_rfl) (by kernel_rfl) (fun _ _ _ h => h) (by rfl) ?_; simp only [Act.put, List.setIfInBounds_toArray, List.set_cons_zero, List.set_cons_succ]
      refine rg_skip 25 rfl (by kernel_rfl) (by kernel_rfl) (by kernel_rfl) (fun _ _ _ h => h) (by rfl) ?_; simp only [Act.put, List.setIfInBounds_toArray, List.set_cons_zero, List.set_cons_succ]
      refine rg_take (v := ?_) 26 rfl (by kernel_rfl) (by kernel_rfl) (by kernel_rfl) (fun _ _ _ h => h) (by rfl) ?_ ?_; rotate_left
      · (intro x hx; go_simp; first | done | with_reducible rfl | (rw [if_pos (by omega)]; try with_reducible rfl) | (rw [if_neg (by omega)]; try with_reducible rfl))
      try simp only [Act.put, List.setIfInBounds_toArray, List.set_cons_zero, List.set_cons_succ]
      refine rg_take (v := ?_) 27 rfl (by kernel_rfl) (by kernel_rfl) (by kernel_rfl) (fun _ _ _ h => h) (by rfl) ?_ ?_; rotate_left
      · (intro x hx; go_simp; first | done | with_reducible rfl | (rw [if_pos (by omega)]; try with_reducible rfl) | (rw [if_neg (by omega)]; try with_reducible rfl))
      try simp only [Act.put, List.setIfInBounds_toArray, List.set_cons_zero, List.set_cons_succ]
      refine rg_skip 28 rfl (by kernel_rfl) (by kernel_rfl) (by kernel_rfl) (fun _ _ _ h => h) (by rfl) ?_; simp only [Act.put, List.setIfInBounds_toArray, List.set_cons_zero, List.set_cons_succ]
      refine rg_skip 29 rfl (by kernel_rfl) (by kernel_rfl) (by kernel_rfl) (fun _ _ _ h => h) (by rfl) ?_; simp only [Act.put, List.setIfInBounds_toArray, List.set_cons_zero, List.set_cons_succ]
      refine rg_skip 30 rfl (by kernel_rfl) (by kernel_rfl) (by kernel_rfl) (fun _ _ _ h => h) (by rfl) ?_; simp only [Act.put, List.setIfInBounds_toArray, List.set_cons_zero, List.set_cons_succ]
      refine rg_skip 31 rfl (by kernel_rfl) (by kernel_rfl) (by kernel_rfl) (fun _ _ _ h => h) (by rfl) ?_; simp only [Act.put, List.setIfInBounds_toArray, List.set_cons_zero, List.set_cons_succ]
      refine rg_take (v := ?_) 32 rfl (by kernel_rfl) (by kernel_rfl) (by kernel_rfl) (fun _ _ _ h => h) (by rfl) ?_ ?_; rotate_left
      · (intro x hx; go_simp; first | done | with_reducible rfl | (rw [if_pos (by omega)]; try with_reducible rfl) | (rw [if_neg (by omega)]; try with_reducible rfl))
      try simp only [Act.put, List.setIfInBounds_toArray, List.set_cons_zero, List.set_cons_succ]
      refine rg_take (v := ?_) 33 rfl (by kernel_rfl) (by kernel_rfl) (by kernel_rfl) (fun _ _ _ h => h) (by rfl) ?_ ?_; rotate_left
      · (intro x hx; go_simp; first | done | with_reducible rfl | (rw [if_pos (by omega)]; try with_reducible rfl) | (rw [if_neg (by omega)]; try with_reducible rfl))
      try simp only [Act.put, List.setIfInBounds_toArray, List.set_cons_zero, List.set_cons_succ]
      refine rg_done (by kernel_rfl) ?_
      --TAIL
      go_wp2_with fail
      go_ret
      refine ⟨by rw [HB.out]; first | rfl | simp, ?_⟩
      have := HG.out
      subst this
      exact b0.trans (r0.mono b0.size)
    · refine rg_take (v := .agg (cfC c vf vo)) 16 rfl (by kernel_rfl) (by kernel_rfl) (by kernel_rfl) (fun _ _ _ h => h) (by rfl) ?_ ?_
      · (intro x hx; apply run_load_big; (case ho => exact rfl); (case hv => exact rfl); (case hg => exact CC x hx); (case hu => exact Tryz.underlying76); (case hd => rfl); (case hi => kernel_rfl))
      try simp only [Act.put, List.setIfInBounds_toArray, List.set_cons_zero, List.set_cons_succ]
      refine rg_take (v := ?_) 17 rfl (by kernel_rfl) (by kernel_rfl) (by kernel_rfl) (fun _ _ _ h => h) (by rfl) ?_ ?_; rotate_left
      · (intro x hx; go_simp; first | done | with_reducible rfl | (rw [if_pos (by omega)]; try with_reducible rfl) | (rw [if_neg (by omega)]; try with_reducible rfl))
      try simp only [Act.put, List.setIfInBounds_toArray, List.set_cons_zero, List.set_cons_succ]
      refine rg_take (v := ?_) 18 rfl (by kernel_rfl) (by kernel_rfl) (by kernel_rfl) (fun _ _ _ h => h) (by rfl) ?_ ?_; rotate_left
      · (intro x hx; go_simp; first | done | with_reducible rfl | (rw [if_pos (by omega)]; try with_reducible rfl) | (rw [if_neg (by omega)]; try with_reducible rfl))
      try simp only [Act.put, List.setIfInBounds_toArray, List.set_cons_zero, List.set_cons_succ]
      refine rg_step 19 rfl (by kernel_rfl) (by rfl) (fun K hK => ?_)
      go_simp
      refine (inner_any _ c vf vo c.own).mono ?_
      rw [E3.out]
      rintro e u1 ⟨rfl, p1⟩
      replace r0 := r0.trans (p1.mono r0.size)
      have f0 := Ext.cells (w := u1) (M := fun _ => False) (below_at r0 P0 (heap_lt P0)) (fun h => h)
      refine hK.out _ _ (Ext.below_all _ p1) ?_
      clear hK K; try simp only [Act.put, List.setIfInBounds_toArray, List.set_cons_zero, List.set_cons_succ]
      refine rg_take (v := ?_) 20 rfl (by kernel_rfl) (by kernel_rfl) (by kernel_rfl) (fun _ _ _ h => h) (by rfl) ?_ ?_; rotate_left
      · (intro x hx; go_simp; first | done | with_reducible rfl | (rw [if_pos (by omega)]; try with_reducible rfl) | (rw [if_neg (by omega)]; try with_reducible rfl))
      try simp only [Act.put, List.setIfInBounds_toArray, List.set_cons_zero, List.set_cons_succ]
      refine rg_take (v := ?_) 21 rfl (by kernel_rfl) (by kernel_rfl) (by kernel_rfl) (fun _ _ _ h => h) (by rfl) ?_ ?_; rotate_left
      · (intro x hx; go_simp; first | done | with_reducible rfl | (rw [if_pos (by omega)]; try with_reducible rfl) | (rw [if_neg (by omega)]; try with_reducible rfl))
      try simp only [Act.put, List.setIfInBounds_toArray, List.set_cons_zero, List.set_cons_succ]
      rcases t3 with _ | _
      · refine rg_skip 22 rfl (by kernel_rfl) (by kernel_rfl) (by kernel_rfl) (fun _ _ _ h => h) (by rfl) ?_; simp only [Act.put, List.setIfInBounds_toArray, List.set_cons_zero, List.set_cons_succ]
        refine rg_skip 23 rfl (by kernel_rfl) (by kernel_rfl) (by kernel_rfl) (fun _ _ _ h => h) (by rfl) ?_; simp only [Act.put, List.setIfInBounds_toArray, List.set_cons_zero, List.set_cons_succ]
        refine rg_skip 24 rfl (by kernel_rfl) (by kernel_rfl) (by kernel_rfl) (fun _ _ _ h => h) (by rfl) ?_; simp only [Act.put, List.setIfInBounds_toArray, List.set_cons_zero, List.set_cons_succ]
        refine rg_skip 25 rfl (by kernel_rfl) (by kernel_rfl) (by kernel_rfl) (fun _ _ _ h => h) (by rfl) ?_; simp only [Act.put, List.setIfInBounds_toArray, List.set_cons_zero, List.set_cons_succ]
        refine rg_take (v := ?_) 26 rfl (by kernel_rfl) (by kernel_rfl) (by kernel_rfl) (fun _ _ _ h => h) (by rfl) ?_ ?_; rotate_left
        · (intro x hx; go_simp; first | done | with_reducible rfl | (rw [if_pos (by omega)]; try with_reducible rfl) | (rw [if_neg (by omega)]; try with_reducible rfl))
        try simp only [Act.put, List.setIfInBounds_toArray, List.set_cons_zero, List.set_cons_succ]
        refine rg_take (v := ?_) 27 rfl (by kernel_rfl) (by kernel_rfl) (by kernel_rfl) (fun _ _ _ h => h) (by rfl) ?_ ?_; rotate_left
        · (intro x hx; go_simp; first | done | with_reducible rfl | (rw [if_pos (by omega)]; try with_reducible rfl) | (rw [if_neg (by omega)]; try with_reducible rfl))
        try simp only [Act.put, List.setIfInBounds_toArray, List.set_cons_zero, List.set_cons_succ]
        refine rg_skip 28 rfl (by kernel_rfl) (by kernel_rfl) (by kernel_rfl) (fun _ _ _ h => h) (by rfl) ?_; simp only [Act.put, List.setIfInBounds_toArray, List.set_cons_zero, List.set_cons_succ]
        refine rg_skip 29 rfl (by kernel_rfl) (by kernel_rfl) (by kernel_rfl) (fun _ _ _ h => h) (by rfl) ?_; simp only [Act.put, List.setIfInBounds_toArray, List.set_cons_zero, List.set_cons_succ]
        refine rg_skip 30 rfl (by kernel_rfl) (by kernel_rfl) (by kernel_rfl) (fun _ _ _ h => h) (by rfl) ?_; simp only [Act.put, List.setIfInBounds_toArray, List.set_cons_zero, List.set_cons_succ]
        refine rg_skip 31 rfl (by kernel_rfl) (by kernel_rfl) (by kernel_rfl) (fun _ _ _ h => h) (by rfl) ?_; simp only [Act.put, List.setIfInBounds_toArray, List.set_cons_zero, List.set_cons_succ]
        refine rg_take (v := ?_) 32 rfl (by kernel_rfl) (by kernel_rfl) (by kernel_rfl) (fun _ _ _ h => h) (by rfl) ?_ ?_; rotate_left
        · (intro x hx; go_simp; first | done | with_reducible rfl | (rw [if_pos (by omega)]; try with_reducible rfl) | (rw [if_neg (by omega)]; try with_reducible rfl))
        try simp only [Act.put, List.setIfInBounds_toArray, List.set_cons_zero, List.set_cons_succ]
        refine rg_take (v := ?_) 33 rfl (by kernel_rfl) (by kernel_rfl) (by kernel_rfl) (fun _ _ _ h => h) (by rfl) ?_ ?_; rotate_left
        · (intro x hx; go_simp; first | done | with_reducible rfl | (rw [if_pos (by omega)]; try with_reducible rfl) | (rw [if_neg (by omega)]; try with_reducible rfl))
        try simp only [Act.put, List.setIfInBounds_toArray, List.set_cons_zero, List.set_cons_succ]
        refine rg_done (by kernel_rfl) ?_
        --TAIL
        go_wp2_with fail
        go_ret
        refine ⟨by rw [HB.out]; first | rfl | simp, ?_⟩
        have := HG.out
        subst this
        exact b0.trans (r0.mono b0.size)
      · refine rg_take (v := ?_) 22 rfl (by kernel_rfl) (by kernel_rfl) (by kernel_rfl) (fun _ _ _ h => h) (by rfl) ?_ ?_; rotate_left
        · (intro x hx; go_simp; first | done | with_reducible rfl | (rw [if_pos (by omega)]; try with_reducible rfl) | (rw [if_neg (by omega)]; try with_reducible rfl))
        try simp only [Act.put, List.setIfInBounds_toArray, List.set_cons_zero, List.set_cons_succ]
        refine rg_take (v := ?_) 23 rfl (by kernel_rfl) (by kernel_rfl) (by kernel_rfl) (fun _ _ _ h => h) (by rfl) ?_ ?_; rotate_left
        · (intro x hx; go_simp; first | done | with_reducible rfl | (rw [if_pos (by omega)]; try with_reducible rfl) | (rw [if_neg (by omega)]; try with_reducible rfl))
        try simp only [Act.put, List.setIfInBounds_toArray, List.set_cons_zero, List.set_cons_succ]
        refine rg_step 24 rfl (by kernel_rfl) (by rfl) (fun K hK => ?_)
        go_simp
        refine (group_any _ c.lm).mono ?_
        rw [E4.out]
        rintro e u1 ⟨rfl, p1⟩
        replace r0 := r0.trans (p1.mono r0.size)
        have f0 := Ext.cells (w := u1) (M := fun _ => False) (below_at r0 P0 (heap_lt P0)) (fun h => h)
        refine hK.out _ _ (Ext.below_all _ p1) ?_
        clear hK K; try simp only [Act.put, List.setIfInBounds_toArray, List.set_cons_zero, List.set_cons_succ]
        refine rg_take (v := ?_) 25 rfl (by kernel_rfl) (by kernel_rfl) (by kernel_rfl) (fun _ _ _ h => h) (by rfl) ?_ ?_; rotate_left
        · (intro x hx; go_simp; first | done | with_reducible rfl | (rw [if_pos (by omega)]; try with_reducible rfl) | (rw [if_neg (by omega)]; try with_reducible rfl))
        try simp only [Act.put, List.setIfInBounds_toArray, List.set_cons_zero, List.set_cons_succ]
        refine rg_take (v := ?_) 26 rfl (by kernel_rfl) (by kernel_rfl) (by kernel_rfl) (fun _ _ _ h => h) (by rfl) ?_ ?_; rotate_left
        · (intro x hx; go_simp; first | done | with_reducible rfl | (rw [if_pos (by omega)]; try with_reducible rfl) | (rw [if_neg (by omega)]; try with_reducible rfl))
        try simp only [Act.put, List.setIfInBounds_toArray, List.set_cons_zero, List.set_cons_succ]
        refine rg_take (v := ?_) 27 rfl (by kernel_rfl) (by kernel_rfl) (by kernel_rfl) (fun _ _ _ h => h) (by rfl) ?_ ?_; rotate_left
        · (intro x hx; go_simp; first | done | with_reducible rfl | (rw [if_pos (by omega)]; try with_reducible rfl) | (rw [if_neg (by omega)]; try with_reducible rfl))
        try simp only [Act.put, List.setIfInBounds_toArray, List.set_cons_zero, List.set_cons_succ]
        rcases t4 with _ | _
        · refine rg_take (v := ?_) 28 rfl (by kernel_rfl) (by kernel_rfl) (by kernel_rfl) (fun _ _ _ h => h) (by rfl) ?_ ?_; rotate_left
          · (intro x hx; go_simp; first | done | with_reducible rfl | (rw [if_pos (by omega)]; try with_reducible rfl) | (rw [if_neg (by omega)]; try with_reducible rfl))
          try simp only [Act.put, List.setIfInBounds_toArray, List.set_cons_zero, List.set_cons_succ]
          refine rg_take (v := ?_) 29 rfl (by kernel_rfl) (by kernel_rfl) (by kernel_rfl) (fun _ _ _ h => h) (by rfl) ?_ ?_; rotate_left
          · (intro x hx; go_simp; first | done | with_reducible rfl | (rw [if_pos (by omega)]; try with_reducible rfl) | (rw [if_neg (by omega)]; try with_reducible rfl))
          try simp only [Act.put, List.setIfInBounds_toArray, List.set_cons_zero, List.set_cons_succ]
          refine rg_step 30 rfl (by kernel_rfl) (by rfl) (fun K hK => ?_)
          go_simp
          refine (group_any _ c.wm).mono ?_
          rw [E5.out]
          rintro e u1 ⟨rfl, p1⟩
          replace r0 := r0.trans (p1.mono r0.size)
          refine hK.out _ _ (Ext.below_all _ p1) ?_
          clear hK K; try simp only [Act.put, List.setIfInBounds_toArray, List.set_cons_zero, List.set_cons_succ]
          refine rg_take (v := ?_) 31 rfl (by kernel_rfl) (by kernel_rfl) (by kernel_rfl) (fun _ _ _ h => h) (by rfl) ?_ ?_; rotate_left
          · (intro x hx; go_simp; first | done | with_reducible rfl | (rw [if_pos (by omega)]; try with_reducible rfl) | (rw [if_neg (by omega)]; try with_reducible rfl))
          try simp only [Act.put, List.setIfInBounds_toArray, List.set_cons_zero, List.set_cons_succ]
          refine rg_take (v := ?_) 32 rfl (by kernel_rfl) (by kernel_rfl) (by kernel_rfl) (fun _ _ _ h => h) (by rfl) ?_ ?_; rotate_left
          · (intro x hx; go_simp; first | done | with_reducible rfl | (rw [if_pos (by omega)]; try with_reducible rfl) | (rw [if_neg (by omega)]; try with_reducible rfl))
          try simp only [Act.put, List.setIfInBounds_toArray, List.set_cons_zero, List.set_cons_succ]
          refine rg_take (v := ?_) 33 rfl (by kernel_rfl) (by kernel_rfl) (by kernel_rfl) (fun _ _ _ h => h) (by rfl) ?_ ?_; rotate_left
          · (intro x hx; go_simp; first | done | with_reducible rfl | (rw [if_pos (by omega)]; try with_reducible rfl) | (rw [if_neg (by omega)]; try with_reducible rfl))
          try simp only [Act.put, List.setIfInBounds_toArray, List.set_cons_zero, List.set_cons_succ]
          refine rg_done (by kernel_rfl) ?_
          --TAIL
          go_wp2_with fail
          go_ret
          refine ⟨by rw [HB.out]; first | rfl | simp, ?_⟩
          have := HG.out
          subst this
          exact b0.trans (r0.mono b0.size)
        · refine rg_skip 28 rfl (by kernel_rfl) (by kernel_rfl) (by kernel_rfl) (fun _ _ _ h => h) (by rfl) ?_; simp only [Act.put, List.setIfInBounds_toArray, List.set_cons_zero, List.set_cons_succ]
          refine rg_skip 29 rfl (by kernel_rfl) (by kernel_rfl) (by kernel_rfl) (fun _ _ _ h => h) (by rfl) ?_; simp only [Act.put, List.setIfInBounds_toArray, List.set_cons_zero, List.set_cons_succ]
          refine rg_skip 30 rfl (by kernel_rfl) (by kernel_rfl) (by kernel_rfl) (fun _ _ _ h => h) (by rfl) ?_; simp only [Act.put, List.setIfInBounds_toArray, List.set_cons_zero, List.set_cons_succ]
          refine rg_skip 31 rfl (by kernel_rfl) (by kernel_rfl) (by kernel_rfl) (fun _ _ _ h => h) (by rfl) ?_; simp only [Act.put, List.setIfInBounds_toArray, List.set_cons_zero, List.set_cons_succ]
          refine rg_take (v := ?_) 32 rfl (by kernel_rfl) (by kernel_rfl) (by kernel_rfl) (fun _ _ _ h => h) (by rfl) ?_ ?_; rotate_left
          · (intro x hx; go_simp; first | done | with_reducible rfl | (rw [if_pos (by omega)]; try with_reducible rfl) | (rw [if_neg (by omega)]; try with_reducible rfl))
          try simp only [Act.put, List.setIfInBounds_toArray, List.set_cons_zero, List.set_cons_succ]
          refine rg_take (v := ?_) 33 rfl (by kernel_rfl) (by kernel_rfl) (by kernel_rfl) (fun _ _ _ h => h) (by rfl) ?_ ?_; rotate_left
          · (intro x hx; go_simp; first | done | with_reducible rfl | (rw [if_pos (by omega)]; try with_reducible rfl) | (rw [if_neg (by omega)]; try with_reducible rfl))
          try simp only [Act.put, List.setIfInBounds_toArray, List.set_cons_zero, List.set_cons_succ]
          refine rg_done (by kernel_rfl) ?_
          --TAIL
          go_wp2_with fail
          go_ret
          refine ⟨by rw [HB.out]; first | rfl | simp, ?_⟩
          have := HG.out
          subst this
          exact b0.trans (r0.mono b0.size)
end
section
open Go.RowKit

def poolB (c : Cf) : Bool := inB c c.fst && inB c c.lst && decide (numA c.fst ≤ numA c.lst) && decide (numA c.lst < numA c.fst + 64) && (decide (numA c.own < numA c.fst) || decide (numA c.lst < numA c.own))
set_option maxRecDepth 100000 in
set_option maxHeartbeats 4000000 in
theorem pool_any (w : World) (c : Cf) (vf vo : Value) : Calls Tryz.prog 208 #[.agg (cfC c vf vo)] w (fun e w' => e = .returned (.bool (poolB c)) ∧ Below w.heap.size w w') := by
  have hB : poolB c = (inB c c.fst && inB c c.lst && decide (numA c.fst ≤ numA c.lst) && decide (numA c.lst < numA c.fst + 64) && (decide (numA c.own < numA c.fst) || decide (numA c.lst < numA c.own))) := rfl
  have hfm := numA_lt c.fst
  have hlm := numA_lt c.lst
  obtain ⟨t1, h1⟩ : ∃ b, inB c c.fst = b := ⟨_, rfl⟩
  obtain ⟨t2, h2⟩ : ∃ b, inB c c.lst = b := ⟨_, rfl⟩
  obtain ⟨nf, hnf⟩ : ∃ n, numA c.fst = n := ⟨_, rfl⟩
  obtain ⟨nl, hnl⟩ : ∃ n, numA c.lst = n := ⟨_, rfl⟩
  obtain ⟨no, hno⟩ : ∃ n, numA c.own = n := ⟨_, rfl⟩
  rw [h1, h2, hnf, hnl, hno] at hB
  rw [hnf] at hfm
  rw [hnl] at hlm
  have E1 := Lib.hid h1
  have E2 := Lib.hid h2
  have NF := Lib.hid hnf
  have NL := Lib.hid hnl
  have NO := Lib.hid hno
  have HB := Lib.hid hB
  clear h1 h2 hnf hnl hno hB
  have P0 := heap_alloc_new w (.cells (cfC c vf vo) 76)
  have b0 : Below w.heap.size w (w.alloc (.cells (cfC c vf vo) 76)) := (Below.refl _ w).alloc (Nat.le_refl _) _
  go_enter Tryz.func208, Tryz.ntmps208
  go_upto_region 1 with fail
  generalize w.alloc (.cells (cfC c vf vo) 76) = w1 at P0 b0 ⊢
  obtain ⟨g, hg⟩ : ∃ g, w.heap.size = g := ⟨_, rfl⟩
  rw [hg] at P0 ⊢
  have HG := Lib.hid hg
  clear hg
  have r0 : Below w1.heap.size w1 w1.drew := (Below.refl _ _).drew
  have f0 := Ext.cells (w := w1.drew) (M := fun _ => False) P0 (fun h => h)
  refine rg_begin (fun _ => False) (by kernel_rfl) ?_
  refine rg_take (v := ?_) 0 rfl (by kernel_rfl) (by kernel_rfl) (by kernel_rfl) (fun _ _ _ h => h) (by rfl) ?_ ?_; rotate_left
  · (intro x hx; go_simp; first | done | with_reducible rfl | (rw [if_pos (by omega)]; try with_reducible rfl) | (rw [if_neg (by omega)]; try with_reducible rfl))
  try simp only [Act.put, List.setIfInBounds_toArray, List.set_cons_zero, List.set_cons_succ]
  refine rg_take (v := ?_) 1 rfl (by kernel_rfl) (by kernel_rfl) (by kernel_rfl) (fun _ _ _ h => h) (by rfl) ?_ ?_; rotate_left
  · (intro x hx; go_simp; first | done | with_reducible rfl | (rw [if_pos (by omega)]; try with_reducible rfl) | (rw [if_neg (by omega)]; try with_reducible rfl))
  try simp only [Act.put, List.setIfInBounds_toArray, List.set_cons_zero, List.set_cons_succ]
  refine rg_take (v := ?_) 3 rfl (by kernel_rfl) (by kernel_rfl) (by kernel_rfl) (fun _ _ _ h => h) (by rfl) ?_ ?_; rotate_left
  · (intro x hx; go_simp; first | done | with_reducible rfl | (rw [if_pos (by omega)]; try with_reducible rfl) | (rw [if_neg (by omega)]; try with_reducible rfl))
  try simp only [Act.put, List.setIfInBounds_toArray, List.set_cons_zero, List.set_cons_succ]
  refine rg_take (v := ?_) 4 rfl (by kernel_rfl) (by kernel_rfl) (by kernel_rfl) (fun _ _ _ h => h) (by rfl) ?_ ?_; rotate_left
  · (intro x hx; go_simp; first | done | with_reducible rfl | (rw [if_pos (by omega)]; try with_reducible rfl) | (rw [if_neg (by omega)]; try with_reducible rfl))
  try simp only [Act.put, List.setIfInBounds_toArray, List.set_cons_zero, List.set_cons_succ]
  refine rg_take (v := ?_) 6 rfl (by kernel_rfl) (by kernel_rfl) (by kernel_rfl) (fun _ _ _ h => h) (by rfl) ?_ ?_; rotate_left
  · (intro x hx; go_simp; first | done | with_reducible rfl | (rw [if_pos (by omega)]; try with_reducible rfl) | (rw [if_neg (by omega)]; try with_reducible rfl))
  try simp only [Act.put, List.setIfInBounds_toArray, List.set_cons_zero, List.set_cons_succ]
  refine rg_take (v := ?_) 7 rfl (by kernel_rfl) (by kernel_rfl) (by kernel_rfl) (fun _ _ _ h => h) (by rfl) ?_ ?_; rotate_left
  · (intro x hx; go_simp; first | done | with_reducible rfl | (rw [if_pos (by omega)]; try with_reducible rfl) | (rw [if_neg (by omega)]; try with_reducible rfl))
  try simp only [Act.put, List.setIfInBounds_toArray, List.set_cons_zero, List.set_cons_succ]
  refine rg_step 2 rfl (by kernel_rfl) (by rfl) (fun K hK => ?_)
  go_simp
  refine (numa_any _ c.fst).mono ?_
  rw [NF.out]
  rintro e u1 ⟨rfl, p1⟩
  replace r0 := r0.trans (p1.mono r0.size)
  refine hK.out _ _ (Ext.below_all _ p1) ?_
  clear hK K; try simp only [Act.put, List.setIfInBounds_toArray, List.set_cons_zero, List.set_cons_succ]
  refine rg_step 5 rfl (by kernel_rfl) (by rfl) (fun K hK => ?_)
  go_simp
  refine (numa_any _ c.lst).mono ?_
  rw [NL.out]
  rintro e u2 ⟨rfl, p1⟩
  replace r0 := r0.trans (p1.mono r0.size)
  refine hK.out _ _ (Ext.below_all _ p1) ?_
  clear hK K; try simp only [Act.put, List.setIfInBounds_toArray, List.set_cons_zero, List.set_cons_succ]
  refine rg_step 8 rfl (by kernel_rfl) (by rfl) (fun K hK => ?_)
  go_simp
  refine (numa_any _ c.own).mono ?_
  rw [NO.out]
  rintro e u3 ⟨rfl, p1⟩
  replace r0 := r0.trans (p1.mono r0.size)
  refine hK.out _ _ (Ext.below_all _ p1) ?_
  clear hK K; try simp only [Act.put, List.setIfInBounds_toArray, List.set_cons_zero, List.set_cons_succ]
  refine rg_take (v := ?_) 9 rfl (by kernel_rfl) (by kernel_rfl) (by kernel_rfl) (fun _ _ _ h => h) (by rfl) ?_ ?_; rotate_left
  · (intro x hx; go_simp; first | done | with_reducible rfl | (rw [if_pos (by omega)]; try with_reducible rfl) | (rw [if_neg (by omega)]; try with_reducible rfl))
  try simp only [Act.put, List.setIfInBounds_toArray, List.set_cons_zero, List.set_cons_succ]
  refine rg_take (v := ?_) 10 rfl (by kernel_rfl) (by kernel_rfl) (by kernel_rfl) (fun _ _ _ h => h) (by rfl) ?_ ?_; rotate_left
  · (intro x hx; go_simp; first | done | with_reducible rfl | (rw [if_pos (by omega)]; try with_reducible rfl) | (rw [if_neg (by omega)]; try with_reducible rfl))
  try simp only [Act.put, List.setIfInBounds_toArray, List.set_cons_zero, List.set_cons_succ]
  refine rg_take (v := ?_) 11 rfl (by kernel_rfl) (by kernel_rfl) (by kernel_rfl) (fun _ _ _ h => h) (by rfl) ?_ ?_; rotate_left
  · (intro x hx; go_simp; first | done | with_reducible rfl | (rw [if_pos (by omega)]; try with_reducible rfl) | (rw [if_neg (by omega)]; try with_reducible rfl))
  try simp only [Act.put, List.setIfInBounds_toArray, List.set_cons_zero, List.set_cons_succ]
  refine rg_done (by kernel_rfl) ?_
  have P3 := below_at r0 P0 (heap_lt P0)
  have b3 : Below g w u3 := by have := HG.out; subst this; exact b0.trans (r0.mono b0.size)
  have bs : g ≤ u3.heap.size := Nat.le_of_lt (heap_lt P3)
  clear P0 b0 r0 f0
  have f3 := (cells_of P3).1
  go_wp2_with (first | ((with_reducible apply at_load_row 76); (case hx => exact rfl); (case hg => exact P3); (case hu => exact Tryz.underlying76); (case hd => rfl); (case hi => kernel_rfl)) | ((with_reducible apply at_load_guard 76); (case hx => exact rfl); (case hg => exact P3); (case hw => first | rfl | kernel_rfl); (case hu => exact Tryz.underlying76); (case hd => rfl); (case hi => kernel_rfl)))
  refine (inner_any u3 c vf vo c.fst).mono ?_
  rw [E1.out]
  rintro e u4 ⟨rfl, q4⟩
  have P4 := below_at q4 P3 (heap_lt P3)
  have b4 := b3.trans (q4.mono bs)
  replace bs := Nat.le_trans bs q4.size
  clear P3 b3 q4 f3
  rcases t1 with _ | _
  · go_wp2_with fail
    go_ret
    exact ⟨by rw [HB.out]; rfl, by rw [HG.out]; exact b4⟩
  have f4 := (cells_of P4).1
  go_wp2_with (first | ((with_reducible apply at_load_row 76); (case hx => exact rfl); (case hg => exact P4); (case hu => exact Tryz.underlying76); (case hd => rfl); (case hi => kernel_rfl)) | ((with_reducible apply at_load_guard 76); (case hx => exact rfl); (case hg => exact P4); (case hw => first | rfl | kernel_rfl); (case hu => exact Tryz.underlying76); (case hd => rfl); (case hi => kernel_rfl)))
  refine (inner_any u4 c vf vo c.lst).mono ?_
  rw [E2.out]
  rintro e u5 ⟨rfl, q4⟩
  have b5 := b4.trans (q4.mono bs)
  clear P4 b4 q4 f4
  rcases t2 with _ | _
  · go_wp2_with fail
    go_ret
    exact ⟨by rw [HB.out]; rfl, by rw [HG.out]; exact b5⟩
  rcases Nat.lt_or_ge nl nf with h3 | h3
  · have d1 : decide ((nf : Int) ≤ (nl : Int)) = false := decide_eq_false (by omega)
    have d2 : decide (nf ≤ nl) = false := decide_eq_false (by omega)
    go_wp2_with fail
    go_ret
    exact ⟨by rw [HB.out, d2]; rfl, by rw [HG.out]; exact b5⟩
  have d1 : decide ((nf : Int) ≤ (nl : Int)) = true := decide_eq_true (by omega)
  have d2 : decide (nf ≤ nl) = true := decide_eq_true h3
  have hw : IntKind.u32.wrap ((nl : Int) - (nf : Int)) = (nl : Int) - (nf : Int) := by rw [show IntKind.u32.wrap ((nl : Int) - (nf : Int)) = ((nl : Int) - (nf : Int)) % 4294967296 by simp [IntKind.wrap, IntKind.bits, IntKind.signed]]; omega
  rcases Nat.lt_or_ge nl (nf + 64) with h4 | h4
  case inr =>
    have d3 : decide ((nl : Int) - (nf : Int) < 64) = false := decide_eq_false (by omega)
    have d4 : decide (nl < nf + 64) = false := decide_eq_false (by omega)
    clear h3 h4
    go_wp2_with fail
    go_ret
    exact ⟨by rw [HB.out, d2, d4]; rfl, by rw [HG.out]; exact b5⟩
  have d3 : decide ((nl : Int) - (nf : Int) < 64) = true := decide_eq_true (by omega)
  have d4 : decide (nl < nf + 64) = true := decide_eq_true h4
  clear h3 h4
  rcases Nat.lt_or_ge no nf with h5 | h5
  · have d5 : decide ((no : Int) < (nf : Int)) = true := decide_eq_true (by omega)
    have d6 : decide (no < nf) = true := decide_eq_true h5
    clear h5
    go_wp2_with fail
    go_ret
    exact ⟨by rw [HB.out, d2, d4, d6]; rfl, by rw [HG.out]; exact b5⟩
  have d5 : decide ((no : Int) < (nf : Int)) = false := decide_eq_false (by omega)
  have d6 : decide (no < nf) = false := decide_eq_false (by omega)
  clear h5
  rcases Nat.lt_or_ge nl no with h5 | h5
  · have d7 : decide ((nl : Int) < (no : Int)) = true := decide_eq_true (by omega)
    have d8 : decide (nl < no) = true := decide_eq_true h5
    clear h5
    go_wp2_with fail
    go_ret
    exact ⟨by rw [HB.out, d2, d4, d6, d8]; rfl, by rw [HG.out]; exact b5⟩
  · have d7 : decide ((nl : Int) < (no : Int)) = false := decide_eq_false (by omega)
    have d8 : decide (nl < no) = false := decide_eq_false (by omega)
    clear h5
    go_wp2_with fail
    go_ret
    exact ⟨by rw [HB.out, d2, d4, d6, d8]; rfl, by rw [HG.out]; exact b5⟩
theorem flow_any (w : World) (v : Int) : Calls Tryz.prog 310 #[.int .i64 v] w (fun e w' => e = .returned (.bool (inR v 10 86400)) ∧ w' = w) := by
  go_enter Tryz.func310, Tryz.ntmps310
  go_wp2_with fail
  refine (within_any w v 10 86400).mono ?_
  rintro e w1 ⟨rfl, rfl⟩
  go_wp2_with fail
  go_ret
  exact ⟨rfl, rfl⟩
end
section
open Go.RowKit

def timesB (c : Cf) : Bool := inR c.time 60 86400 && decide (1 ≤ c.dns.a.toNat) && decide (c.dns.a.toNat ≤ 223) && inR c.udp 10 86400 && inR c.tcp 10 86400 && inR c.icmp 10 86400 && inR c.low 1024 60000
set_option maxRecDepth 100000 in
set_option maxHeartbeats 4000000 in
theorem times_any (w : World) (c : Cf) (vf vo : Value) : Calls Tryz.prog 209 #[.agg (cfC c vf vo)] w (fun e w' => e = .returned (.bool (timesB c)) ∧ Below w.heap.size w w') := by
  have hB : timesB c = (inR c.time 60 86400 && decide (1 ≤ c.dns.a.toNat) && decide (c.dns.a.toNat ≤ 223) && inR c.udp 10 86400 && inR c.tcp 10 86400 && inR c.icmp 10 86400 && inR c.low 1024 60000) := rfl
  obtain ⟨t1, h1⟩ : ∃ b, inR c.time 60 86400 = b := ⟨_, rfl⟩
  obtain ⟨t2, h2⟩ : ∃ b, inR c.udp 10 86400 = b := ⟨_, rfl⟩
  obtain ⟨t3, h3⟩ : ∃ b, inR c.tcp 10 86400 = b := ⟨_, rfl⟩
  obtain ⟨t4, h4⟩ : ∃ b, inR c.icmp 10 86400 = b := ⟨_, rfl⟩
  obtain ⟨t5, h5⟩ : ∃ b, inR c.low 1024 60000 = b := ⟨_, rfl⟩
  rw [h1, h2, h3, h4, h5] at hB
  have E1 := Lib.hid h1
  have E2 := Lib.hid h2
  have E3 := Lib.hid h3
  have E4 := Lib.hid h4
  have E5 := Lib.hid h5
  have HB := Lib.hid hB
  clear h1 h2 h3 h4 h5 hB
  have P0 := heap_alloc_new w (.cells (cfC c vf vo) 76)
  have b0 : Below w.heap.size w (w.alloc (.cells (cfC c vf vo) 76)) := (Below.refl _ w).alloc (Nat.le_refl _) _
  go_enter Tryz.func209, Tryz.ntmps209
  go_upto_region 1 with fail
  generalize w.alloc (.cells (cfC c vf vo) 76) = w1 at P0 b0 ⊢
  have f0 := (cells_of P0).1
  clear P0
  go_wp2_with fail
  refine (within_any w1 c.time 60 86400).mono ?_
  rw [E1.out]
  rintro e w2 ⟨rfl, rfl⟩
  rcases t1 with _ | _
  · go_wp2_with fail
    go_ret
    exact ⟨by rw [HB.out]; rfl, b0⟩
  rcases Nat.lt_or_ge c.dns.a.toNat 1 with k1 | k1
  · have d1 : decide (1 ≤ (c.dns.a.toNat : Int)) = false := decide_eq_false (by omega)
    have d2 : decide (1 ≤ c.dns.a.toNat) = false := decide_eq_false (by omega)
    clear k1
    go_wp2_with fail
    go_ret
    exact ⟨by rw [HB.out, d2]; rfl, b0⟩
  have d1 : decide (1 ≤ (c.dns.a.toNat : Int)) = true := decide_eq_true (by omega)
  have d2 : decide (1 ≤ c.dns.a.toNat) = true := decide_eq_true k1
  clear k1
  rcases Nat.lt_or_ge 223 c.dns.a.toNat with k1 | k1
  · have d3 : decide ((c.dns.a.toNat : Int) ≤ 223) = false := decide_eq_false (by omega)
    have d4 : decide (c.dns.a.toNat ≤ 223) = false := decide_eq_false (by omega)
    clear k1
    go_wp2_with fail
    go_ret
    exact ⟨by rw [HB.out, d2, d4]; rfl, b0⟩
  have d3 : decide ((c.dns.a.toNat : Int) ≤ 223) = true := decide_eq_true (by omega)
  have d4 : decide (c.dns.a.toNat ≤ 223) = true := decide_eq_true k1
  clear k1
  go_wp2_with fail
  refine (flow_any w2 c.udp).mono ?_
  rw [E2.out]
  rintro e w2 ⟨rfl, rfl⟩
  rcases t2 with _ | _
  · go_wp2_with fail
    go_ret
    exact ⟨by rw [HB.out, d2, d4]; rfl, b0⟩
  go_wp2_with fail
  refine (flow_any w2 c.tcp).mono ?_
  rw [E3.out]
  rintro e w2 ⟨rfl, rfl⟩
  rcases t3 with _ | _
  · go_wp2_with fail
    go_ret
    exact ⟨by rw [HB.out, d2, d4]; rfl, b0⟩
  go_wp2_with fail
  refine (flow_any w2 c.icmp).mono ?_
  rw [E4.out]
  rintro e w2 ⟨rfl, rfl⟩
  rcases t4 with _ | _
  · go_wp2_with fail
    go_ret
    exact ⟨by rw [HB.out, d2, d4]; rfl, b0⟩
  go_wp2_with fail
  refine (within_any w2 c.low 1024 60000).mono ?_
  rw [E5.out]
  rintro e w2 ⟨rfl, rfl⟩
  go_wp2_with fail
  go_ret
  exact ⟨by rw [HB.out, d2, d4]; rfl, b0⟩
abbrev nilS : Value := .slice none 0 0
set_option maxRecDepth 100000 in
set_option maxHeartbeats 4000000 in
theorem fixed_nil (w : World) (c : Cf) (vo : Value) : Calls Tryz.prog 210 #[.agg (cfC c nilS vo)] w (fun e w' => e = .returned (.bool true) ∧ Below w.heap.size w w') := by
  have P0 : (((w.alloc (.cells (cfC c nilS vo) 76)).alloc (.map #[] 0)).alloc (.map #[] 0)).heap[w.heap.size]? = some (.cells (cfC c nilS vo) 76 (0, 0)) := heap_alloc_of (heap_alloc_of (heap_alloc_new w _))
  have b0 : Below w.heap.size w (((w.alloc (.cells (cfC c nilS vo) 76)).alloc (.map #[] 0)).alloc (.map #[] 0)) := (((Below.refl _ w).alloc (Nat.le_refl _) _).alloc (by simp) _).alloc (by simp; omega) _
  have hmm := @run_makeMap Tryz.prog
  go_enter Tryz.func210, Tryz.ntmps210
  go_upto_region 2 with fail
  generalize ((w.alloc (.cells (cfC c nilS vo) 76)).alloc (.map #[] 0)).alloc (.map #[] 0) = w1 at P0 b0 ⊢
  have f0 := (cells_of P0).1
  clear P0
  go_wp2_with fail
  go_loopw [12] (fun i wr => i = .int .i64 0 ∧ wr = w1) (fun _ _ => 0)
  case atStart => exact ⟨rfl, rfl⟩
  case round =>
    obtain ⟨rfl, rfl⟩ := hrel
    go_wp2_with fail
    go_ret
    exact ⟨rfl, b0⟩
set_option maxRecDepth 100000 in
set_option maxHeartbeats 4000000 in
theorem open_nil (w : World) (c : Cf) (vf : Value) : Calls Tryz.prog 211 #[.agg (cfC c vf nilS)] w (fun e w' => e = .returned (.bool true) ∧ Below w.heap.size w w') := by
  have P0 : ((w.alloc (.cells (cfC c vf nilS) 76)).alloc (.map #[] 0)).heap[w.heap.size]? = some (.cells (cfC c vf nilS) 76 (0, 0)) := heap_alloc_of (heap_alloc_new w _)
  have b0 : Below w.heap.size w ((w.alloc (.cells (cfC c vf nilS) 76)).alloc (.map #[] 0)) := ((Below.refl _ w).alloc (Nat.le_refl _) _).alloc (by simp) _
  have hmm := @run_makeMap Tryz.prog
  go_enter Tryz.func211, Tryz.ntmps211
  go_upto_region 2 with fail
  generalize (w.alloc (.cells (cfC c vf nilS) 76)).alloc (.map #[] 0) = w1 at P0 b0 ⊢
  have f0 := (cells_of P0).1
  clear P0
  go_wp2_with fail
  go_loopw [11] (fun i wr => i = .int .i64 0 ∧ wr = w1) (fun _ _ => 0)
  case atStart => exact ⟨rfl, rfl⟩
  case round =>
    obtain ⟨rfl, rfl⟩ := hrel
    go_wp2_with fail
    go_ret
    exact ⟨rfl, b0⟩
def checkB (c : Cf) : Bool := netB c && poolB c && timesB c
def chkE (c : Cf) : Int := if checkB c = true then 0 else 1
set_option maxRecDepth 100000 in
set_option maxHeartbeats 4000000 in
theorem check_any (w : World) (c : Cf) : Calls Tryz.prog 99 #[.agg (cfC c nilS nilS)] w (fun e w' => e = .returned (.int .i64 (chkE c)) ∧ Below w.heap.size w w') := by
  have hB : chkE c = (if (netB c && poolB c && timesB c) = true then 0 else 1) := rfl
  obtain ⟨t1, h1⟩ : ∃ b, netB c = b := ⟨_, rfl⟩
  obtain ⟨t2, h2⟩ : ∃ b, poolB c = b := ⟨_, rfl⟩
  obtain ⟨t3, h3⟩ : ∃ b, timesB c = b := ⟨_, rfl⟩
  rw [h1, h2, h3] at hB
  have E1 := Lib.hid h1
  have E2 := Lib.hid h2
  have E3 := Lib.hid h3
  have HB := Lib.hid hB
  clear h1 h2 h3 hB
  have P0 := heap_alloc_new w (.cells (cfC c nilS nilS) 76)
  have b0 : Below w.heap.size w (w.alloc (.cells (cfC c nilS nilS) 76)) := (Below.refl _ w).alloc (Nat.le_refl _) _
  go_enter Tryz.func99, Tryz.ntmps99
  go_upto_region 1 with fail
  generalize w.alloc (.cells (cfC c nilS nilS) 76) = w1 at P0 b0 ⊢
  go_wp2_with (first | ((with_reducible apply at_load_row 76); (case hx => exact rfl); (case hg => exact P0); (case hu => exact Tryz.underlying76); (case hd => rfl); (case hi => kernel_rfl)) | ((with_reducible apply at_load_guard 76); (case hx => exact rfl); (case hg => exact P0); (case hw => first | rfl | kernel_rfl); (case hu => exact Tryz.underlying76); (case hd => rfl); (case hi => kernel_rfl)))
  refine (net_any w1 c nilS nilS).mono ?_
  rw [E1.out]
  rintro e w2 ⟨rfl, q2⟩
  have P1 := below_at q2 P0 (heap_lt P0)
  have b1 := b0.trans (q2.mono b0.size)
  clear P0 b0 q2
  rcases t1 with _ | _
  · go_wp2_with fail
    go_ret
    exact ⟨by rw [HB.out]; rfl, b1⟩
  go_wp2_with (first | ((with_reducible apply at_load_row 76); (case hx => exact rfl); (case hg => exact P1); (case hu => exact Tryz.underlying76); (case hd => rfl); (case hi => kernel_rfl)) | ((with_reducible apply at_load_guard 76); (case hx => exact rfl); (case hg => exact P1); (case hw => first | rfl | kernel_rfl); (case hu => exact Tryz.underlying76); (case hd => rfl); (case hi => kernel_rfl)))
  refine (pool_any w2 c nilS nilS).mono ?_
  rw [E2.out]
  rintro e w3 ⟨rfl, q3⟩
  have P2 := below_at q3 P1 (heap_lt P1)
  have b2 := b1.trans (q3.mono b1.size)
  clear P1 b1 q3
  rcases t2 with _ | _
  · go_wp2_with fail
    go_ret
    exact ⟨by rw [HB.out]; rfl, b2⟩
  go_wp2_with (first | ((with_reducible apply at_load_row 76); (case hx => exact rfl); (case hg => exact P2); (case hu => exact Tryz.underlying76); (case hd => rfl); (case hi => kernel_rfl)) | ((with_reducible apply at_load_guard 76); (case hx => exact rfl); (case hg => exact P2); (case hw => first | rfl | kernel_rfl); (case hu => exact Tryz.underlying76); (case hd => rfl); (case hi => kernel_rfl)))
  refine (times_any w3 c nilS nilS).mono ?_
  rw [E3.out]
  rintro e w4 ⟨rfl, q4⟩
  have P3 := below_at q4 P2 (heap_lt P2)
  have b3 := b2.trans (q4.mono b2.size)
  clear P2 b2 q4
  rcases t3 with _ | _
  · go_wp2_with fail
    go_ret
    exact ⟨by rw [HB.out]; rfl, b3⟩
  go_wp2_with (first | ((with_reducible apply at_load_row 76); (case hx => exact rfl); (case hg => exact P3); (case hu => exact Tryz.underlying76); (case hd => rfl); (case hi => kernel_rfl)) | ((with_reducible apply at_load_guard 76); (case hx => exact rfl); (case hg => exact P3); (case hw => first | rfl | kernel_rfl); (case hu => exact Tryz.underlying76); (case hd => rfl); (case hi => kernel_rfl)))
  refine (fixed_nil w4 c nilS).mono ?_
  rintro e w5 ⟨rfl, q5⟩
  have P4 := below_at q5 P3 (heap_lt P3)
  have b4 := b3.trans (q5.mono b3.size)
  clear P3 b3 q5
  go_wp2_with (first | ((with_reducible apply at_load_row 76); (case hx => exact rfl); (case hg => exact P4); (case hu => exact Tryz.underlying76); (case hd => rfl); (case hi => kernel_rfl)) | ((with_reducible apply at_load_guard 76); (case hx => exact rfl); (case hg => exact P4); (case hw => first | rfl | kernel_rfl); (case hu => exact Tryz.underlying76); (case hd => rfl); (case hi => kernel_rfl)))
  refine (open_nil w5 c nilS).mono ?_
  rintro e w6 ⟨rfl, q6⟩
  have P5 := below_at q6 P4 (heap_lt P4)
  have b5 := b4.trans (q6.mono b4.size)
  clear P4 b4 q6
  go_wp2_with fail
  go_ret
  exact ⟨by rw [HB.out]; rfl, b5⟩
end
end
section
section
open Go.RowKit

def oU : Ad4 := ⟨192, 168, 1, 1⟩
def usC : Cf := ⟨oU, firstA oU 24, 24, ⟨2, 0, 0, 0, 0, 1⟩, ⟨2, 0, 0, 0, 0, 2⟩, ⟨192, 168, 1, 100⟩, ⟨192, 168, 1, 131⟩, 3600, ⟨9, 9, 9, 9⟩, 120, 7200, 30, 40000⟩
def cf0 : Cf := ⟨⟨0, 0, 0, 0⟩, ⟨0, 0, 0, 0⟩, 0, ⟨0, 0, 0, 0, 0, 0⟩, ⟨0, 0, 0, 0, 0, 0⟩, ⟨0, 0, 0, 0⟩, ⟨0, 0, 0, 0⟩, 0, ⟨0, 0, 0, 0⟩, 0, 0, 0, 0⟩
abbrev cfZ : Array Value := cfC cf0 nilS nilS
theorem spliceZ (c : Cf) (vf vo : Value) : spliceAt cfZ 0 (cfC c vf vo).toList = cfC c vf vo := by simp [spliceAt]
theorem cfC_one (c : Cf) : (cfC c nilS nilS).all (·.oneCell') = true := by simp [Value.oneCell']
set_option maxRecDepth 100000 in
set_option maxHeartbeats 4000000 in
theorem usual_any (w : World) : Calls Tryz.prog 12 #[] w (fun e w' => e = .returned (.agg (cfC usC nilS nilS)) ∧ Below w.heap.size w w') := by
  have R0 : ((w.alloc (.cells cfZ 76)).alloc (.cells (adC oU) 26)).heap[w.heap.size]? = some (.cells cfZ 76 (0, 0)) := heap_alloc_of (heap_alloc_new w _)
  have A0 : ((w.alloc (.cells cfZ 76)).alloc (.cells (adC oU) 26)).heap[w.heap.size + 1]? = some (.cells (adC oU) 26 (0, 0)) := heap_alloc_at (by simp)
  have b0 : Below w.heap.size w ((w.alloc (.cells cfZ 76)).alloc (.cells (adC oU) 26)) := ((Below.refl _ w).alloc (Nat.le_refl _) _).alloc (by simp) _
  go_enter Tryz.func12, Tryz.ntmps12
  go_upto_region 2 with ((with_reducible apply at_store_new 26); (case hx => exact rfl); (case hy => exact rfl); (case hg => first | rfl | simp); (case hi => kernel_rfl); (case hold => rfl); (case h1 => kernel_rfl))
  simp only [Act.put]
  change Code.wp _ _ _ _ ((w.alloc (.cells cfZ 76)).alloc (.cells (adC oU) 26))
  generalize (w.alloc (.cells cfZ 76)).alloc (.cells (adC oU) 26) = w1 at R0 A0 b0 ⊢
  obtain ⟨g, hg⟩ : ∃ g, w.heap.size = g := ⟨_, rfl⟩
  rw [hg] at R0 A0 ⊢
  have HG := Lib.hid hg
  clear hg
  have r0 : Below w1.heap.size w1 w1.drew := (Below.refl _ _).drew
  have CA := Ext.at_ (M := fun k => k = g) (w := w1.drew) A0 (by omega)
  refine rg_begin (fun k => k = g) (by kernel_rfl) ?_
  refine rg_take (v := .agg (adC oU)) 0 rfl (by kernel_rfl) (by kernel_rfl) (by kernel_rfl) (fun _ _ _ h => h) (by rfl) ?_ ?_
  · (intro x hx; apply run_load_big; (case ho => exact rfl); (case hv => exact rfl); (case hg => exact CA x hx); (case hu => exact Tryz.underlying26); (case hd => rfl); (case hi => kernel_rfl))
  try simp only [Act.put, List.setIfInBounds_toArray, List.set_cons_zero, List.set_cons_succ]
  refine rg_take (v := .agg (adC oU)) 1 rfl (by kernel_rfl) (by kernel_rfl) (by kernel_rfl) (fun _ _ _ h => h) (by rfl) ?_ ?_
  · (intro x hx; apply run_load_big; (case ho => exact rfl); (case hv => exact rfl); (case hg => exact CA x hx); (case hu => exact Tryz.underlying26); (case hd => rfl); (case hi => kernel_rfl))
  try simp only [Act.put, List.setIfInBounds_toArray, List.set_cons_zero, List.set_cons_succ]
  refine rg_take (v := ?_) 3 rfl (by kernel_rfl) (by kernel_rfl) (by kernel_rfl) (fun _ _ _ h => h) (by rfl) ?_ ?_; rotate_left
  · (intro x hx; go_simp; first | done | with_reducible rfl | (rw [if_pos (by omega)]; try with_reducible rfl) | (rw [if_neg (by omega)]; try with_reducible rfl))
  try simp only [Act.put, List.setIfInBounds_toArray, List.set_cons_zero, List.set_cons_succ]
  refine rg_take (v := ?_) 4 rfl (by kernel_rfl) (by kernel_rfl) (by kernel_rfl) (fun _ _ _ h => h) (by rfl) ?_ ?_; rotate_left
  · (intro x hx; go_simp; first | done | with_reducible rfl | (rw [if_pos (by omega)]; try with_reducible rfl) | (rw [if_neg (by omega)]; try with_reducible rfl))
  try simp only [Act.put, List.setIfInBounds_toArray, List.set_cons_zero, List.set_cons_succ]
  refine rg_take (v := ?_) 5 rfl (by kernel_rfl) (by kernel_rfl) (by kernel_rfl) (fun _ _ _ h => h) (by rfl) ?_ ?_; rotate_left
  · (intro x hx; go_simp; first | done | with_reducible rfl | (rw [if_pos (by omega)]; try with_reducible rfl) | (rw [if_neg (by omega)]; try with_reducible rfl))
  try simp only [Act.put, List.setIfInBounds_toArray, List.set_cons_zero, List.set_cons_succ]
  refine rg_take (v := ?_) 6 rfl (by kernel_rfl) (by kernel_rfl) (by kernel_rfl) (fun _ _ _ h => h) (by rfl) ?_ ?_; rotate_left
  · (intro x hx; go_simp; first | done | with_reducible rfl | (rw [if_pos (by omega)]; try with_reducible rfl) | (rw [if_neg (by omega)]; try with_reducible rfl))
  try simp only [Act.put, List.setIfInBounds_toArray, List.set_cons_zero, List.set_cons_succ]
  refine rg_take (v := ?_) 7 rfl (by kernel_rfl) (by kernel_rfl) (by kernel_rfl) (fun _ _ _ h => h) (by rfl) ?_ ?_; rotate_left
  · (intro x hx; go_simp; first | done | with_reducible rfl | (rw [if_pos (by omega)]; try with_reducible rfl) | (rw [if_neg (by omega)]; try with_reducible rfl))
  try simp only [Act.put, List.setIfInBounds_toArray, List.set_cons_zero, List.set_cons_succ]
  refine rg_step 2 rfl (by kernel_rfl) (by rfl) (fun K hK => ?_)
  go_simp
  refine (netof_any _ oU 24).mono ?_
  rintro e u1 ⟨rfl, p1⟩
  replace r0 := r0.trans (p1.mono r0.size)
  have R1 := below_at r0 R0 (heap_lt R0)
  refine hK.out _ _ (Ext.below_all _ p1) ?_
  clear hK K; try simp only [Act.put, List.setIfInBounds_toArray, List.set_cons_zero, List.set_cons_succ]
  refine rg_take (v := ?_) 8 rfl (by kernel_rfl) (by kernel_rfl) (by kernel_rfl) (fun _ _ _ h => h) (by rfl) ?_ ?_; rotate_left
  · (intro x hx; go_simp; first | done | with_reducible rfl | (rw [if_pos (by omega)]; try with_reducible rfl) | (rw [if_neg (by omega)]; try with_reducible rfl))
  try simp only [Act.put, List.setIfInBounds_toArray, List.set_cons_zero, List.set_cons_succ]
  refine rg_step 9 rfl (by kernel_rfl) (by rfl) (fun K hK => ?_)
  --RAW
  apply wp_store_part 76
  case ho => exact rfl
  case hx => exact rfl
  case hy => exact (rfl : _ = Value.agg (cfC usC nilS nilS))
  case hg => exact R1
  case hle => simp
  case hi => kernel_rfl
  case h1 => exact cfC_one usC
  intro w5 g5 P5
  refine hK.out _ _ (Ext.of_grown (M := fun k => k = g) g5 (fun k h => by injection h with h; omega)) ?_
  clear hK K
  refine rg_done (by kernel_rfl) ?_
  go_wp2_with fail
  rw [spliceZ] at P5
  refine bodyPost_cell g _ _ _ rfl rfl P5 Tryz.underlying76 rfl (by kernel_rfl) rfl ⟨rfl, ?_⟩
  have bs := b0.size
  rw [HG.out] at b0 bs ⊢
  exact below_grown (b0.trans (r0.mono bs)) g5 (Nat.le_of_lt (heap_lt R1)) (Nat.le_refl _)
theorem SO.cap {w : World} {H n c : Nat} {A : Option Addr} {l : List (List UInt8)} (h : SO w H A n c l) : n ≤ c := by
  rcases h.2.2 with ⟨hv, _⟩ | ⟨_, _, _, hv, _, _, h5, _⟩
  · injection hv with _ e2 e3
    omega
  · injection hv with _ e2 e3
    omega
def linesV (t : List UInt8) : List (List UInt8) := if (cutB 10 t).getLast? = some [] then (cutB 10 t).dropLast else cutB 10 t
def LinesP (w : World) (t : List UInt8) (e : Ending) (w' : World) : Prop :=
  ∃ A n c, e = .returned (.slice A n c) ∧ n = (linesV t).length ∧ n ≤ c ∧ Row w' w'.heap.size A (sv (linesV t)) ∧ Below w.heap.size w w'
end
section
open Go.RowKit

def w32 (x : Int) : Int := x % 4294967296
theorem wrapU (x : Int) : IntKind.u32.wrap x = w32 x := by simp [IntKind.wrap, IntKind.bits, IntKind.signed, w32]
theorem w32_in (x : Int) : 0 ≤ w32 x ∧ w32 x < 4294967296 := by unfold w32; omega
end
end
end Go.Proofs.YtccbdaffjkdpgaaGreatDoor
