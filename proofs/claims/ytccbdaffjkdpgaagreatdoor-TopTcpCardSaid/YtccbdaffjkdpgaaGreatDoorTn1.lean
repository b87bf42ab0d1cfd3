/-
  What the gateway is made of: the functions New.
-/
import Derived.Test.YtccbdaffjkdpgaaGreatDoorTk
namespace Go.Proofs.YtccbdaffjkdpgaaGreatDoor
open Go.RowKit

/-- A pointer to something new, and no error. -/
def PtrPost (w : World) (e : Ending) (w' : World) : Prop := (∃ b, w.heap.size ≤ b ∧ e = .returned (.tuple #[.pointer (some ⟨b, 0, none⟩), .int .i64 0])) ∧ Below w.heap.size w w'
set_option maxRecDepth 100000 in
theorem nearNew_any (w : World) : Calls Tryz.prog 60 #[.int .i64 600] w (PtrPost w) := by
  go_enter Tryz.func60, Tryz.ntmps60
  go_wp2_with fail
  go_ret2
  exact ⟨⟨_, Nat.le_refl _, rfl⟩, (Below.refl _ w).alloc (Nat.le_refl _) _⟩
set_option maxRecDepth 100000 in
theorem portsNew_any (w : World) : Calls Tryz.prog 63 #[.int .i64 40000, .int .i64 128] w (PtrPost w) := by
  go_enter Tryz.func63, Tryz.ntmps63
  go_wp2_with fail
  go_ret2
  exact ⟨⟨_, Nat.le_refl _, rfl⟩, (Below.refl _ w).alloc (Nat.le_refl _) _⟩
set_option maxRecDepth 100000 in
theorem trackNew_any (w : World) : Calls Tryz.prog 173 #[.int .i64 128] w (PtrPost w) := by
  go_enter Tryz.func173, Tryz.ntmps173
  go_wp2_with fail
  go_ret2
  exact ⟨⟨_, Nat.le_refl _, rfl⟩, (Below.refl _ w).alloc (Nat.le_refl _) _⟩
set_option maxRecDepth 100000 in
theorem cacheNew_any (w : World) : Calls Tryz.prog 174 #[.int .i64 64] w (PtrPost w) := by
  go_enter Tryz.func174, Tryz.ntmps174
  go_wp2_with fail
  go_ret2
  exact ⟨⟨_, Nat.le_refl _, rfl⟩, (Below.refl _ w).alloc (Nat.le_refl _) _⟩
set_option maxRecDepth 100000 in
theorem askNew_any (w : World) : Calls Tryz.prog 66 #[.int .i64 32] w (PtrPost w) := by
  go_enter Tryz.func66, Tryz.ntmps66
  go_wp2_with fail
  refine (cacheNew_any w).mono ?_
  rintro e w1 ⟨⟨b, _, rfl⟩, q1⟩
  go_wp2_with fail
  go_ret2
  exact ⟨⟨_, q1.size, rfl⟩, q1.alloc q1.size _⟩
set_option maxRecDepth 100000 in
theorem pmpNew_any (w : World) (b : Nat) : Calls Tryz.prog 67 #[.pointer (some ⟨b, 0, none⟩), .int .i64 0] w (fun e w' => (∃ b', w.heap.size ≤ b' ∧ e = .returned (.pointer (some ⟨b', 0, none⟩))) ∧ Below w.heap.size w w') := by
  go_enter Tryz.func67, Tryz.ntmps67
  go_wp2_with fail
  go_ret
  exact ⟨⟨_, Nat.le_refl _, rfl⟩, (Below.refl _ w).alloc (Nat.le_refl _) _⟩
/-- A client's 38 cells, before anything. -/
abbrev clZ (m : Mac6) : Array Value := #[.int .u8 (m.a.toNat : Int), .int .u8 (m.b.toNat : Int), .int .u8 (m.c.toNat : Int), .int .u8 (m.d.toNat : Int), .int .u8 (m.e.toNat : Int), .int .u8 (m.f.toNat : Int), .int .i64 0, .int .i64 0, .int .u32 0,
  .int .u8 0, .int .u8 0, .int .u8 0, .int .u8 0, .int .u8 0, .int .u8 0, .int .u8 0, .int .u8 0, .int .u8 0, .int .u8 0, .int .u8 0, .int .u8 0, .int .u8 0, .int .u8 0, .int .u8 0, .int .u8 0, .int .i64 0, .int .i64 0,
  .int .u8 0, .int .u8 0, .int .u8 0, .int .u8 0, .int .u8 0, .int .u8 0, .int .u8 0, .int .u8 0, .int .i64 0, .int .i64 0, .int .i64 0]
set_option maxRecDepth 100000 in
theorem leaseNew_any (w : World) (m : Mac6) : Calls Tryz.prog 62 #[macV m] w (fun e w' => (∃ b, w.heap.size ≤ b ∧ e = .returned (.pointer (some ⟨b, 0, none⟩)) ∧ w'.heap[b]? = some (.cells (clZ m) 277 (0, 0))) ∧ Below w.heap.size w w') := by
  go_enter Tryz.func62, Tryz.ntmps62
  go_wp2_with fail
  go_ret
  exact ⟨⟨_, Nat.le_succ_of_le (Nat.le_refl _), by simp, heap_alloc_at (by simp)⟩, ((Below.refl _ w).alloc (Nat.le_refl _) _).alloc (by simp) _⟩
set_option maxRecDepth 100000 in
theorem cloneFx_nil (w : World) : Calls Tryz.prog 212 #[.slice none 0 0] w (fun e w' => e = .returned (.slice none 0 0) ∧ w' = w) := by
  have q : ∀ w, (binOp .eql 73 (.slice none 0 0) (.slice none 0 0)).run Tryz.prog w = .ok (.bool true) w := fun w => Lib.run_eql_slice_nil w _ _ none 0 0 0 0 Tryz.underlying73
  go_enter Tryz.func212, Tryz.ntmps212
  go_wp2_with fail
  go_ret
  exact ⟨rfl, rfl⟩
set_option maxRecDepth 100000 in
theorem cloneOp_nil (w : World) : Calls Tryz.prog 213 #[.slice none 0 0] w (fun e w' => e = .returned (.slice none 0 0) ∧ w' = w) := by
  have q : ∀ w, (binOp .eql 74 (.slice none 0 0) (.slice none 0 0)).run Tryz.prog w = .ok (.bool true) w := fun w => Lib.run_eql_slice_nil w _ _ none 0 0 0 0 Tryz.underlying74
  go_enter Tryz.func213, Tryz.ntmps213
  go_wp2_with fail
  go_ret
  exact ⟨rfl, rfl⟩
set_option maxRecDepth 100000 in
theorem cloneLs_nil (w : World) : Calls Tryz.prog 277 #[.slice none 0 0] w (fun e w' => e = .returned (.slice none 0 0) ∧ w' = w) := by
  have q : ∀ w, (binOp .eql 139 (.slice none 0 0) (.slice none 0 0)).run Tryz.prog w = .ok (.bool true) w := fun w => Lib.run_eql_slice_nil w _ _ none 0 0 0 0 Tryz.underlying139
  go_enter Tryz.func277, Tryz.ntmps277
  go_wp2_with fail
  go_ret
  exact ⟨rfl, rfl⟩
set_option maxRecDepth 100000 in
set_option maxHeartbeats 2000000 in
theorem natNew_any (w : World) (b : Nat) : Calls Tryz.prog 65 #[.pointer (some ⟨b, 0, none⟩), .agg #[.int .i64 120, .int .i64 7200, .int .i64 30]] w (PtrPost w) := by
  have P0 := heap_alloc_new w (.cells #[.int .i64 120, .int .i64 7200, .int .i64 30] 187)
  have b0 : Below w.heap.size w (w.alloc (.cells #[.int .i64 120, .int .i64 7200, .int .i64 30] 187)) := (Below.refl _ w).alloc (Nat.le_refl _) _
  go_enter Tryz.func65, Tryz.ntmps65
  go_upto_region 1 with fail
  generalize w.alloc (.cells #[.int .i64 120, .int .i64 7200, .int .i64 30] 187) = w0 at P0 b0 ⊢
  have f0 := (cells_of P0).1
  obtain ⟨g0, hg0⟩ : ∃ g, w.heap.size = g := ⟨_, rfl⟩
  rw [hg0] at f0 P0 ⊢
  have HG0 := Lib.hid hg0
  have hsz := b0.size
  clear hg0
  go_wp2_with fail
  have A1 := heap_alloc_new w0 (.cells #[.int .i64 120, .int .i64 7200, .int .i64 30] 3)
  have q1 : Below w0.heap.size w0 (w0.alloc (.cells #[.int .i64 120, .int .i64 7200, .int .i64 30] 3)) := (Below.refl _ w0).alloc (Nat.le_refl _) _
  have P1 := below_at q1 P0 (heap_lt P0)
  have b1 := b0.trans (q1.mono hsz)
  obtain ⟨g1, hg1⟩ : ∃ g, w0.heap.size = g := ⟨_, rfl⟩
  rw [hg1] at A1 ⊢
  generalize w0.alloc (.cells #[.int .i64 120, .int .i64 7200, .int .i64 30] 3) = w1 at A1 P1 b1 ⊢
  clear f0 P0 b0 q1 hg1 hsz
  go_loopw [18] (fun v wr => ∃ i : Nat, v = .int .i64 i ∧ i ≤ 3 ∧ wr = w1) (fun v _ => 3 - (intOf v).toNat)
  case atStart => exact ⟨0, rfl, by omega, rfl⟩
  case round =>
    obtain ⟨i, rfl, hi, rfl⟩ := hrel
    have f1 := (cells_of A1).1
    have f2 := (cells_of P1).1
    rcases (show i = 0 ∨ i = 1 ∨ i = 2 ∨ i = 3 by omega) with rfl | rfl | rfl | rfl
    · go_wp2_with fail
      go_roundw
      case rel => exact ⟨1, rfl, by omega, by first | rfl | trivial⟩
      case measure => simp [intOf]
    · go_wp2_with fail
      go_roundw
      case rel => exact ⟨2, rfl, by omega, by first | rfl | trivial⟩
      case measure => simp [intOf]
    · go_wp2_with fail
      go_roundw
      case rel => exact ⟨3, rfl, by omega, by first | rfl | trivial⟩
      case measure => simp [intOf]
    · go_wp2_with fail
      refine (trackNew_any wr).mono ?_
      rintro e w3 ⟨⟨b', _, rfl⟩, q3⟩
      have P3 := below_at q3 P1 (heap_lt P1)
      have f3 := (cells_of P3).1
      have b3 := b1.trans (q3.mono b1.size)
      clear f1 f2 P1 A1 q3 b1
      go_wp2_with fail
      go_ret2
      exact ⟨⟨_, b3.size, rfl⟩, b3.alloc b3.size _⟩
set_option maxRecDepth 100000 in
set_option maxHeartbeats 2000000 in
theorem poolNew_any (w : World) (a b : Ad4) (n1 : numA a = 3232235876) (n2 : numA b = 3232235907) : Calls Tryz.prog 168 #[adV a, adV b, .slice none 0 0] w (PtrPost w) := by
  have P0 : ((w.alloc (.cells (adC a) 26)).alloc (.cells (adC b) 26)).heap[w.heap.size]? = some (.cells (adC a) 26 (0, 0)) := heap_alloc_of (heap_alloc_new w _)
  have A0 : ((w.alloc (.cells (adC a) 26)).alloc (.cells (adC b) 26)).heap[w.heap.size + 1]? = some (.cells (adC b) 26 (0, 0)) := heap_alloc_at (by simp)
  have b0 : Below w.heap.size w ((w.alloc (.cells (adC a) 26)).alloc (.cells (adC b) 26)) := ((Below.refl _ w).alloc (Nat.le_refl _) _).alloc (by simp) _
  have hmm := @run_makeMap Tryz.prog
  have hc := cloneLs_nil
  go_enter Tryz.func168, Tryz.ntmps168
  go_upto_region 1 with fail
  change Code.wp _ _ _ _ ((w.alloc (.cells (adC a) 26)).alloc (.cells (adC b) 26))
  generalize (w.alloc (.cells (adC a) 26)).alloc (.cells (adC b) 26) = w0 at P0 A0 b0 ⊢
  obtain ⟨g, hg⟩ : ∃ g, w.heap.size = g := ⟨_, rfl⟩
  rw [hg] at P0 A0 ⊢
  have HG := Lib.hid hg
  have HB0 := Lib.hid b0
  clear hg b0
  have r0 : Below w0.heap.size w0 w0.drew := (Below.refl _ _).drew
  have f0 := Ext.cells (w := w0.drew) (M := fun _ => False) P0 (fun h => h)
  have f1 := Ext.cells (w := w0.drew) (M := fun _ => False) A0 (fun h => h)
  refine rg_begin (fun _ => False) (by kernel_rfl) ?_
  refine rg_take (v := ?_) 0 rfl (by kernel_rfl) (by kernel_rfl) (by kernel_rfl) (fun _ _ _ h => h) (by rfl) ?_ ?_; rotate_left
  · (intro x hx; go_simp; first | done | with_reducible rfl | (rw [if_pos (by omega)]; try with_reducible rfl) | (rw [if_neg (by omega)]; try with_reducible rfl))
  try simp only [Act.put, List.setIfInBounds_toArray, List.set_cons_zero, List.set_cons_succ]
  refine rg_take (v := ?_) 2 rfl (by kernel_rfl) (by kernel_rfl) (by kernel_rfl) (fun _ _ _ h => h) (by rfl) ?_ ?_; rotate_left
  · (intro x hx; go_simp; first | done | with_reducible rfl | (rw [if_pos (by omega)]; try with_reducible rfl) | (rw [if_neg (by omega)]; try with_reducible rfl))
  try simp only [Act.put, List.setIfInBounds_toArray, List.set_cons_zero, List.set_cons_succ]
  refine rg_step 1 rfl (by kernel_rfl) (by rfl) (fun K hK => ?_)
  go_simp
  refine (numa_any _ a).mono ?_
  rw [n1]
  rintro e u1 ⟨rfl, p1⟩
  replace r0 := r0.trans (p1.mono r0.size)
  have f1 := Ext.cells (w := u1) (M := fun _ => False) (below_at r0 A0 (heap_lt A0)) (fun h => h)
  refine hK.out _ _ (Ext.below_all _ p1) ?_
  clear hK K; try simp only [Act.put, List.setIfInBounds_toArray, List.set_cons_zero, List.set_cons_succ]
  refine rg_step 3 rfl (by kernel_rfl) (by rfl) (fun K hK => ?_)
  go_simp
  refine (numa_any _ b).mono ?_
  rw [n2]
  rintro e u2 ⟨rfl, p1⟩
  replace r0 := r0.trans (p1.mono r0.size)
  refine hK.out _ _ (Ext.below_all _ p1) ?_
  clear hK K; try simp only [Act.put, List.setIfInBounds_toArray, List.set_cons_zero, List.set_cons_succ]
  refine rg_take (v := ?_) 4 rfl (by kernel_rfl) (by kernel_rfl) (by kernel_rfl) (fun _ _ _ h => h) (by rfl) ?_ ?_; rotate_left
  · (intro x hx; go_simp; first | done | with_reducible rfl | (rw [if_pos (by omega)]; try with_reducible rfl) | (rw [if_neg (by omega)]; try with_reducible rfl))
  try simp only [Act.put, List.setIfInBounds_toArray, List.set_cons_zero, List.set_cons_succ]
  refine rg_take (v := ?_) 5 rfl (by kernel_rfl) (by kernel_rfl) (by kernel_rfl) (fun _ _ _ h => h) (by rfl) ?_ ?_; rotate_left
  · (intro x hx; go_simp; first | done | with_reducible rfl | (rw [if_pos (by omega)]; try with_reducible rfl) | (rw [if_neg (by omega)]; try with_reducible rfl))
  try simp only [Act.put, List.setIfInBounds_toArray, List.set_cons_zero, List.set_cons_succ]
  refine rg_done (by kernel_rfl) ?_
  have b2 := HB0.out.trans (r0.mono HB0.out.size)
  clear f0 f1 P0 A0 r0
  go_wp2_with fail
  go_loopw [29] (fun v wr => v = .int .i64 0 ∧ wr = u2) (fun _ _ => 0)
  case atStart => exact ⟨rfl, rfl⟩
  case round =>
    obtain ⟨rfl, rfl⟩ := hrel
    go_wp2_with fail
    refine (hc _).mono ?_
    rintro e w3 ⟨rfl, rfl⟩
    go_wp2_with fail
    go_ret2
    exact ⟨⟨_, by have := b2.size; first | omega | (simp; omega), rfl⟩, (b2.alloc b2.size _).alloc (by have := b2.size; first | omega | (simp; omega)) _⟩
/-- What the usual configuration is known by. -/
structure UsI (c : Cf) : Prop where
  chk : chkE c = 0
  f : numA c.fst = 3232235876
  l : numA c.lst = 3232235907
  u : c.udp = 120
  t : c.tcp = 7200
  i : c.icmp = 30
  low : c.low = 40000
theorem usI : UsI usC := ⟨by kernel_rfl, by kernel_rfl, by kernel_rfl, by kernel_rfl, by kernel_rfl, by kernel_rfl, by kernel_rfl⟩
theorem natNew_eq (w : World) (b : Nat) (u t i : Int) (hu : u = 120) (ht : t = 7200) (hi : i = 30) : Calls Tryz.prog 65 #[.pointer (some ⟨b, 0, none⟩), .agg #[.int .i64 u, .int .i64 t, .int .i64 i]] w (PtrPost w) := by
  subst hu ht hi
  exact natNew_any w b
theorem portsNew_eq (w : World) (l : Int) (h : l = 40000) : Calls Tryz.prog 63 #[.int .i64 l, .int .i64 128] w (PtrPost w) := by
  subst h
  exact portsNew_any w
end Go.Proofs.YtccbdaffjkdpgaaGreatDoor
