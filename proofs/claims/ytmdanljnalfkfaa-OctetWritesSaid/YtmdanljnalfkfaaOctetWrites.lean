/-
  The walk of the statement OctetWrites: it answers true.
-/
import Derived.Test.YtmdanljnalfkfaaOctet4
import Derived.Test.YtmdanljnalfkfaaOctet5
import Derived.Test.YtmdanljnalfkfaaRegion
namespace Go.Proofs.Ytmdanljnalfkfaa
open Go.RowKit

theorem and16u (x : Int) (h0 : 0 ≤ x) (h1 : x < 4294967296) : bits BinOp.and IntKind.u32 x 65535 = x % 65536 := by
  obtain ⟨n, rfl⟩ := Int.eq_ofNat_of_zero_le h0
  have := u32_and_nat n 65535 (by omega) (by omega)
  rw [show ((65535 : Nat) : Int) = 65535 by rfl] at this
  rw [this, nat_mask16]
  omega
theorem beN_b16 (v : Int) : (beN (b16 v) : Int) = v % 65536 := by
  have h1 := bN_val (v / 256)
  have h2 := bN_val v
  simp only [b16, beN, List.foldl_cons, List.foldl_nil]
  omega
theorem beN_b32 (v : Int) (h0 : 0 ≤ v) (h1 : v < 4294967296) : (beN (b32 v) : Int) = v := by
  have h1 := bN_val (v / 256)
  have h2 := bN_val v
  have h3 := bN_val (v / 65536)
  have h4 := bN_val (v / 16777216)
  simp only [b32, beN, List.foldl_cons, List.foldl_nil]
  omega
theorem b32_b16 (v : Int) (h0 : 0 ≤ v) (h1 : v < 4294967296) : b32 v = b16 (v / 65536) ++ b16 (v % 65536) := by
  have e1 : bN (v / 65536 / 256) = bN (v / 16777216) := by have := bN_eq (v / 65536 / 256) (v / 16777216); rw [this]; omega
  have e2 : bN (v % 65536 / 256) = bN (v / 256) := by rw [bN_eq]; omega
  have e3 : bN (v % 65536) = bN v := by rw [bN_eq]; omega
  simp [b32, b16, e1, e2, e3]

set_option maxHeartbeats 400000 in
theorem rw32_any (w : World) (A : Option Addr) (n c : Nat) (l : List UInt8) (v : Int) (h : BS w w.heap.size A n c l) (hl : l.length ≤ 1000000000) (hv0 : 0 ≤ v) (hv1 : v < 4294967296) :
    Calls Try.prog 20 #[.slice A n c, .int .u32 v] w (OwnPost w (l ++ b32 v)) := by
  have hx := and16u v hv0 hv1
  go_enter Try.func20, Try.ntmps20
  go_wp2_with fail
  refine (rw16_any w A n c l _ h (by omega)).mono ?_
  rintro e w1 ⟨A1, n1, c1, rfl, ho1, hb1⟩
  go_wp2_with fail
  refine (rw16_any w1 A1 n1 c1 _ _ ho1.bs (by simp; omega)).mono ?_
  rintro e w2 ⟨A2, n2, c2, rfl, ho2, hb2⟩
  go_wp2_with fail
  go_ret
  have e1 : l ++ [bN (v / 65536 / 256), bN (v / 65536)] ++ [bN (v % 65536 / 256), bN (v % 65536)] = l ++ b32 v := by
    rw [b32_b16 v hv0 hv1, List.append_assoc]; rfl
  rw [e1] at ho2
  exact ⟨A2, n2, c2, rfl, ho2.lower hb1.size, hb1.trans (hb2.mono hb1.size)⟩
theorem w16_post (w : World) (A : Option Addr) (n c : Nat) (l : List UInt8) (v : Int) (h : BS w w.heap.size A n c l) (hl : l.length ≤ 1099511627776) :
    Calls Try.prog 19 #[.slice A n c, .int .i64 v] w (OwnPost w (l ++ b16 v)) := w16_any w A n c l v h hl
theorem w32_post (w : World) (A : Option Addr) (n c : Nat) (l : List UInt8) (v : Int) (h : BS w w.heap.size A n c l) (hl : l.length ≤ 1099511627776) (hv0 : 0 ≤ v) (hv1 : v < 4294967296) :
    Calls Try.prog 18 #[.slice A n c, .int .u32 v] w (OwnPost w (l ++ b32 v)) := w32_any w A n c l v h hl hv0 hv1
theorem rw16_post (w : World) (A : Option Addr) (n c : Nat) (l : List UInt8) (v : Int) (h : BS w w.heap.size A n c l) (hl : l.length ≤ 1099511627776) :
    Calls Try.prog 21 #[.slice A n c, .int .i64 v] w (OwnPost w (l ++ b16 v)) := rw16_any w A n c l v h hl

set_option maxHeartbeats 1000000 in
theorem writes_small (w : World) (A : Option Addr) (m c : Nat) (l : List UInt8) (v u : Int) (h : BS w w.heap.size A m c l) (hm : m ≤ 100) (hu0 : 0 ≤ u) (hu1 : u < 4294967296) :
    Calls Try.prog 7 #[.slice A m c, .int .i64 v, .int .u32 u] w (TruePost w) := by
  have hml := h.1
  have hll : l.length ≤ 100 := by omega
  have e1 : rdTake (l ++ b16 v ++ b32 u) m = l := by
    rw [rdTake, if_pos (by simp; omega), hml, List.append_assoc]; simp
  have e2 : rdDrop (l ++ b16 v ++ b32 u) m = b16 v ++ b32 u := by
    rw [rdDrop, if_pos (by simp; omega), hml, List.append_assoc]; simp
  have e3 : rdSh (l ++ b16 v ++ b32 u) m false = false := by
    rw [rdSh, if_pos (by simp; omega)]
  have E1 := Lib.hid e1
  have E2 := Lib.hid e2
  have E3 := Lib.hid e3
  clear e1 e2 e3 hml
  go_enter Try.func7, Try.ntmps7
  go_wp2_with fail
  refine (awake_any w).mono ?_
  rintro e w1 ⟨rfl, hb1⟩
  have b1 : BS w1 w1.heap.size A m c l := (h.below hb1).more hb1.size
  go_wp2_with (at_builtin; go_must (refine app8 rfl _ _ rfl w1.heap.size _ 0 0 [] rfl (OB.empty w1 _ _ _ rfl (Nat.le_refl _) rfl) w1.heap.size A m c l rfl (b1.alloc (Nat.le_refl _) _) (by simp only [List.length_nil]; omega) (by simp) ?_))
  intro A2 n2 c2 w2 ho2 hb2 _
  go_wp2_with fail
  refine (w16_post w2 A2 n2 c2 _ v ho2.bs (by omega)).mono ?_
  rintro e w3 ⟨A3, n3, c3, rfl, ho3, hb3⟩
  go_wp2_with fail
  refine (w32_post w3 A3 n3 c3 _ u ho3.bs (by simp [b16]; omega) hu0 hu1).mono ?_
  rintro e w4 ⟨A4, n4, c4, rfl, ho4, hb4⟩
  go_wp2_with fail
  refine (read_any w4 A4 n4 c4 _ ho4.bs (by simp [b16, b32]; omega)).mono ?_
  rintro e w5 ⟨g, rfl, hg, hr5, hb5⟩
  go_wp2_with fail
  refine (bytes_any w5 g m _ false hr5 (by simp [b16, b32]; omega)).mono ?_
  rintro e w6 ⟨A6, n6, c6, rfl, ho6, hr6, hg6⟩
  rw [E1.out] at ho6
  rw [E2.out, E3.out] at hr6
  have z1 := hb1.size
  have z2 := hb2.size
  have z3 := hb3.size
  have z4 := hb4.size
  have z5 := hb5.size
  have z6 := hg6.size
  simp at z2
  have q2 : Below w.heap.size w w2 := (hb1.alloc z1 _).trans (hb2.mono (by omega))
  have q5 : Below w.heap.size w w5 := ((q2.trans (hb3.mono (by omega))).trans (hb4.mono (by omega))).trans (hb5.mono (by omega))
  have q6 : Below w.heap.size w w6 := below_grown q5 hg6 (by omega) (by omega)
  have bx := ((ho4.bs.below hb5).grown hg6 z5 (fun k hk => by injection hk with e; omega))
  have bb := (h.below q6).more q6.size
  have hgl : g < w5.heap.size := hr5.lt
  have X0 := (bx.drew).reads (row := some g) (by simp; omega) (fun k hk => by injection hk with e; omega)
  have X1 := (ho6.drew).reads hgl
  have X2 := ((h.below q6).drew).reads (row := some g) (by simp; omega) (fun k hk => by injection hk with e; omega)
  have hx5 := and16 v
  have t1 : (beN (rdTake (b16 v ++ b32 u) 2) : Int) = v % 65536 := by
    rw [rdTake, if_pos (by simp [b16, b32])]; exact beN_b16 v
  have t2 : rdDrop (b16 v ++ b32 u) 2 = b32 u := by rw [rdDrop, if_pos (by simp [b16, b32])]; rfl
  have t3 : rdSh (b16 v ++ b32 u) 2 false = false := by rw [rdSh, if_pos (by simp [b16, b32])]
  have t4 : (beN (rdTake (b32 u) 4) : Int) = u := by
    rw [rdTake, if_pos (by simp [b32])]; exact beN_b32 u hu0 hu1
  have t5 : rdDrop (b32 u) 4 = [] := by rw [rdDrop, if_pos (by simp [b32])]; rfl
  have t6 : rdSh (b32 u) 4 false = false := by rw [rdSh, if_pos (by simp [b32])]
  have T1 := Lib.hid t1
  have T2 := Lib.hid t2
  have T3 := Lib.hid t3
  have T4 := Lib.hid t4
  have T5 := Lib.hid t5
  have T6 := Lib.hid t6
  clear t1 t2 t3 t4 t5 t6
  go_upto_region 8 with fail
  go_cut [6] (fun x wx => x = .bool true ∧ Below w.heap.size w wx)
  case first =>
    refine rg_begin (some g) (by kernel_rfl) ?_
    refine rg_take (v := ?_) 0 rfl (by kernel_rfl) (by kernel_rfl) (by kernel_rfl) (fun _ _ _ h => h) (by rfl) ?_ ?_; rotate_left
    · (intro x hx; go_simp; try with_reducible rfl)
    try simp only [Act.put, List.setIfInBounds_toArray, List.set_cons_zero, List.set_cons_succ]
    refine rg_take (v := ?_) 1 rfl (by kernel_rfl) (by kernel_rfl) (by kernel_rfl) (fun _ _ _ h => h) (by rfl) ?_ ?_; rotate_left
    · (intro x hx; go_simp; try with_reducible rfl)
    try simp only [Act.put, List.setIfInBounds_toArray, List.set_cons_zero, List.set_cons_succ]
    refine rg_take (v := ?_) 2 rfl (by kernel_rfl) (by kernel_rfl) (by kernel_rfl) (fun _ _ _ h => h) (by rfl) ?_ ?_; rotate_left
    · (intro x hx; go_simp; try with_reducible rfl)
    try simp only [Act.put, List.setIfInBounds_toArray, List.set_cons_zero, List.set_cons_succ]
    refine rg_take (v := ?_) 3 rfl (by kernel_rfl) (by kernel_rfl) (by kernel_rfl) (fun _ _ _ h => h) (by rfl) ?_ ?_; rotate_left
    · (intro x hx; go_simp; try with_reducible rfl)
    try simp only [Act.put, List.setIfInBounds_toArray, List.set_cons_zero, List.set_cons_succ]
    refine rg_take (v := ?_) 5 rfl (by kernel_rfl) (by kernel_rfl) (by kernel_rfl) (fun _ _ _ h => h) (by rfl) ?_ ?_; rotate_left
    · (intro x hx; go_simp; try with_reducible rfl)
    try simp only [Act.put, List.setIfInBounds_toArray, List.set_cons_zero, List.set_cons_succ]
    refine rg_step 4 rfl (by kernel_rfl) (by rfl) (fun K hK => ?_)
    go_simp
    refine (rw16_post _ A m c l v bb.drew (by omega)).mono ?_; rintro e wa ⟨Aa, na, ca, rfl, oa, qa⟩
    have Y0 := (bx.drew.below (qa.mono (by simp; omega))).reads (row := some g) (by have := qa.size; simp at this; omega) (fun k hk => by injection hk with e; omega)
    have Y1 := (ho6.drew.below qa).reads hgl
    have Y2 := (((h.below q6).drew).below (qa.mono (by simp; omega))).reads (row := some g) (by have := qa.size; simp at this; omega) (fun k hk => by injection hk with e; omega)
    clear X0 X1 X2
    refine hK.out _ _ (grown_of_below _ qa) ?_
    clear hK K; try simp only [Act.put, List.setIfInBounds_toArray, List.set_cons_zero, List.set_cons_succ]
    refine rg_step 6 rfl (by kernel_rfl) (by rfl) (fun K hK => ?_)
    go_simp
    refine (rw32_any _ Aa na ca _ u oa.bs (by simp [b16]; omega) hu0 hu1).mono ?_; rintro e wb ⟨Ab, nb, cb, rfl, ob, qb⟩
    have Z0 := ((bx.drew.below (qa.mono (by simp; omega))).below (qb.mono (by have := qa.size; simp at this; omega))).reads (row := some g) (by have u1 := qa.size; have u2 := qb.size; simp at u1; omega) (fun k hk => by injection hk with e; omega)
    have Z1 := ((ho6.drew.below qa).below qb).reads hgl
    have Z2 := ((((h.below q6).drew).below (qa.mono (by simp; omega))).below (qb.mono (by have := qa.size; simp at this; omega))).reads (row := some g) (by have u1 := qa.size; have u2 := qb.size; simp at u1; omega) (fun k hk => by injection hk with e; omega)
    have Z3 := ob.reads (Nat.lt_of_lt_of_le hr6.lt qa.size)
    clear Y0 Y1 Y2
    refine hK.out _ _ (grown_of_below _ qb) ?_
    clear hK K; try simp only [Act.put, List.setIfInBounds_toArray, List.set_cons_zero, List.set_cons_succ]
    refine rg_take (v := ?_) 7 rfl (by kernel_rfl) (by kernel_rfl) (by kernel_rfl) (fun _ _ _ h => h) (by rfl) ?_ ?_; rotate_left
    · (intro x hx; go_simp; try with_reducible rfl)
    try simp only [Act.put, List.setIfInBounds_toArray, List.set_cons_zero, List.set_cons_succ]
    refine rg_take (v := ?_) 8 rfl (by kernel_rfl) (by kernel_rfl) (by kernel_rfl) (fun _ _ _ h => h) (by rfl) ?_ ?_; rotate_left
    · (intro x hx; go_simp; try with_reducible rfl)
    try simp only [Act.put, List.setIfInBounds_toArray, List.set_cons_zero, List.set_cons_succ]
    refine rg_take (v := ?_) 9 rfl (by kernel_rfl) (by kernel_rfl) (by kernel_rfl) (fun _ _ _ h => h) (by rfl) ?_ ?_; rotate_left
    · (intro x hx; go_simp; try with_reducible rfl)
    try simp only [Act.put, List.setIfInBounds_toArray, List.set_cons_zero, List.set_cons_succ]
    refine rg_take (v := ?_) 10 rfl (by kernel_rfl) (by kernel_rfl) (by kernel_rfl) (fun _ _ _ h => h) (by rfl) ?_ ?_; rotate_left
    · (intro x hx; go_simp; try with_reducible rfl)
    try simp only [Act.put, List.setIfInBounds_toArray, List.set_cons_zero, List.set_cons_succ]
    refine rg_take (v := ?_) 11 rfl (by kernel_rfl) (by kernel_rfl) (by kernel_rfl) (fun _ _ _ h => h) (by rfl) ?_ ?_; rotate_left
    · (intro x hx; go_simp; try with_reducible rfl)
    try simp only [Act.put, List.setIfInBounds_toArray, List.set_cons_zero, List.set_cons_succ]
    refine rg_take (v := ?_) 12 rfl (by kernel_rfl) (by kernel_rfl) (by kernel_rfl) (fun _ _ _ h => h) (by rfl) ?_ ?_; rotate_left
    · (intro x hx; go_simp; try with_reducible rfl)
    try simp only [Act.put, List.setIfInBounds_toArray, List.set_cons_zero, List.set_cons_succ]
    refine rg_take (v := ?_) 13 rfl (by kernel_rfl) (by kernel_rfl) (by kernel_rfl) (fun _ _ _ h => h) (by rfl) ?_ ?_; rotate_left
    · (intro x hx; go_simp; try with_reducible rfl)
    try simp only [Act.put, List.setIfInBounds_toArray, List.set_cons_zero, List.set_cons_succ]
    refine rg_take (v := ?_) 14 rfl (by kernel_rfl) (by kernel_rfl) (by kernel_rfl) (fun _ _ _ h => h) (by rfl) ?_ ?_; rotate_left
    · (intro x hx; go_simp; try with_reducible rfl)
    try simp only [Act.put, List.setIfInBounds_toArray, List.set_cons_zero, List.set_cons_succ]
    refine rg_take (v := ?_) 15 rfl (by kernel_rfl) (by kernel_rfl) (by kernel_rfl) (fun _ _ _ h => h) (by rfl) ?_ ?_; rotate_left
    · (intro x hx; go_simp; try with_reducible rfl)
    try simp only [Act.put, List.setIfInBounds_toArray, List.set_cons_zero, List.set_cons_succ]
    refine rg_take (v := ?_) 16 rfl (by kernel_rfl) (by kernel_rfl) (by kernel_rfl) (fun _ _ _ h => h) (by rfl) ?_ ?_; rotate_left
    · (intro x hx; go_simp; try with_reducible rfl)
    try simp only [Act.put, List.setIfInBounds_toArray, List.set_cons_zero, List.set_cons_succ]
    refine rg_take (v := ?_) 17 rfl (by kernel_rfl) (by kernel_rfl) (by kernel_rfl) (fun _ _ _ h => h) (by rfl) ?_ ?_; rotate_left
    · (intro x hx; go_simp; try with_reducible rfl)
    try simp only [Act.put, List.setIfInBounds_toArray, List.set_cons_zero, List.set_cons_succ]
    refine rg_take (v := ?_) 19 rfl (by kernel_rfl) (by kernel_rfl) (by kernel_rfl) (fun _ _ _ h => h) (by rfl) ?_ ?_; rotate_left
    · (intro x hx; go_simp; try with_reducible rfl)
    try simp only [Act.put, List.setIfInBounds_toArray, List.set_cons_zero, List.set_cons_succ]
    refine rg_take (v := ?_) 20 rfl (by kernel_rfl) (by kernel_rfl) (by kernel_rfl) (fun _ _ _ h => h) (by rfl) ?_ ?_; rotate_left
    · (intro x hx; go_simp; try with_reducible rfl)
    try simp only [Act.put, List.setIfInBounds_toArray, List.set_cons_zero, List.set_cons_succ]
    refine rg_step 18 rfl (by kernel_rfl) (by rfl) (fun K hK => ?_)
    go_simp
    refine (ru16_any _ g _ _ ((Rd.below (Rd.drew hr6) qa hr6.lt).below qb (Nat.lt_of_lt_of_le hr6.lt qa.size)) (by simp [b16, b32])).mono ?_; rintro e wd ⟨rfl, hrd, gd⟩
    rw [T1.out]
    rw [T2.out, T3.out] at hrd
    clear Z0 Z1 Z2 Z3
    refine hK.out _ _ gd ?_
    clear hK K; try simp only [Act.put, List.setIfInBounds_toArray, List.set_cons_zero, List.set_cons_succ]
    refine rg_take (v := ?_) 21 rfl (by kernel_rfl) (by kernel_rfl) (by kernel_rfl) (fun _ _ _ h => h) (by rfl) ?_ ?_; rotate_left
    · (intro x hx; go_simp; try with_reducible rfl)
    try simp only [Act.put, List.setIfInBounds_toArray, List.set_cons_zero, List.set_cons_succ]
    refine rg_take (v := ?_) 22 rfl (by kernel_rfl) (by kernel_rfl) (by kernel_rfl) (fun _ _ _ h => h) (by rfl) ?_ ?_; rotate_left
    · (intro x hx; go_simp; try with_reducible rfl)
    try simp only [Act.put, List.setIfInBounds_toArray, List.set_cons_zero, List.set_cons_succ]
    refine rg_take (v := ?_) 23 rfl (by kernel_rfl) (by kernel_rfl) (by kernel_rfl) (fun _ _ _ h => h) (by rfl) ?_ ?_; rotate_left
    · (intro x hx; go_simp; try with_reducible rfl)
    try simp only [Act.put, List.setIfInBounds_toArray, List.set_cons_zero, List.set_cons_succ]
    refine rg_take (v := ?_) 24 rfl (by kernel_rfl) (by kernel_rfl) (by kernel_rfl) (fun _ _ _ h => h) (by rfl) ?_ ?_; rotate_left
    · (intro x hx; go_simp; try with_reducible rfl)
    try simp only [Act.put, List.setIfInBounds_toArray, List.set_cons_zero, List.set_cons_succ]
    refine rg_take (v := ?_) 26 rfl (by kernel_rfl) (by kernel_rfl) (by kernel_rfl) (fun _ _ _ h => h) (by rfl) ?_ ?_; rotate_left
    · (intro x hx; go_simp; try with_reducible rfl)
    try simp only [Act.put, List.setIfInBounds_toArray, List.set_cons_zero, List.set_cons_succ]
    refine rg_step 25 rfl (by kernel_rfl) (by rfl) (fun K hK => ?_)
    go_simp
    refine (ru32_any _ g _ _ hrd (by simp [b32])).mono ?_; rintro e we ⟨rfl, hre, ge⟩
    rw [T4.out]
    rw [T5.out, T6.out] at hre
    refine hK.out _ _ ge ?_
    clear hK K; try simp only [Act.put, List.setIfInBounds_toArray, List.set_cons_zero, List.set_cons_succ]
    refine rg_take (v := ?_) 27 rfl (by kernel_rfl) (by kernel_rfl) (by kernel_rfl) (fun _ _ _ h => h) (by rfl) ?_ ?_; rotate_left
    · (intro x hx; go_simp; try with_reducible rfl)
    try simp only [Act.put, List.setIfInBounds_toArray, List.set_cons_zero, List.set_cons_succ]
    refine rg_take (v := ?_) 28 rfl (by kernel_rfl) (by kernel_rfl) (by kernel_rfl) (fun _ _ _ h => h) (by rfl) ?_ ?_; rotate_left
    · (intro x hx; go_simp; try with_reducible rfl)
    try simp only [Act.put, List.setIfInBounds_toArray, List.set_cons_zero, List.set_cons_succ]
    refine rg_take (v := ?_) 29 rfl (by kernel_rfl) (by kernel_rfl) (by kernel_rfl) (fun _ _ _ h => h) (by rfl) ?_ ?_; rotate_left
    · (intro x hx; go_simp; try with_reducible rfl)
    try simp only [Act.put, List.setIfInBounds_toArray, List.set_cons_zero, List.set_cons_succ]
    refine rg_take (v := ?_) 30 rfl (by kernel_rfl) (by kernel_rfl) (by kernel_rfl) (fun _ _ _ h => h) (by rfl) ?_ ?_; rotate_left
    · (intro x hx; go_simp; try with_reducible rfl)
    try simp only [Act.put, List.setIfInBounds_toArray, List.set_cons_zero, List.set_cons_succ]
    refine rg_step 31 rfl (by kernel_rfl) (by rfl) (fun K hK => ?_)
    go_simp
    refine (left_any _ g _ _ hre).mono ?_; rintro e wf ⟨rfl, rfl⟩
    refine hK.out _ _ (World.grownBy.refl _ _) ?_
    clear hK K; try simp only [Act.put, List.setIfInBounds_toArray, List.set_cons_zero, List.set_cons_succ]
    refine rg_take (v := ?_) 32 rfl (by kernel_rfl) (by kernel_rfl) (by kernel_rfl) (fun _ _ _ h => h) (by rfl) ?_ ?_; rotate_left
    · (intro x hx; go_simp; try with_reducible rfl)
    try simp only [Act.put, List.setIfInBounds_toArray, List.set_cons_zero, List.set_cons_succ]
    refine rg_take (v := ?_) 33 rfl (by kernel_rfl) (by kernel_rfl) (by kernel_rfl) (fun _ _ _ h => h) (by rfl) ?_ ?_; rotate_left
    · (intro x hx; go_simp; try with_reducible rfl)
    try simp only [Act.put, List.setIfInBounds_toArray, List.set_cons_zero, List.set_cons_succ]
    refine rg_take (v := ?_) 34 rfl (by kernel_rfl) (by kernel_rfl) (by kernel_rfl) (fun _ _ _ h => h) (by rfl) ?_ ?_; rotate_left
    · (intro x hx; go_simp; try with_reducible rfl)
    try simp only [Act.put, List.setIfInBounds_toArray, List.set_cons_zero, List.set_cons_succ]
    refine rg_take (v := ?_) 35 rfl (by kernel_rfl) (by kernel_rfl) (by kernel_rfl) (fun _ _ _ h => h) (by rfl) ?_ ?_; rotate_left
    · (intro x hx; go_simp; try with_reducible rfl)
    try simp only [Act.put, List.setIfInBounds_toArray, List.set_cons_zero, List.set_cons_succ]
    refine rg_step 36 rfl (by kernel_rfl) (by rfl) (fun K hK => ?_)
    go_simp
    refine (short_any _ g _ _ hre).mono ?_; rintro e wf ⟨rfl, rfl⟩
    refine hK.out _ _ (World.grownBy.refl _ _) ?_
    clear hK K; try simp only [Act.put, List.setIfInBounds_toArray, List.set_cons_zero, List.set_cons_succ]
    refine rg_take (v := ?_) 37 rfl (by kernel_rfl) (by kernel_rfl) (by kernel_rfl) (fun _ _ _ h => h) (by rfl) ?_ ?_; rotate_left
    · (intro x hx; go_simp; try with_reducible rfl)
    try simp only [Act.put, List.setIfInBounds_toArray, List.set_cons_zero, List.set_cons_succ]
    refine rg_take (v := ?_) 38 rfl (by kernel_rfl) (by kernel_rfl) (by kernel_rfl) (fun _ _ _ h => h) (by rfl) ?_ ?_; rotate_left
    · (intro x hx; go_simp; try with_reducible rfl)
    try simp only [Act.put, List.setIfInBounds_toArray, List.set_cons_zero, List.set_cons_succ]
    refine rg_take (v := ?_) 39 rfl (by kernel_rfl) (by kernel_rfl) (by kernel_rfl) (fun _ _ _ h => h) (by rfl) ?_ ?_; rotate_left
    · (intro x hx; go_simp; try with_reducible rfl)
    try simp only [Act.put, List.setIfInBounds_toArray, List.set_cons_zero, List.set_cons_succ]
    refine rg_done (by kernel_rfl) ?_
    go_wp2_with fail
    go_meet
    exact ⟨rfl, below_grown (below_grown ((q6.drew.trans (qa.mono q6.size)).trans (qb.mono (Nat.le_trans q6.size qa.size))) gd (Nat.le_trans (Nat.le_trans q6.size qa.size) qb.size) (by omega)) ge (Nat.le_trans (Nat.le_trans (Nat.le_trans q6.size qa.size) qb.size) gd.size) (by omega)⟩
  case rest =>
    obtain ⟨rfl, hb9⟩ := hcut
    go_wp2
    go_ret
    exact ⟨rfl, hb9⟩
set_option maxHeartbeats 400000 in
theorem writes_else (w : World) (A : Option Addr) (m c : Nat) (v u : Int) (hm : 100 < m) (hmx : m ≤ 9223372036854775807) :
    Calls Try.prog 7 #[.slice A m c, .int .i64 v, .int .u32 u] w (TruePost w) := by
  go_enter Try.func7, Try.ntmps7
  go_wp2_with fail
  refine (awake_any w).mono ?_
  rintro e w1 ⟨rfl, hb1⟩
  go_wp2_with fail
  go_ret
  exact ⟨rfl, hb1⟩

theorem writes_walk (w : World) (A : Option Addr) (m c : Nat) (l : List UInt8) (h : BS w w.heap.size A m c l) (v : Int) (_ : (Lit.int .i64 v).wf = true) (u : Int) (hu : (Lit.int .u32 u).wf = true) :
    Calls Try.prog 7 #[.slice A m c, .int .i64 v, .int .u32 u] w (TruePost w) := by
  by_cases hm : m ≤ 100
  · exact writes_small w A m c l v u h hm (wf_u32 hu).1 (wf_u32 hu).2
  · exact writes_else w A m c v u (by omega) (by have h1 := h.2.1; have h2 := h.2.2.1; unfold maxLen at h2; omega)
end Go.Proofs.Ytmdanljnalfkfaa
