/-
  The walk of the statement OptJoins.
-/
import Derived.Test.YtidohmcneoldcaaOptReads
namespace Go.Proofs.Ytidohmcneoldcaa
open Go.RowKit

/-- Bytes that were just made are a row of the call's own. -/
theorem OB.lit {w : World} {H g : Nat} {cs : Array Value} (l : List UInt8) (hg : w.heap.size = g) (hH : H ≤ g) (hc : cs = (bv l).toArray) (hl : l.length ≤ maxLen) : OB (w.alloc (.cells cs 5)) H (some ⟨g, 0, none⟩) l.length l.length l := by
  subst hg hc
  refine ⟨rfl, ?_⟩
  have := World.ownsRow_lit (base := H) (e := 5) (size := 1) w (bv l).toArray l.length hH hl (by simp [bv])
  simpa using this

theorem joins_get (a b c : List UInt8) (ha : a.length ≤ 255) (hb : b.length ≤ 255) (hc : c.length ≤ 255) :
    getO ([7, bN a.length] ++ a ++ [0, 9, bN b.length] ++ b ++ [0, 0, 7, bN c.length] ++ c ++ [255, 1, 2, 3]) = some [(7, a ++ c), (9, b)] := by
  have e : ∀ x : List UInt8, x.length ≤ 255 → bN (x.length : Int) = UInt8.ofNat x.length := by
    intro x hx
    show UInt8.ofNat ((x.length : Int) % 256).toNat = _
    congr 1
    omega
  rw [e a ha, e b hb, e c hc]
  unfold getO
  have hl : ([7, UInt8.ofNat a.length] ++ a ++ [0, 9, UInt8.ofNat b.length] ++ b ++ [0, 0, 7, UInt8.ofNat c.length] ++ c ++ [255, 1, 2, 3] : List UInt8).length = (a.length + b.length + c.length + 6) + 7 := by simp; omega
  rw [hl]
  generalize a.length + b.length + c.length + 6 = k
  have e1 : ([7, UInt8.ofNat a.length] ++ a ++ [0, 9, UInt8.ofNat b.length] ++ b ++ [0, 0, 7, UInt8.ofNat c.length] ++ c ++ [255, 1, 2, 3] : List UInt8) =
      7 :: UInt8.ofNat a.length :: (a ++ (0 :: 9 :: UInt8.ofNat b.length :: (b ++ (0 :: 0 :: 7 :: UInt8.ofNat c.length :: (c ++ [255, 1, 2, 3]))))) := by simp
  rw [e1, get_step _ 7 a _ _ (by decide) (by decide) ha, getF_cons, if_pos rfl, get_step _ 9 b _ _ (by decide) (by decide) hb, getF_cons, if_pos rfl, getF_cons, if_pos rfl, get_step _ 7 c _ _ (by decide) (by decide) hc, getF_cons, if_neg (by decide), if_pos rfl]
  rfl

set_option maxRecDepth 100000 in
set_option maxHeartbeats 4000000 in
theorem optJoins_walk (w : World) (A : Option Addr) (n c : Nat) (a : List UInt8) (ha : BS w w.heap.size A n c a) (A2 : Option Addr) (n2 c2 : Nat) (b : List UInt8) (hb : BS w w.heap.size A2 n2 c2 b) (A3 : Option Addr) (n3 c3 : Nat) (d : List UInt8) (hd : BS w w.heap.size A3 n3 c3 d) :
    Calls Try.prog 4 #[.slice A n c, .slice A2 n2 c2, .slice A3 n3 c3] w (TruePost w) := by
  have hn := ha.1
  have hn2 := hb.1
  have hn3 := hd.1
  have hnm : n ≤ 9223372036854775807 := by have h1 := ha.2.1; have h2 := ha.2.2.1; unfold maxLen at h2; omega
  have hnm2 : n2 ≤ 9223372036854775807 := by have h1 := hb.2.1; have h2 := hb.2.2.1; unfold maxLen at h2; omega
  have hnm3 : n3 ≤ 9223372036854775807 := by have h1 := hd.2.1; have h2 := hd.2.2.1; unfold maxLen at h2; omega
  have HN := Lib.hid (And.intro hn (And.intro hn2 hn3))
  clear hn hn2 hn3
  by_cases h1 : 255 < n
  · go_enter Try.func4, Try.ntmps4
    go_wp2_with fail
    refine (awake12_any w).mono ?_
    rintro e w1 ⟨rfl, hb1⟩
    go_wp2_with fail
    go_ret
    exact ⟨rfl, hb1⟩
  by_cases h2 : 255 < n2
  · go_enter Try.func4, Try.ntmps4
    go_wp2_with fail
    refine (awake12_any w).mono ?_
    rintro e w1 ⟨rfl, hb1⟩
    go_wp2_with fail
    go_ret
    exact ⟨rfl, hb1⟩
  by_cases h3 : 255 < n3
  · go_enter Try.func4, Try.ntmps4
    go_wp2_with fail
    refine (awake12_any w).mono ?_
    rintro e w1 ⟨rfl, hb1⟩
    go_wp2_with fail
    go_ret
    exact ⟨rfl, hb1⟩
  have hla : a.length ≤ 255 := by have := HN.out; omega
  have hlb : b.length ≤ 255 := by have := HN.out; omega
  have hld : d.length ≤ 255 := by have := HN.out; omega
  have HG := Lib.hid (joins_get a b d hla hlb hld)
  go_enter Try.func4, Try.ntmps4
  go_wp2_with fail
  refine (awake12_any w).mono ?_
  rintro e w1 ⟨rfl, hb1⟩
  have a1 := (ha.below hb1)
  have b1 := (hb.below hb1)
  have d1 := (hd.below hb1)
  have z1 := hb1.size
  go_wp2_with (at_builtin; go_must (refine app8 rfl _ _ rfl w.heap.size _ _ _ [7, bN n] rfl (OB.lit [7, bN n] rfl z1 (by simp [bv, bN_val]; omega) (by simp [maxLen])) w.heap.size A n c a rfl (a1.alloc z1 _) (by simp; omega) (by first | omega | (simp; omega)) ?_))
  intro A4 n4 c4 w4 ho4 hb4 _
  have q4 := (hb1.alloc hb1.size (.cells #[.int .u8 7, .int .u8 n] 5)).trans hb4
  have z4 := q4.size
  clear hb4
  go_wp2_with (at_builtin; go_must (refine app8 rfl (.tmp 31) (.tmp 35) rfl w.heap.size A4 n4 c4 _ rfl (ho4.alloc _) _ _ 3 3 [0, 9, bN n2] rfl (BS.block [0, 9, bN n2] (heap_alloc_new w4 _) (by simp [bv, bN_val]; omega) (by simp [maxLen])) (by simp; omega) (by first | omega | (simp; omega)) ?_))
  intro A5 n5 c5 w5 ho5 hb5 _
  have q5 := (q4.alloc z4 (.cells #[.int .u8 0, .int .u8 9, .int .u8 n2] 5)).trans hb5
  have z5 := q5.size
  clear hb5 ho4
  go_wp2_with (at_builtin; go_must (refine app8 rfl (.tmp 36) (.tmp 37) rfl w.heap.size A5 n5 c5 _ rfl ho5 w.heap.size A2 n2 c2 b rfl (hb.below q5) (by simp; omega) (by first | omega | (simp; omega)) ?_))
  intro A6 n6 c6 w6 ho6 hb6 _
  have q6 := q5.trans hb6
  have z6 := q6.size
  clear hb6 ho5
  go_wp2_with (at_builtin; go_must (refine app8 rfl (.tmp 39) (.tmp 43) rfl w.heap.size A6 n6 c6 _ rfl (ho6.alloc _) _ _ 4 4 [0, 0, 7, bN n3] rfl (BS.block [0, 0, 7, bN n3] (heap_alloc_new w6 _) (by simp [bv, bN_val]; omega) (by simp [maxLen])) (by simp; omega) (by first | omega | (simp; omega)) ?_))
  intro A7 n7 c7 w7 ho7 hb7 _
  have q7 := (q6.alloc z6 (.cells #[.int .u8 0, .int .u8 0, .int .u8 7, .int .u8 n3] 5)).trans hb7
  have z7 := q7.size
  clear hb7 ho6
  go_wp2_with (at_builtin; go_must (refine app8 rfl (.tmp 44) (.tmp 45) rfl w.heap.size A7 n7 c7 _ rfl ho7 w.heap.size A3 n3 c3 d rfl (hd.below q7) (by simp; omega) (by first | omega | (simp; omega)) ?_))
  intro A8 n8 c8 w8 ho8 hb8 _
  have q8 := q7.trans hb8
  have z8 := q8.size
  clear hb8 ho7
  go_wp2_with (at_builtin; go_must (refine app8 rfl (.tmp 48) (.tmp 49) rfl w.heap.size A8 n8 c8 _ rfl (ho8.alloc _) _ _ 4 4 [255, 1, 2, 3] rfl (BS.block [255, 1, 2, 3] (heap_alloc_new w8 _) rfl (by simp [maxLen])) (by simp; omega) (by first | omega | (simp; omega)) ?_))
  intro A9 n9 c9 w9 ho9 hb9 _
  have q9 := (q8.alloc z8 (.cells #[.int .u8 255, .int .u8 1, .int .u8 2, .int .u8 3] 5)).trans hb9
  have z9 := q9.size
  clear hb9 ho8
  have hln : getO ([7, bN n] ++ a ++ [0, 9, bN n2] ++ b ++ [0, 0, 7, bN n3] ++ d ++ [255, 1, 2, 3]) = some [(7, a ++ d), (9, b)] := by
    have h1 := HG.out
    rw [← HN.out.1, ← HN.out.2.1, ← HN.out.2.2] at h1
    exact h1
  have HL := Lib.hid hln
  clear hln
  go_wp2_with fail
  refine (oget_u w9 A9 n9 c9 _ ho9.bs (by simp; omega) [(7, a ++ d), (9, b)] 0 true (.inl ⟨by simpa using HL.out, rfl, rfl⟩)).mono ?_
  rintro e w10 ⟨A10, n10, c10, l, rfl, ho10, hl, hb10⟩
  have q10 := q9.trans (hb10.mono z9)
  obtain ⟨x, y, rfl⟩ : ∃ x y, l = [x, y] := by
    have := congrArg List.length hl
    rw [obs_length] at this
    match l, this with
    | [x, y], _ => exact ⟨x, y, rfl⟩
  have hx : x.ob = (7, a ++ d) := by injection hl
  have hy : y.ob = (9, b) := by injection hl with _ h; injection h
  obtain ⟨xc, xA, xn, xcc, xb⟩ := x
  obtain ⟨yc, yA, yn, ycc, yb⟩ := y
  obtain ⟨rfl, rfl⟩ : xc = 7 ∧ xb = a ++ d := by simpa [Op1.ob] using hx
  obtain ⟨rfl, rfl⟩ : yc = 9 ∧ yb = b := by simpa [Op1.ob] using hy
  have hn10 : n10 = 2 := ho10.1
  subst hn10
  obtain ⟨bb, o, x, rfl, hbl, hx', c0, c1, s0⟩ := ho10.os.at_ (j := 0) (by omega)
  obtain ⟨bb', o', y, e1, hbl', hy', c2', c3', s1⟩ := ho10.os.at_ (j := 1) (by omega)
  injection e1 with e1
  injection e1 with e1 e2
  subst e1 e2
  have hx2 : x = ⟨7, xA, xn, xcc, a ++ d⟩ := by simpa using hx'.symm
  have hy2 : y = ⟨9, yA, yn, ycc, yb⟩ := by simpa using hy'.symm
  subst hx2 hy2
  have M0 := (fun k => w10.heap.size ≤ k)
  have g0 := Ext.cell (w := w10.drew) (M := fun k => w10.heap.size ≤ k) c0 (by omega)
  have g1 := Ext.cell (w := w10.drew) (M := fun k => w10.heap.size ≤ k) c1 (by omega)
  have g2 := Ext.cell (w := w10.drew) (M := fun k => w10.heap.size ≤ k) c2' (by omega)
  have g3 := Ext.cell (w := w10.drew) (M := fun k => w10.heap.size ≤ k) c3' (by omega)
  simp only [Nat.zero_mul, Nat.one_mul, Nat.add_zero, Nat.zero_add] at g0 g1 g2 g3
  have r0 := (s0.drew).reads (M := fun k => w10.heap.size ≤ k) (Nat.le_refl _) (fun k hk => by omega)
  have r1 := (s1.drew).reads (M := fun k => w10.heap.size ≤ k) (Nat.le_refl _) (fun k hk => by omega)
  have z10 := q10.size
  have ra := ((ha.below q10).more z10).drew.reads (M := fun k => w10.heap.size ≤ k) (Nat.le_refl _) (fun k hk => by omega)
  have rb := ((hb.below q10).more z10).drew.reads (M := fun k => w10.heap.size ≤ k) (Nat.le_refl _) (fun k hk => by omega)
  have rd := ((hd.below q10).more z10).drew.reads (M := fun k => w10.heap.size ≤ k) (Nat.le_refl _) (fun k hk => by omega)
  have hsa : (str a).size ≤ 255 := by rw [str_size]; exact hla
  have hsd : (str d).size ≤ 255 := by rw [str_size]; exact hld
  have es : str a ++ str d = str (a ++ d) := str_append a d
  have et : ((str (a ++ d)).toList == (str (a ++ d)).toList) = true := beq_self_eq_true _
  have eb : ((str yb).toList == (str yb).toList) = true := beq_self_eq_true _
  clear c0 c1 c2' c3' s0 s1 hx hy hx' hy' hl ho10 hb10 ho9 a1 b1 d1 M0
  go_wp2_with fail
  refine rg_begin (fun k => w10.heap.size ≤ k) (by kernel_rfl) ?_
  refine rg_take (v := ?_) 0 rfl (by kernel_rfl) (by kernel_rfl) (by kernel_rfl) (fun _ _ _ h => h) (by rfl) ?_ ?_; rotate_left
  · (intro x hx; go_simp; first | done | with_reducible rfl | (rw [if_pos (by omega)]; try with_reducible rfl) | (rw [if_neg (by omega)]; try with_reducible rfl))
  try simp only [Act.put, List.setIfInBounds_toArray, List.set_cons_zero, List.set_cons_succ]
  refine rg_take (v := ?_) 1 rfl (by kernel_rfl) (by kernel_rfl) (by kernel_rfl) (fun _ _ _ h => h) (by rfl) ?_ ?_; rotate_left
  · (intro x hx; go_simp; first | done | with_reducible rfl | (rw [if_pos (by omega)]; try with_reducible rfl) | (rw [if_neg (by omega)]; try with_reducible rfl))
  try simp only [Act.put, List.setIfInBounds_toArray, List.set_cons_zero, List.set_cons_succ]
  refine rg_take (v := ?_) 2 rfl (by kernel_rfl) (by kernel_rfl) (by kernel_rfl) (fun _ _ _ h => h) (by rfl) ?_ ?_; rotate_left
  · (intro x hx; go_simp; first | done | with_reducible rfl | (rw [if_pos (by omega)]; try with_reducible rfl) | (rw [if_neg (by omega)]; try with_reducible rfl))
  try simp only [Act.put, List.setIfInBounds_toArray, List.set_cons_zero, List.set_cons_succ]
  refine rg_take (v := ?_) 3 rfl (by kernel_rfl) (by kernel_rfl) (by kernel_rfl) (fun _ _ _ h => h) (by rfl) ?_ ?_; rotate_left
  · (intro x hx; go_simp; first | done | with_reducible rfl | (rw [if_pos (by omega)]; try with_reducible rfl) | (rw [if_neg (by omega)]; try with_reducible rfl))
  try simp only [Act.put, List.setIfInBounds_toArray, List.set_cons_zero, List.set_cons_succ]
  refine rg_take (v := ?_) 4 rfl (by kernel_rfl) (by kernel_rfl) (by kernel_rfl) (fun _ _ _ h => h) (by rfl) ?_ ?_; rotate_left
  · (intro x hx; go_simp; first | done | with_reducible rfl | (rw [if_pos (by omega)]; try with_reducible rfl) | (rw [if_neg (by omega)]; try with_reducible rfl))
  try simp only [Act.put, List.setIfInBounds_toArray, List.set_cons_zero, List.set_cons_succ]
  refine rg_take (v := ?_) 5 rfl (by kernel_rfl) (by kernel_rfl) (by kernel_rfl) (fun _ _ _ h => h) (by rfl) ?_ ?_; rotate_left
  · (intro x hx; go_simp; first | done | with_reducible rfl | (rw [if_pos (by omega)]; try with_reducible rfl) | (rw [if_neg (by omega)]; try with_reducible rfl))
  try simp only [Act.put, List.setIfInBounds_toArray, List.set_cons_zero, List.set_cons_succ]
  refine rg_take (v := ?_) 6 rfl (by kernel_rfl) (by kernel_rfl) (by kernel_rfl) (fun _ _ _ h => h) (by rfl) ?_ ?_; rotate_left
  · (intro x hx; go_simp; first | done | with_reducible rfl | (rw [if_pos (by omega)]; try with_reducible rfl) | (rw [if_neg (by omega)]; try with_reducible rfl))
  try simp only [Act.put, List.setIfInBounds_toArray, List.set_cons_zero, List.set_cons_succ]
  refine rg_take (v := ?_) 7 rfl (by kernel_rfl) (by kernel_rfl) (by kernel_rfl) (fun _ _ _ h => h) (by rfl) ?_ ?_; rotate_left
  · (intro x hx; go_simp; first | done | with_reducible rfl | (rw [if_pos (by omega)]; try with_reducible rfl) | (rw [if_neg (by omega)]; try with_reducible rfl))
  try simp only [Act.put, List.setIfInBounds_toArray, List.set_cons_zero, List.set_cons_succ]
  refine rg_take (v := ?_) 8 rfl (by kernel_rfl) (by kernel_rfl) (by kernel_rfl) (fun _ _ _ h => h) (by rfl) ?_ ?_; rotate_left
  · (intro x hx; go_simp; first | done | with_reducible rfl | (rw [if_pos (by omega)]; try with_reducible rfl) | (rw [if_neg (by omega)]; try with_reducible rfl))
  try simp only [Act.put, List.setIfInBounds_toArray, List.set_cons_zero, List.set_cons_succ]
  refine rg_take (v := ?_) 9 rfl (by kernel_rfl) (by kernel_rfl) (by kernel_rfl) (fun _ _ _ h => h) (by rfl) ?_ ?_; rotate_left
  · (intro x hx; go_simp; first | done | with_reducible rfl | (rw [if_pos (by omega)]; try with_reducible rfl) | (rw [if_neg (by omega)]; try with_reducible rfl))
  try simp only [Act.put, List.setIfInBounds_toArray, List.set_cons_zero, List.set_cons_succ]
  refine rg_take (v := ?_) 10 rfl (by kernel_rfl) (by kernel_rfl) (by kernel_rfl) (fun _ _ _ h => h) (by rfl) ?_ ?_; rotate_left
  · (intro x hx; go_simp; first | done | with_reducible rfl | (rw [if_pos (by omega)]; try with_reducible rfl) | (rw [if_neg (by omega)]; try with_reducible rfl))
  try simp only [Act.put, List.setIfInBounds_toArray, List.set_cons_zero, List.set_cons_succ]
  refine rg_take (v := ?_) 11 rfl (by kernel_rfl) (by kernel_rfl) (by kernel_rfl) (fun _ _ _ h => h) (by rfl) ?_ ?_; rotate_left
  · (intro x hx; go_simp; first | done | with_reducible rfl | (rw [if_pos (by omega)]; try with_reducible rfl) | (rw [if_neg (by omega)]; try with_reducible rfl))
  try simp only [Act.put, List.setIfInBounds_toArray, List.set_cons_zero, List.set_cons_succ]
  refine rg_take (v := ?_) 12 rfl (by kernel_rfl) (by kernel_rfl) (by kernel_rfl) (fun _ _ _ h => h) (by rfl) ?_ ?_; rotate_left
  · (intro x hx; go_simp; first | done | with_reducible rfl | (rw [if_pos (by omega)]; try with_reducible rfl) | (rw [if_neg (by omega)]; try with_reducible rfl))
  try simp only [Act.put, List.setIfInBounds_toArray, List.set_cons_zero, List.set_cons_succ]
  refine rg_take (v := ?_) 13 rfl (by kernel_rfl) (by kernel_rfl) (by kernel_rfl) (fun _ _ _ h => h) (by rfl) ?_ ?_; rotate_left
  · (intro x hx; go_simp; first | done | with_reducible rfl | (rw [if_pos (by omega)]; try with_reducible rfl) | (rw [if_neg (by omega)]; try with_reducible rfl))
  try simp only [Act.put, List.setIfInBounds_toArray, List.set_cons_zero, List.set_cons_succ]
  refine rg_take (v := ?_) 14 rfl (by kernel_rfl) (by kernel_rfl) (by kernel_rfl) (fun _ _ _ h => h) (by rfl) ?_ ?_; rotate_left
  · (intro x hx; go_simp; first | done | with_reducible rfl | (rw [if_pos (by omega)]; try with_reducible rfl) | (rw [if_neg (by omega)]; try with_reducible rfl))
  try simp only [Act.put, List.setIfInBounds_toArray, List.set_cons_zero, List.set_cons_succ]
  refine rg_take (v := ?_) 15 rfl (by kernel_rfl) (by kernel_rfl) (by kernel_rfl) (fun _ _ _ h => h) (by rfl) ?_ ?_; rotate_left
  · (intro x hx; go_simp; first | done | with_reducible rfl | (rw [if_pos (by omega)]; try with_reducible rfl) | (rw [if_neg (by omega)]; try with_reducible rfl))
  try simp only [Act.put, List.setIfInBounds_toArray, List.set_cons_zero, List.set_cons_succ]
  refine rg_take (v := ?_) 16 rfl (by kernel_rfl) (by kernel_rfl) (by kernel_rfl) (fun _ _ _ h => h) (by rfl) ?_ ?_; rotate_left
  · (intro x hx; go_simp; first | done | with_reducible rfl | (rw [if_pos (by omega)]; try with_reducible rfl) | (rw [if_neg (by omega)]; try with_reducible rfl))
  try simp only [Act.put, List.setIfInBounds_toArray, List.set_cons_zero, List.set_cons_succ]
  refine rg_take (v := ?_) 17 rfl (by kernel_rfl) (by kernel_rfl) (by kernel_rfl) (fun _ _ _ h => h) (by rfl) ?_ ?_; rotate_left
  · (intro x hx; go_simp; first | done | with_reducible rfl | (rw [if_pos (by omega)]; try with_reducible rfl) | (rw [if_neg (by omega)]; try with_reducible rfl))
  try simp only [Act.put, List.setIfInBounds_toArray, List.set_cons_zero, List.set_cons_succ]
  refine rg_take (v := ?_) 18 rfl (by kernel_rfl) (by kernel_rfl) (by kernel_rfl) (fun _ _ _ h => h) (by rfl) ?_ ?_; rotate_left
  · (intro x hx; go_simp; first | done | with_reducible rfl | (rw [if_pos (by omega)]; try with_reducible rfl) | (rw [if_neg (by omega)]; try with_reducible rfl))
  try simp only [Act.put, List.setIfInBounds_toArray, List.set_cons_zero, List.set_cons_succ]
  refine rg_take (v := ?_) 19 rfl (by kernel_rfl) (by kernel_rfl) (by kernel_rfl) (fun _ _ _ h => h) (by rfl) ?_ ?_; rotate_left
  · (intro x hx; go_simp; first | done | with_reducible rfl | (rw [if_pos (by omega)]; try with_reducible rfl) | (rw [if_neg (by omega)]; try with_reducible rfl))
  try simp only [Act.put, List.setIfInBounds_toArray, List.set_cons_zero, List.set_cons_succ]
  refine rg_take (v := ?_) 20 rfl (by kernel_rfl) (by kernel_rfl) (by kernel_rfl) (fun _ _ _ h => h) (by rfl) ?_ ?_; rotate_left
  · (intro x hx; go_simp; first | done | with_reducible rfl | (rw [if_pos (by omega)]; try with_reducible rfl) | (rw [if_neg (by omega)]; try with_reducible rfl))
  try simp only [Act.put, List.setIfInBounds_toArray, List.set_cons_zero, List.set_cons_succ]
  refine rg_take (v := ?_) 21 rfl (by kernel_rfl) (by kernel_rfl) (by kernel_rfl) (fun _ _ _ h => h) (by rfl) ?_ ?_; rotate_left
  · (intro x hx; go_simp; first | done | with_reducible rfl | (rw [if_pos (by omega)]; try with_reducible rfl) | (rw [if_neg (by omega)]; try with_reducible rfl))
  try simp only [Act.put, List.setIfInBounds_toArray, List.set_cons_zero, List.set_cons_succ]
  refine rg_take (v := ?_) 22 rfl (by kernel_rfl) (by kernel_rfl) (by kernel_rfl) (fun _ _ _ h => h) (by rfl) ?_ ?_; rotate_left
  · (intro x hx; go_simp; first | done | with_reducible rfl | (rw [if_pos (by omega)]; try with_reducible rfl) | (rw [if_neg (by omega)]; try with_reducible rfl))
  try simp only [Act.put, List.setIfInBounds_toArray, List.set_cons_zero, List.set_cons_succ]
  refine rg_take (v := ?_) 23 rfl (by kernel_rfl) (by kernel_rfl) (by kernel_rfl) (fun _ _ _ h => h) (by rfl) ?_ ?_; rotate_left
  · (intro x hx; go_simp; first | done | with_reducible rfl | (rw [if_pos (by omega)]; try with_reducible rfl) | (rw [if_neg (by omega)]; try with_reducible rfl))
  try simp only [Act.put, List.setIfInBounds_toArray, List.set_cons_zero, List.set_cons_succ]
  refine rg_take (v := ?_) 24 rfl (by kernel_rfl) (by kernel_rfl) (by kernel_rfl) (fun _ _ _ h => h) (by rfl) ?_ ?_; rotate_left
  · (intro x hx; go_simp; first | done | with_reducible rfl | (rw [if_pos (by omega)]; try with_reducible rfl) | (rw [if_neg (by omega)]; try with_reducible rfl))
  try simp only [Act.put, List.setIfInBounds_toArray, List.set_cons_zero, List.set_cons_succ]
  refine rg_take (v := ?_) 25 rfl (by kernel_rfl) (by kernel_rfl) (by kernel_rfl) (fun _ _ _ h => h) (by rfl) ?_ ?_; rotate_left
  · (intro x hx; go_simp; first | done | with_reducible rfl | (rw [if_pos (by omega)]; try with_reducible rfl) | (rw [if_neg (by omega)]; try with_reducible rfl))
  try simp only [Act.put, List.setIfInBounds_toArray, List.set_cons_zero, List.set_cons_succ]
  refine rg_take (v := ?_) 26 rfl (by kernel_rfl) (by kernel_rfl) (by kernel_rfl) (fun _ _ _ h => h) (by rfl) ?_ ?_; rotate_left
  · (intro x hx; go_simp; first | done | with_reducible rfl | (rw [if_pos (by omega)]; try with_reducible rfl) | (rw [if_neg (by omega)]; try with_reducible rfl))
  try simp only [Act.put, List.setIfInBounds_toArray, List.set_cons_zero, List.set_cons_succ]
  refine rg_take (v := ?_) 27 rfl (by kernel_rfl) (by kernel_rfl) (by kernel_rfl) (fun _ _ _ h => h) (by rfl) ?_ ?_; rotate_left
  · (intro x hx; go_simp; first | done | with_reducible rfl | (rw [if_pos (by omega)]; try with_reducible rfl) | (rw [if_neg (by omega)]; try with_reducible rfl))
  try simp only [Act.put, List.setIfInBounds_toArray, List.set_cons_zero, List.set_cons_succ]
  refine rg_take (v := ?_) 28 rfl (by kernel_rfl) (by kernel_rfl) (by kernel_rfl) (fun _ _ _ h => h) (by rfl) ?_ ?_; rotate_left
  · (intro x hx; go_simp; first | done | with_reducible rfl | (rw [if_pos (by omega)]; try with_reducible rfl) | (rw [if_neg (by omega)]; try with_reducible rfl))
  try simp only [Act.put, List.setIfInBounds_toArray, List.set_cons_zero, List.set_cons_succ]
  refine rg_take (v := ?_) 29 rfl (by kernel_rfl) (by kernel_rfl) (by kernel_rfl) (fun _ _ _ h => h) (by rfl) ?_ ?_; rotate_left
  · (intro x hx; go_simp; first | done | with_reducible rfl | (rw [if_pos (by omega)]; try with_reducible rfl) | (rw [if_neg (by omega)]; try with_reducible rfl))
  try simp only [Act.put, List.setIfInBounds_toArray, List.set_cons_zero, List.set_cons_succ]
  refine rg_take (v := ?_) 30 rfl (by kernel_rfl) (by kernel_rfl) (by kernel_rfl) (fun _ _ _ h => h) (by rfl) ?_ ?_; rotate_left
  · (intro x hx; go_simp; first | done | with_reducible rfl | (rw [if_pos (by omega)]; try with_reducible rfl) | (rw [if_neg (by omega)]; try with_reducible rfl))
  try simp only [Act.put, List.setIfInBounds_toArray, List.set_cons_zero, List.set_cons_succ]
  refine rg_take (v := ?_) 31 rfl (by kernel_rfl) (by kernel_rfl) (by kernel_rfl) (fun _ _ _ h => h) (by rfl) ?_ ?_; rotate_left
  · (intro x hx; go_simp; first | done | with_reducible rfl | (rw [if_pos (by omega)]; try with_reducible rfl) | (rw [if_neg (by omega)]; try with_reducible rfl))
  try simp only [Act.put, List.setIfInBounds_toArray, List.set_cons_zero, List.set_cons_succ]
  refine rg_take (v := ?_) 32 rfl (by kernel_rfl) (by kernel_rfl) (by kernel_rfl) (fun _ _ _ h => h) (by rfl) ?_ ?_; rotate_left
  · (intro x hx; go_simp; first | done | with_reducible rfl | (rw [if_pos (by omega)]; try with_reducible rfl) | (rw [if_neg (by omega)]; try with_reducible rfl))
  try simp only [Act.put, List.setIfInBounds_toArray, List.set_cons_zero, List.set_cons_succ]
  refine rg_take (v := ?_) 33 rfl (by kernel_rfl) (by kernel_rfl) (by kernel_rfl) (fun _ _ _ h => h) (by rfl) ?_ ?_; rotate_left
  · (intro x hx; go_simp; first | done | with_reducible rfl | (rw [if_pos (by omega)]; try with_reducible rfl) | (rw [if_neg (by omega)]; try with_reducible rfl))
  try simp only [Act.put, List.setIfInBounds_toArray, List.set_cons_zero, List.set_cons_succ]
  refine rg_take (v := ?_) 34 rfl (by kernel_rfl) (by kernel_rfl) (by kernel_rfl) (fun _ _ _ h => h) (by rfl) ?_ ?_; rotate_left
  · (intro x hx; go_simp; first | done | with_reducible rfl | (rw [if_pos (by omega)]; try with_reducible rfl) | (rw [if_neg (by omega)]; try with_reducible rfl))
  try simp only [Act.put, List.setIfInBounds_toArray, List.set_cons_zero, List.set_cons_succ]
  refine rg_take (v := ?_) 35 rfl (by kernel_rfl) (by kernel_rfl) (by kernel_rfl) (fun _ _ _ h => h) (by rfl) ?_ ?_; rotate_left
  · (intro x hx; go_simp; first | done | with_reducible rfl | (rw [if_pos (by omega)]; try with_reducible rfl) | (rw [if_neg (by omega)]; try with_reducible rfl))
  try simp only [Act.put, List.setIfInBounds_toArray, List.set_cons_zero, List.set_cons_succ]
  refine rg_take (v := ?_) 36 rfl (by kernel_rfl) (by kernel_rfl) (by kernel_rfl) (fun _ _ _ h => h) (by rfl) ?_ ?_; rotate_left
  · (intro x hx; go_simp; first | done | with_reducible rfl | (rw [if_pos (by omega)]; try with_reducible rfl) | (rw [if_neg (by omega)]; try with_reducible rfl))
  try simp only [Act.put, List.setIfInBounds_toArray, List.set_cons_zero, List.set_cons_succ]
  refine rg_take (v := ?_) 37 rfl (by kernel_rfl) (by kernel_rfl) (by kernel_rfl) (fun _ _ _ h => h) (by rfl) ?_ ?_; rotate_left
  · (intro x hx; go_simp; first | done | with_reducible rfl | (rw [if_pos (by omega)]; try with_reducible rfl) | (rw [if_neg (by omega)]; try with_reducible rfl))
  try simp only [Act.put, List.setIfInBounds_toArray, List.set_cons_zero, List.set_cons_succ]
  refine rg_take (v := ?_) 38 rfl (by kernel_rfl) (by kernel_rfl) (by kernel_rfl) (fun _ _ _ h => h) (by rfl) ?_ ?_; rotate_left
  · (intro x hx; go_simp; first | done | with_reducible rfl | (rw [if_pos (by omega)]; try with_reducible rfl) | (rw [if_neg (by omega)]; try with_reducible rfl))
  try simp only [Act.put, List.setIfInBounds_toArray, List.set_cons_zero, List.set_cons_succ]
  refine rg_take (v := ?_) 39 rfl (by kernel_rfl) (by kernel_rfl) (by kernel_rfl) (fun _ _ _ h => h) (by rfl) ?_ ?_; rotate_left
  · (intro x hx; go_simp; first | done | with_reducible rfl | (rw [if_pos (by omega)]; try with_reducible rfl) | (rw [if_neg (by omega)]; try with_reducible rfl))
  try simp only [Act.put, List.setIfInBounds_toArray, List.set_cons_zero, List.set_cons_succ]
  refine rg_take (v := ?_) 40 rfl (by kernel_rfl) (by kernel_rfl) (by kernel_rfl) (fun _ _ _ h => h) (by rfl) ?_ ?_; rotate_left
  · (intro x hx; go_simp; first | done | with_reducible rfl | (rw [if_pos (by omega)]; try with_reducible rfl) | (rw [if_neg (by omega)]; try with_reducible rfl))
  try simp only [Act.put, List.setIfInBounds_toArray, List.set_cons_zero, List.set_cons_succ]
  refine rg_take (v := ?_) 41 rfl (by kernel_rfl) (by kernel_rfl) (by kernel_rfl) (fun _ _ _ h => h) (by rfl) ?_ ?_; rotate_left
  · (intro x hx; go_simp; first | done | with_reducible rfl | (rw [if_pos (by omega)]; try with_reducible rfl) | (rw [if_neg (by omega)]; try with_reducible rfl))
  try simp only [Act.put, List.setIfInBounds_toArray, List.set_cons_zero, List.set_cons_succ]
  refine rg_take (v := ?_) 42 rfl (by kernel_rfl) (by kernel_rfl) (by kernel_rfl) (fun _ _ _ h => h) (by rfl) ?_ ?_; rotate_left
  · (intro x hx; go_simp; first | done | with_reducible rfl | (rw [if_pos (by omega)]; try with_reducible rfl) | (rw [if_neg (by omega)]; try with_reducible rfl))
  try simp only [Act.put, List.setIfInBounds_toArray, List.set_cons_zero, List.set_cons_succ]
  refine rg_take (v := ?_) 43 rfl (by kernel_rfl) (by kernel_rfl) (by kernel_rfl) (fun _ _ _ h => h) (by rfl) ?_ ?_; rotate_left
  · (intro x hx; go_simp; first | done | with_reducible rfl | (rw [if_pos (by omega)]; try with_reducible rfl) | (rw [if_neg (by omega)]; try with_reducible rfl))
  try simp only [Act.put, List.setIfInBounds_toArray, List.set_cons_zero, List.set_cons_succ]
  refine rg_take (v := ?_) 44 rfl (by kernel_rfl) (by kernel_rfl) (by kernel_rfl) (fun _ _ _ h => h) (by rfl) ?_ ?_; rotate_left
  · (intro x hx; go_simp; first | done | with_reducible rfl | (rw [if_pos (by omega)]; try with_reducible rfl) | (rw [if_neg (by omega)]; try with_reducible rfl))
  try simp only [Act.put, List.setIfInBounds_toArray, List.set_cons_zero, List.set_cons_succ]
  refine rg_done (by kernel_rfl) ?_
  go_wp2_with fail
  go_ret
  exact ⟨rfl, q10.drew⟩
end Go.Proofs.Ytidohmcneoldcaa
