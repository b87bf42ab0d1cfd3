/-
  The walk of the statement OptKnown.
-/
import Derived.Test.YtidohmcneoldcaaOptJoins
import Derived.Test.YtidohmcneoldcaaMake
namespace Go.Proofs.Ytidohmcneoldcaa
open Go.RowKit

/-- An option list of one block that was just made. -/
theorem OS.one {w : World} {g : Nat} (o : Op1) (hg : w.heap[g]? = some (.cells #[.int .i64 o.code, .slice o.A o.n o.c] 26 (0, 0))) (hb : BS w w.heap.size o.A o.n o.c o.body) :
    OS w w.heap.size (some ⟨g, 0, none⟩) 1 1 [o] := by
  refine ⟨rfl, Nat.le_refl _, by simp [maxLen], .inr ⟨g, 0, rfl, heap_lt hg, fun j u hu => ?_⟩, by simpa using hb⟩
  rw [Nat.zero_add, cell_of_row w g j _ _ _ hg]
  simpa [opCells] using hu
theorem OS.two {w : World} {g : Nat} (o p : Op1) (hg : w.heap[g]? = some (.cells #[.int .i64 o.code, .slice o.A o.n o.c, .int .i64 p.code, .slice p.A p.n p.c] 26 (0, 0))) (hb : BS w w.heap.size o.A o.n o.c o.body) (hp : BS w w.heap.size p.A p.n p.c p.body) :
    OS w w.heap.size (some ⟨g, 0, none⟩) 2 2 [o, p] := by
  refine ⟨rfl, Nat.le_refl _, by simp [maxLen], .inr ⟨g, 0, rfl, heap_lt hg, fun j u hu => ?_⟩, by simpa using ⟨hb, hp⟩⟩
  rw [Nat.zero_add, cell_of_row w g j _ _ _ hg]
  simpa [opCells] using hu

theorem BS.step {w : World} {n c : Nat} {A : Option Addr} {l : List UInt8} (h : BS w w.heap.size A n c l) (o : Obj) : BS (w.alloc o) (w.alloc o).heap.size A n c l := (h.alloc (Nat.le_refl _) o).more (by simp)

theorem pieceF_len : ∀ (k : Nat) (c : UInt8) (b : List UInt8), b.length < k → b.length ≤ (pieceF k c b).length
  | 0, _, _, h => by omega
  | k + 1, c, b, h => by
    rw [pieceF]
    simp only [List.length_cons, List.length_append, List.length_take]
    by_cases he : (b.drop 255).isEmpty
    · have h1 := congrArg List.length (List.isEmpty_iff.1 he)
      simp at h1
      rw [if_pos he]
      omega
    · rw [if_neg he]
      have h2 := pieceF_len k c (b.drop 255) (by
        rcases Nat.lt_or_ge 255 b.length with h1 | h1
        · simp; omega
        · exact absurd (by simp [List.drop_eq_nil_of_le h1]) he)
      rw [List.length_drop] at h2
      omega
theorem put_long12 (b : List UInt8) (h : 1200 ≤ b.length) : putO [(1, b)] = ([], 2) := by
  have h1 : goodO [(1, b)] := ⟨by simp, by simp⟩
  rw [putO, if_pos h1, if_pos]
  have := pieceF_len (b.length + 1) (byteN 1) b (by omega)
  have e : allO [(1, b)] = pieceF (b.length + 1) (byteN 1) b := by simp [allO, piece]
  rw [e]
  omega

set_option maxRecDepth 100000 in
set_option maxHeartbeats 4000000 in
theorem optKnown_walk (w : World) : Calls Try.prog 5 #[] w (TruePost w) := by
  obtain ⟨z13, hz13⟩ : ∃ z, (bv (List.replicate 1300 0)).toArray = z := ⟨_, rfl⟩
  have k13 := run_make8 1300 (by omega)
  have s13 := fun (w : World) (g : Nat) (hg : w.heap.size = g) => bs_zeros_at w g 1300 hg (by omega)
  rw [hz13] at k13 s13
  have S13 := Lib.hid s13
  clear hz13 s13
  change ∀ w, (Instr.makeSlice 24 (.int .i64 1300) (.int .i64 1300)).run Try.prog w = _ at k13
  have HP13 := Lib.hid (put_long12 (List.replicate 1300 0) (by simp))
  obtain ⟨zz, hzz⟩ : ∃ z, List.replicate 1300 (0 : UInt8) = z := ⟨_, rfl⟩
  have hzl : zz.length = 1300 := by rw [← hzz, List.length_replicate]
  rw [hzz] at S13 HP13
  have HZ := Lib.hid hzl
  clear hzz hzl
  go_enter Try.func5, Try.ntmps5
  go_wp2_with fail
  refine (awake12_any w).mono ?_
  rintro e w1 ⟨rfl, q1⟩
  go_wp2_with fail
  refine (oget_u w1 none 0 0 [] (BS.nil_ _ _) (by simp) [] 3 false (.inr ⟨by decide, rfl, rfl, rfl⟩)).mono ?_
  rintro e w2 ⟨A2, n2, c2, l2, rfl, _, _, hb2⟩
  have q2 := q1.trans (hb2.mono q1.size)
  clear hb2
  go_wp2_with fail
  refine (oget_u _ _ 3 3 [1, 2, 3] (BS.block [1, 2, 3] (heap_alloc_new w2 _) rfl (by simp [maxLen])) (by simp) [] 3 false (.inr ⟨by decide, rfl, rfl, rfl⟩)).mono ?_
  rintro e w3 ⟨A3, n3, c3, l3, rfl, _, _, hb3⟩
  have q3 := (q2.alloc q2.size (.cells #[.int .u8 1, .int .u8 2, .int .u8 3] 5)).trans (hb3.mono (by have := q2.size; simp; omega))
  clear hb3
  go_wp2_with fail
  refine (oget_u _ _ 11 11 [0, 1, 1, 5, 2, 0, 1, 1, 6, 255, 9] (BS.block [0, 1, 1, 5, 2, 0, 1, 1, 6, 255, 9] (heap_alloc_new w3 _) rfl (by simp [maxLen])) (by simp) [(1, [5, 6]), (2, [])] 0 true (.inl ⟨by decide, rfl, rfl⟩)).mono ?_
  rintro e w4 ⟨A4, n4, c4, l4, rfl, ho4, hl4, hb4⟩
  have q4 := (q3.alloc q3.size (.cells #[.int .u8 0, .int .u8 1, .int .u8 1, .int .u8 5, .int .u8 2, .int .u8 0, .int .u8 1, .int .u8 1, .int .u8 6, .int .u8 255, .int .u8 9] 5)).trans (hb4.mono (by have := q3.size; simp; omega))
  clear hb4
  have hn4 : n4 = 2 := by rw [ho4.1, ← obs_length, hl4]; rfl
  subst hn4
  have HL4 := Lib.hid hl4
  clear hl4
  go_wp2_with fail
  refine (oput_any _ _ 1 1 [⟨0, none, 0, 0, []⟩] (OS.one _ (heap_alloc_new w4 _) (BS.nil_ _ _)) (by simp) (by simp)).mono ?_
  rw [show putO (obs [⟨0, none, 0, 0, []⟩]) = ([], 1) by decide]
  rintro e w5 ⟨A5, n5, c5, rfl, _, hb5⟩
  have q5 := (q4.alloc q4.size (.cells #[.int .i64 0, .slice none 0 0] 26)).trans (hb5.mono (by have := q4.size; simp; omega))
  have os5 := (ho4.alloc (.cells #[.int .i64 0, .slice none 0 0] 26)).below hb5
  clear hb5 ho4
  go_wp2_with fail
  refine (oput_any _ _ 2 2 [⟨1, none, 0, 0, []⟩, ⟨1, none, 0, 0, []⟩] (OS.two _ _ (heap_alloc_new w5 _) (BS.nil_ _ _) (BS.nil_ _ _)) (by simp) (by simp)).mono ?_
  rw [show putO (obs [⟨1, none, 0, 0, []⟩, ⟨1, none, 0, 0, []⟩]) = ([], 1) by decide]
  rintro e w6 ⟨A6, n6, c6, rfl, _, hb6⟩
  have q6 := (q5.alloc q5.size (.cells #[.int .i64 1, .slice none 0 0, .int .i64 1, .slice none 0 0] 26)).trans (hb6.mono (by have := q5.size; simp; omega))
  have os6 := (os5.alloc (.cells #[.int .i64 1, .slice none 0 0, .int .i64 1, .slice none 0 0] 26)).below hb6
  clear hb6 os5
  go_wp2_with fail
  have b7 := (S13.out w6 _ rfl)
  refine (oput_any _ _ 1 1 [⟨1, some ⟨w6.heap.size, 0, none⟩, 1300, 1300, zz⟩] (OS.one _ (heap_alloc_at (by simp)) (b7.step _)) (by simp) (by simp [HZ.out])).mono ?_
  rw [show putO (obs [⟨1, some ⟨w6.heap.size, 0, none⟩, 1300, 1300, zz⟩]) = ([], 2) from HP13.out]
  rintro e w7 ⟨A7, n7, c7, rfl, _, hb7⟩
  have q7 := ((q6.alloc q6.size (.cells z13 5)).alloc (by have := q6.size; simp; omega) (.cells #[.int .i64 1, .slice (some ⟨w6.heap.size, 0, none⟩) 1300 1300] 26)).trans (hb7.mono (by have := q6.size; simp; omega))
  have os7 := ((os6.alloc (.cells z13 5)).alloc (.cells #[.int .i64 1, .slice (some ⟨w6.heap.size, 0, none⟩) 1300 1300] 26)).below hb7
  clear hb7 os6 b7
  go_wp2_with fail
  have b8 := BS.block [1, 2, 3, 4] (heap_alloc_new w7 (.cells #[.int .u8 1, .int .u8 2, .int .u8 3, .int .u8 4] 5)) rfl (by simp [maxLen])
  refine (oaddr_any _ _ 1 1 [⟨1, some ⟨w7.heap.size, 0, none⟩, 4, 4, [1, 2, 3, 4]⟩] 1 (OS.one _ (heap_alloc_at (by simp)) (b8.step _)) (by simp)).mono ?_
  rw [show scA [⟨1, some ⟨w7.heap.size, 0, none⟩, 4, 4, [1, 2, 3, 4]⟩] 1 = ⟨1, 2, 3, 4⟩ from rfl, show scK [⟨1, some ⟨w7.heap.size, 0, none⟩, 4, 4, [1, 2, 3, 4]⟩] 1 = true from rfl]
  rintro e w8 ⟨rfl, hb8⟩
  have q8 := ((q7.alloc q7.size (.cells #[.int .u8 1, .int .u8 2, .int .u8 3, .int .u8 4] 5)).alloc (by have := q7.size; simp; omega) (.cells #[.int .i64 1, .slice (some ⟨w7.heap.size, 0, none⟩) 4 4] 26)).trans (hb8.mono (by have := q7.size; simp; omega))
  have os8 := ((os7.alloc (.cells #[.int .u8 1, .int .u8 2, .int .u8 3, .int .u8 4] 5)).alloc (.cells #[.int .i64 1, .slice (some ⟨w7.heap.size, 0, none⟩) 4 4] 26)).below hb8
  clear hb8 os7 b8
  go_wp2_with fail
  have z8 := q8.size
  have b9 := BS.block [1, 2, 3] (heap_alloc_at (w := w8.alloc (.cells #[.int .u8 1, .int .u8 2, .int .u8 3, .int .u8 4] 39)) (o := .cells #[.int .u8 1, .int .u8 2, .int .u8 3] 5) (k := w8.heap.size + 1) (by simp)) rfl (by simp [maxLen])
  refine (secs_any _ _ 1 1 [⟨1, some ⟨w8.heap.size + 1, 0, none⟩, 3, 3, [1, 2, 3]⟩] 1 (OS.one _ (heap_alloc_at (by simp)) (b9.step _)) (by simp)).mono ?_
  rw [show scN [⟨1, some ⟨w8.heap.size + 1, 0, none⟩, 3, 3, [1, 2, 3]⟩] 1 = 0 from rfl, show scK [⟨1, some ⟨w8.heap.size + 1, 0, none⟩, 3, 3, [1, 2, 3]⟩] 1 = false from rfl]
  rintro e w9 ⟨rfl, hb9⟩
  have q9 := (((q8.alloc q8.size (.cells #[.int .u8 1, .int .u8 2, .int .u8 3, .int .u8 4] 39)).alloc (by simp; omega) (.cells #[.int .u8 1, .int .u8 2, .int .u8 3] 5)).alloc (by simp; omega) (.cells #[.int .i64 1, .slice (some ⟨w8.heap.size + 1, 0, none⟩) 3 3] 26)).trans (hb9.mono (by simp; omega))
  have os9 := (((os8.alloc (.cells #[.int .u8 1, .int .u8 2, .int .u8 3, .int .u8 4] 39)).alloc (.cells #[.int .u8 1, .int .u8 2, .int .u8 3] 5)).alloc (.cells #[.int .i64 1, .slice (some ⟨w8.heap.size + 1, 0, none⟩) 3 3] 26)).below hb9
  have X9 := below_at hb9 (heap_alloc_of (heap_alloc_of (heap_alloc_at (w := w8) (o := .cells #[.int .u8 1, .int .u8 2, .int .u8 3, .int .u8 4] 39) rfl))) (by simp; omega)
  obtain ⟨k9, f9⟩ := cells_of X9
  clear hb9 os8 b9 X9
  obtain ⟨x, y, rfl⟩ : ∃ x y, l4 = [x, y] := by
    have := congrArg List.length HL4.out
    rw [obs_length] at this
    match l4, this with
    | [x, y], _ => exact ⟨x, y, rfl⟩
  have hx : x.ob = (1, [5, 6]) := by injection HL4.out
  have hy : y.ob = (2, []) := by injection HL4.out with _ h; injection h
  obtain ⟨xc, xA, xn, xcc, xb⟩ := x
  obtain ⟨yc, yA, yn, ycc, yb⟩ := y
  obtain ⟨rfl, rfl⟩ : xc = 1 ∧ xb = [5, 6] := by simpa [Op1.ob] using hx
  obtain ⟨rfl, rfl⟩ : yc = 2 ∧ yb = [] := by simpa [Op1.ob] using hy
  obtain ⟨bb, o, x, rfl, hbl, hx', c0, c1, s0⟩ := os9.os.at_ (j := 0) (by omega)
  obtain ⟨bb', o', y, e1, hbl', hy', c2', c3', s1⟩ := os9.os.at_ (j := 1) (by omega)
  injection e1 with e1
  injection e1 with e1 e2
  subst e1 e2
  have hx2 : x = ⟨1, xA, xn, xcc, [5, 6]⟩ := by simpa using hx'.symm
  have hy2 : y = ⟨2, yA, yn, ycc, []⟩ := by simpa using hy'.symm
  subst hx2 hy2
  have g0 : w9.cell? ⟨bb, o + 1, none⟩ = some (.slice xA xn xcc) := by simpa using c1
  have g1 : w9.cell? ⟨bb, o + 2 + 1, none⟩ = some (.slice yA yn ycc) := by simpa using c3'
  have r0 := run_str s0
  rw [show str [5, 6] = { data := #[5, 6] } from rfl] at r0
  have hyn : yn = 0 := s1.1
  subst hyn
  have he : ∀ x, (binOp .eql 39 (.agg #[.int .u8 1, .int .u8 2, .int .u8 3, .int .u8 4]) (.agg #[.int .u8 1, .int .u8 2, .int .u8 3, .int .u8 4])).run Try.prog x = .ok (.bool true) x := fun x => run_eql_ad x ⟨1, 2, 3, 4⟩ ⟨1, 2, 3, 4⟩
  clear c0 c1 c2' c3' s0 s1 hx hy hx' hy' os9 HL4 hbl hbl'
  go_wp2_with fail
  go_ret
  exact ⟨rfl, q9⟩
end Go.Proofs.Ytidohmcneoldcaa
