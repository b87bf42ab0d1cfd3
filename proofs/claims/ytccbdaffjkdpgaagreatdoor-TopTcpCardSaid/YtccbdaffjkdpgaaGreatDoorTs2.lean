/-
  The library's Cut, Split, HasPrefix, Trim in lists of bytes.
-/
import Derived.Test.YtccbdaffjkdpgaaGreatDoorTsh
import Derived.Test.YtccbdaffjkdpgaaGreatDoorTk
import Derived.Lib.SplitLaws
import Derived.Lib.IndexBytes
namespace Go.Proofs.YtccbdaffjkdpgaaGreatDoor
open Go.RowKit

/-- internal/bytealg.MaxLen holds some int. -/
def mlIs (w : World) : Prop := ∃ m, w.cell? ⟨3, 0, none⟩ = some (.int .i64 m)
theorem mlIs.lt {w : World} (h : mlIs w) : 3 < w.heap.size := by
  obtain ⟨m, hm⟩ := h
  rcases Nat.lt_or_ge 3 w.heap.size with h0 | h0
  · exact h0
  · simp [World.cell?, Array.getElem?_eq_none h0] at hm
theorem mlIs.next {w w' : World} (h : mlIs w) (hb : Below w.heap.size w w') : mlIs w' := by
  have hl := h.lt
  obtain ⟨m, hm⟩ := h
  exact ⟨m, (World.cell?_of_block (w := w) (a := ⟨3, 0, none⟩) (hb.block 3 hl)).trans hm⟩
/-- What stands before the first such byte, what behind it, whether there is one. -/
def cutE (c : UInt8) : List UInt8 → List UInt8 × List UInt8 × Bool
  | [] => ([], [], false)
  | x :: r => if x = c then ([], r, true) else (x :: (cutE c r).1, (cutE c r).2.1, (cutE c r).2.2)
theorem cut_eq (c : UInt8) : ∀ s : List UInt8, Lib.cut s [c] = cutE c s
  | [] => rfl
  | x :: r => by
    have h := cut_eq c r
    have hge := Lib.index_ge r [c]
    unfold Lib.cut at h ⊢
    rw [cutE]
    by_cases hx : x = c
    · subst hx
      have e0 : Lib.index (x :: r) [x] = 0 := by rw [Lib.index]; simp
      rw [e0]
      simp
    · have hp : List.isPrefixOf [c] (x :: r) = false := by simp [List.isPrefixOf, Ne.symm hx]
      have e0 : Lib.index (x :: r) [c] = if Lib.index r [c] = -1 then -1 else Lib.index r [c] + 1 := by rw [Lib.index, hp]; simp
      rw [e0, if_neg hx]
      by_cases hi : Lib.index r [c] = -1
      · rw [hi, if_neg (by omega)] at h
        rw [if_pos hi, if_neg (by omega), ← h]
      · rw [if_neg hi, if_pos (by omega)]
        rw [if_pos (by omega)] at h
        rw [← h]
        have e : (Lib.index r [c] + 1).toNat = (Lib.index r [c]).toNat + 1 := by omega
        rw [e]
        simp
theorem cutB_count (c : UInt8) : ∀ s : List UInt8, (cutB c s).length = s.count c + 1
  | [] => rfl
  | x :: r => by
    have h := cutB_count c r
    rw [cutB]
    by_cases hx : x = c
    · rw [if_pos hx, hx, List.count_cons_self, List.length_cons, h]
    · rw [if_neg hx, List.count_cons_of_ne hx]
      match hq : cutB c r with
      | [] => rw [hq] at h; simp at h
      | p :: q => rw [hq] at h; exact h
theorem cutE_len (c : UInt8) : ∀ s : List UInt8, (cutE c s).1.length ≤ s.length ∧ (cutE c s).2.1.length ≤ s.length
  | [] => by simp [cutE]
  | x :: r => by
    have h := cutE_len c r
    rw [cutE]
    split
    · simp
    · simp; omega
theorem cutE_asc (c : UInt8) : ∀ s : List UInt8, asc s → asc (cutE c s).1 ∧ asc (cutE c s).2.1
  | [], h => ⟨h, h⟩
  | x :: r, h => by
    have h2 := cutE_asc c r (fun b hb => h b (by simp [hb]))
    rw [cutE]
    split
    · exact ⟨by intro b hb; simp at hb, fun b hb => h b (by simp [hb])⟩
    · refine ⟨fun b hb => ?_, h2.2⟩
      rcases List.mem_cons.1 hb with rfl | hb
      · exact h _ (by simp)
      · exact h2.1 b hb
theorem splitK_eq (c : UInt8) : ∀ (k : Nat) (s : List UInt8), s.count c ≤ k → Lib.splitK [c] 0 k s = cutB c s
  | 0, s, h => by
    rw [Lib.splitK, cutB_none c s]
    rintro x hx rfl
    have := List.count_pos_iff.2 hx
    omega
  | k + 1, s, h => by
    rw [Lib.splitK, Lib.index_one]
    by_cases hi : Lib.indexByte s c = -1
    · rw [hi, if_pos (by rfl), cutB_none c s]
      rintro x hx rfl
      obtain ⟨j, hj⟩ := List.mem_iff_getElem?.1 hx
      exact Lib.indexByte_none hi j hj
    · have hge := Lib.indexByte_ge s c
      obtain ⟨i, hi2⟩ : ∃ i : Nat, Lib.indexByte s c = i := ⟨(Lib.indexByte s c).toNat, by omega⟩
      obtain ⟨h1, h2⟩ := Lib.indexByte_some hi2
      have hlt := (List.getElem?_eq_some_iff.1 h1).1
      have es : s = s.take i ++ c :: s.drop (i + 1) := by
        have e1 := List.take_append_drop i s
        rw [drop_get s i hlt, show s.getD i 0 = c by simp [List.getD, h1]] at e1
        exact e1.symm
      have hno : ∀ x ∈ s.take i, x ≠ c := by
        rintro x hx rfl
        obtain ⟨j, hj⟩ := List.mem_iff_getElem?.1 hx
        have hjl := (List.getElem?_eq_some_iff.1 hj).1
        simp at hjl
        rw [List.getElem?_take_of_lt (by omega)] at hj
        exact h2 j (by omega) hj
      have hc : (s.drop (i + 1)).count c ≤ k := by
        have e2 := congrArg (List.count c) es
        rw [List.count_append, List.count_cons_self] at e2
        omega
      rw [if_neg (by simpa using hi), hi2]
      simp only [Int.toNat_natCast, Nat.add_zero, List.length_cons, List.length_nil, Nat.zero_add]
      rw [splitK_eq c k _ hc]
      refine Eq.trans ?_ (congrArg (cutB c) es).symm
      rw [cutB_cons c _ _ hno]

theorem split_any (w : World) (hm : mlIs w) (s : List UInt8) (c : UInt8) (hl : s.length ≤ 1000000) :
    Calls Tryz.prog 101 #[.string (str s), .string (str [c])] w (PartsPost w (cutB c s)) := by
  obtain ⟨m, hm⟩ := hm
  refine (Tryz.strings_Split (str s) (str [c]) m w (by rw [str_size]; omega) hm (by rw [str_size]; simp)).mono ?_
  rintro e w' ⟨rfl, rfl⟩
  have hcount : Lib.countB (str s) (str [c]) = s.count c := Lib.count_one c s
  have hmap := Lib.splitB_data (str [c]) 0 (Lib.countB (str s) (str [c])) (str s)
  rw [hcount] at hmap
  have hk : Lib.splitK [c] 0 (s.count c) s = cutB c s := splitK_eq c _ s (Nat.le_refl _)
  replace hmap := hmap.trans hk
  have hl2 : (Lib.splitB (str [c]) 0 (s.count c) (str s)).length = s.count c + 1 := by
    rw [← cutB_count, ← hmap, List.length_map]
  have hsv : (Lib.splitB (str [c]) 0 (s.count c) (str s)).map Value.string = sv (cutB c s) := by
    rw [← hmap]
    simp [sv, str]
  rw [hcount, hsv]
  refine ⟨some ⟨w.heap.size, 0, none⟩, s.count c + 1, s.count c + 1, rfl, ⟨(cutB_count c s).symm, by rw [sv_length, cutB_count]; omega, .inr ⟨w.heap.size, s.count c + 1, _, rfl, Nat.le_refl _, heap_alloc_new w _, Nat.le_refl _, ?_, ?_, ?_⟩⟩, (Below.refl _ w).alloc (Nat.le_refl _) _⟩
  · have := List.count_le_length (a := c) (l := s)
    unfold maxLen
    omega
  · simp [sv_length, cutB_count]
  · simp [List.take_of_length_le, sv_length, cutB_count]
end Go.Proofs.YtccbdaffjkdpgaaGreatDoor
