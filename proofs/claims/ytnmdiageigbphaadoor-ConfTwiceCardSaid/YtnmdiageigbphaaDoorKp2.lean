/-
  conf: the words of a text of ASCII bytes.
-/
import Derived.Test.YtnmdiageigbphaaDoorKp1
import Derived.Laws.Runes
namespace Go.Proofs.YtnmdiageigbphaaDoor
open Go.RowKit

def asc (s : List UInt8) : Prop := ∀ b ∈ s, b.toNat < 128
theorem asc_get {s : List UInt8} (h : asc s) (i : Nat) : (s.getD i 0).toNat < 128 := by
  rcases Nat.lt_or_ge i s.length with hi | hi
  · exact h _ (by simp [List.getD, hi])
  · simp [List.getD, List.getElem?_eq_none hi]
def blk (b : UInt8) : Bool := b == 32 || b == 9
def wordsW : List UInt8 → List UInt8 → List (List UInt8)
  | w, [] => if w = [] then [] else [w]
  | w, b :: r => if blk b = true then (if w = [] then wordsW [] r else w :: wordsW [] r) else wordsW (w ++ [b]) r
def words (s : List UInt8) : List (List UInt8) := wordsW [] s
def BlP (w : World) (v : Bool) (e : Ending) (w' : World) : Prop := e = .returned (.bool v) ∧ w' = w
theorem blank_any (w : World) (b : UInt8) : Calls Tryd.prog 47 #[.int .i32 (b.toNat : Int)] w (BlP w (blk b)) := by
  by_cases h1 : b = 32
  · subst h1
    go_enter Tryd.func47, Tryd.ntmps47
    go_wp2_with fail
    go_ret
    exact ⟨rfl, rfl⟩
  · have x1 : ((b.toNat : Int) == 32) = false := by
      rw [beq_eq_false_iff_ne]
      intro e
      exact h1 (UInt8.toNat_inj.1 (by simp; omega))
    by_cases h2 : b = 9
    · subst h2
      go_enter Tryd.func47, Tryd.ntmps47
      go_wp2_with fail
      go_ret
      exact ⟨rfl, rfl⟩
    · have x2 : ((b.toNat : Int) == 9) = false := by
        rw [beq_eq_false_iff_ne]
        intro e
        exact h2 (UInt8.toNat_inj.1 (by simp; omega))
      have HB := Lib.hid (show blk b = false by simp [blk, h1, h2])
      clear h1 h2
      go_enter Tryd.func47, Tryd.ntmps47
      go_wp2_with fail
      go_ret
      exact ⟨by rw [HB.out]; rfl, rfl⟩
theorem str_addL (w : World) (x y : List UInt8) (h : x.length + y.length ≤ 2000000) : (Op.stringOp .add (str x) (str y)).run Tryd.prog w = .ok (.string (str (x ++ y))) w := by
  have h1 := run_string_add_sum (P := Tryd.prog) (w := w) (str x) (str y) (by rw [str_size, str_size]; omega)
  rw [str_append] at h1
  exact h1
theorem rune_str (b : UInt8) (h : b.toNat < 128) (w : World) : (convert 21 9 (.int .i32 (b.toNat : Int))).run Tryd.prog w = .ok (.string (str [b])) w := by
  rw [run_convert_int_string w _ _ _ _ (by rw [Tryd.underlying21]; rfl) Tryd.underlying9]
  have h1 : Utf8.valid (b.toNat : Int) = true := by simp [Utf8.valid]; omega
  have h2 : UInt8.ofNat b.toNat = b := UInt8.ofNat_toNat
  simp [Utf8.encode, h1, h, h2, str]
theorem next_asc (wr : World) (k : Nat) (s : List UInt8) (pos : Nat) (ha : asc s) (hit : wr.heap[k]? = some (.stringIter (str s) pos)) (h : pos < s.length) (ty : TypeId) :
    (Instr.next (.pointer (some ⟨k, 0, none⟩)) true ty).run Tryd.prog wr = .ok (.tuple #[.bool true, .int .i64 pos, .int .i32 ((s.getD pos 0).toNat : Int)]) (wr.iterAt k (str s) (pos + 1)) := by
  obtain ⟨r, kk, hd, hk1, hk2, hr, hrk⟩ := dec_step s pos h
  have := Lib.run_next_any_at (P := Tryd.prog) wr k (str s) pos ty hit h
  rw [hd] at this
  rcases hrk with ⟨h1, h2, h3⟩ | ⟨h1, _⟩
  · subst h2 h3
    exact this
  · have := asc_get ha pos
    omega
/-- Behind some rounds. -/
def WRel (w : World) (s : List UInt8) (v x : Value) (wr : World) (pos : Nat) : Prop :=
  ∃ A n cc l wd, v = .slice A n cc ∧ x = .string (str wd) ∧ SO wr w.heap.size A n cc l ∧ pos ≤ s.length ∧ l.length ≤ pos ∧ wd.length ≤ pos ∧ words s = l ++ wordsW wd (s.drop pos) ∧
    wr.heap[w.heap.size]? = some (.stringIter (str s) pos) ∧ Below w.heap.size w wr

set_option maxRecDepth 100000 in
set_option maxHeartbeats 4000000 in
theorem words_any (w : World) (s : List UInt8) (ha : asc s) (hl : s.length ≤ 1000000) :
    Calls Tryd.prog 34 #[.string (str s)] w (PartsPost w (words s)) := by
  go_enter Tryd.func34, Tryd.ntmps34
  go_wp2_with fail
  go_loopw [3, 4] (fun v f wr => ∃ pos, WRel w s v f wr pos) (fun _ _ wr => s.length - wr.iterPos w.heap.size)
  case atStart => exact ⟨0, none, 0, 0, [], [], rfl, rfl, ⟨rfl, World.ownsRow_nil _ _ _ _⟩, Nat.zero_le _, Nat.zero_le _, Nat.zero_le _, rfl, World.iter_heap w (str s) 0, below_iter w _ _⟩
  case round =>
    obtain ⟨pos, A, n, cc, l, wd, rfl, rfl, ho, hp, hlp, hwp, hcut, hit, hb⟩ := hrel
    have HC := Lib.hid hcut
    have HI := Lib.hid hit
    clear hcut
    have hz := hb.size
    by_cases hlt : pos < s.length
    · have hnx := next_asc wr w.heap.size s pos ha hit hlt
      obtain ⟨b, hbb⟩ : ∃ b, s.getD pos 0 = b := ⟨_, rfl⟩
      have HA := Lib.hid (asc_get ha pos)
      have HD := Lib.hid (drop_get s pos hlt)
      rw [hbb] at hnx HA HD
      have ho2 := ho.iterAt hit (pos + 1)
      have hit2 := Lib.iterAt_heap wr w.heap.size (str s) pos (pos + 1) hit
      have hb2 := Lib.below_iterAt hb (k := w.heap.size) (Nat.le_refl _) (str s) (pos + 1)
      have hz2 : w.heap.size < (wr.iterAt w.heap.size (str s) (pos + 1)).heap.size := heap_lt hit2
      have HZ := Lib.hid hz2
      clear hit ho hz2 hbb
      generalize wr.iterAt w.heap.size (str s) (pos + 1) = wi at hnx ho2 hit2 hb2 HZ
      go_wp2_with fail
      refine (blank_any wi b).mono ?_
      rintro e w4 ⟨rfl, rfl⟩
      rcases hbk : blk b with _ | _
      · have sconv : ∀ w, (convert 21 9 (.int .i32 (b.toNat : Int))).run Tryd.prog w = .ok (.string (str [b])) w := rune_str b HA.out
        have sadd : ∀ w, (Op.stringOp .add (str wd) (str [b])).run Tryd.prog w = .ok (.string (str (wd ++ [b]))) w := fun w => str_addL w wd [b] (by simp; omega)
        have HC2 := Lib.hid (show words s = l ++ wordsW (wd ++ [b]) (s.drop (pos + 1)) by rw [HC.out, HD.out, wordsW, if_neg (by rw [hbk]; decide)])
        have hwl : (wd ++ [b]).length ≤ pos + 1 := by simp; omega
        obtain ⟨wd', hwd⟩ : ∃ x, wd ++ [b] = x := ⟨_, rfl⟩
        rw [hwd] at sadd HC2 hwl
        clear hbk hwd HD
        go_wp2_with fail
        go_roundw
        case rel => exact ⟨pos + 1, A, n, cc, l, wd', rfl, rfl, ho2, by omega, by omega, hwl, HC2.out, hit2, hb2⟩
        case measure => simp [World.iterPos, hit2, HI.out]; omega
      · by_cases hw : wd = []
        · subst hw
          have HC2 := Lib.hid (show words s = l ++ wordsW [] (s.drop (pos + 1)) by rw [HC.out, HD.out, wordsW, if_pos hbk, if_pos rfl])
          have hts : (str []).toList.isEmpty = true := by rw [toList_str]; rfl
          clear hbk HD
          go_wp2_with fail
          go_roundw
          case rel => exact ⟨pos + 1, A, n, cc, l, [], rfl, rfl, ho2, by omega, by omega, by simp, HC2.out, hit2, hb2⟩
          case measure => simp [World.iterPos, hit2, HI.out]; omega
        · have HC2 := Lib.hid (show words s = (l ++ [wd]) ++ wordsW [] (s.drop (pos + 1)) by rw [HC.out, HD.out, wordsW, if_pos hbk, if_neg hw]; simp)
          have hts : (str wd).toList.isEmpty = false := by rw [toList_str]; simp [hw]
          clear hbk HD hw
          go_wp2_with (at_builtin; go_must (refine appS rfl _ _ rfl w.heap.size A n cc l rfl (ho2.alloc _) w4.heap.size 1 wd rfl ((cells_of (heap_alloc_new w4 _)).1 0) (by simp) (by omega) (by have := HZ.out; simp; omega) ?_))
          intro A' n' c' w' ho' hbw hg
          have hit3 := SO.grow_ne (ho2.alloc _) (heap_alloc_of hit2) hg
          have hb3 := (hb2.alloc (Nat.le_of_lt HZ.out) _).trans hbw
          go_wp2_with fail
          go_roundw
          case rel => exact ⟨pos + 1, A', n', c', _, [], rfl, rfl, ho', by omega, by simp; omega, by simp, HC2.out, hit3, hb3⟩
          case measure => simp [World.iterPos, hit3, HI.out]; omega
    · obtain rfl : pos = s.length := by omega
      have hnx : ∀ ty, (Instr.next (.pointer (some ⟨w.heap.size, 0, none⟩)) true ty).run Tryd.prog wr = .ok (.tuple #[.bool false]) wr := fun ty => Lib.run_next_end_at wr w.heap.size (str s) s.length ty hit (by rw [str_size]; omega)
      have HZ := Lib.hid (heap_lt hit)
      clear hit
      by_cases hw : wd = []
      · subst hw
        have HF := Lib.hid (show words s = l by rw [HC.out, List.drop_length, wordsW, if_pos rfl, List.append_nil])
        have hts : (str []).toList.isEmpty = true := by rw [toList_str]; rfl
        go_wp2_with fail
        go_ret
        exact ⟨A, n, cc, rfl, by rw [HF.out]; exact ho, hb⟩
      · have HF := Lib.hid (show words s = l ++ [wd] by rw [HC.out, List.drop_length, wordsW, if_neg hw])
        have hts : (str wd).toList.isEmpty = false := by rw [toList_str]; simp [hw]
        clear hw
        go_wp2_with (at_builtin; go_must (refine appS rfl _ _ rfl w.heap.size A n cc l rfl (ho.alloc _) wr.heap.size 1 wd rfl ((cells_of (heap_alloc_new wr _)).1 0) (by simp) (by omega) (by have := HZ.out; simp; omega) ?_))
        intro A' n' c' w' ho' hbw hg
        have hb3 := (hb.alloc (Nat.le_of_lt HZ.out) _).trans hbw
        rw [← HF.out] at ho'
        go_wp2_with fail
        go_ret
        exact ⟨A', n', c', rfl, ho', hb3⟩
end Go.Proofs.YtnmdiageigbphaaDoor
