/-
  conf: the words of a text of ASCII bytes.
-/
import Derived.Test.YtnmdiageigbphaaGreatDoorAn5
import Derived.Laws.RangeAny
import Derived.Laws.Runes
namespace Go.Proofs.YtnmdiageigbphaaGreatDoor
section
open Go.RowKit

def adeq (m o : Ad4) : Bool := m.bytes == o.bytes
theorem adeq_iff (m o : Ad4) : adeq m o = true ↔ m = o := by
  cases m; cases o; simp [adeq, Ad4.bytes]
theorem adeq_self (m : Ad4) : adeq m m = true := (adeq_iff m m).2 rfl
theorem run_eql_ad (w : World) (m o : Ad4) : (binOp .eql 24 (adV m) (adV o)).run Tryz.prog w = .ok (.bool (adeq m o)) w :=
  run_eql_bytes (P := Tryz.prog) w 24 5 4 Tryz.underlying24 Tryz.underlying5 (fun w => by kernel_rfl) m.bytes o.bytes rfl rfl
theorem run_neq_of {t : TypeId} {xs ys : Array Value} {w : World} {b : Bool} (h : (binOp .eql t (.agg xs) (.agg ys)).run Tryz.prog w = .ok (.bool b) w) : (binOp .neq t (.agg xs) (.agg ys)).run Tryz.prog w = .ok (.bool (!b)) w := by
  rw [run_neq_struct]
  rw [run_eql_struct] at h
  rcases hx : (Op.equalIn 10000 t (.agg xs) (.agg ys)).run Tryz.prog w with _ | _ | _ | _ <;> rw [hx] at h <;> simp_all [Result.andThen]
theorem run_neq_ad (w : World) (m o : Ad4) : (binOp .neq 24 (adV m) (adV o)).run Tryz.prog w = .ok (.bool (!adeq m o)) w := run_neq_of (run_eql_ad w m o)

def firstA (a : Ad4) (b : Int) : Ad4 := of4 (firstN (numA a) (behN b))
def lastA (a : Ad4) (b : Int) : Ad4 := of4 (lastN (numA a) (behN b))
theorem parseV_err (s : List UInt8) : (parseV s).2 = 0 ∨ (parseV s).2 = 9 := by
  unfold parseV
  split <;> simp
end
section
open Go.RowKit

def digs (l : List UInt8) : Prop := ∀ b ∈ l, 48 ≤ b.toNat ∧ b.toNat ≤ 57
def valF (n : Nat) (l : List UInt8) : Nat := l.foldl (fun n b => 10 * n + (b.toNat - 48)) n
theorem valF_snoc (l : List UInt8) (b : UInt8) : valF 0 (l ++ [b]) = 10 * valF 0 l + (b.toNat - 48) := by simp [valF]
theorem valF_lt : ∀ (l : List UInt8) (n : Nat), digs l → valF n l < (n + 1) * 10 ^ l.length
  | [], n, _ => by simp [valF]
  | b :: r, n, h => by
    have hb := h b (by simp)
    have h2 := valF_lt r (10 * n + (b.toNat - 48)) (fun x hx => h x (by simp [hx]))
    rw [show valF n (b :: r) = valF (10 * n + (b.toNat - 48)) r from rfl, List.length_cons, Nat.pow_succ]
    refine Nat.lt_of_lt_of_le h2 ?_
    rw [show (n + 1) * (10 ^ r.length * 10) = (10 * (n + 1)) * 10 ^ r.length by rw [Nat.mul_comm (10 ^ r.length) 10, ← Nat.mul_assoc, Nat.mul_comm (n + 1) 10]]
    exact Nat.mul_le_mul_right _ (by omega)
theorem valF_ge : ∀ (l : List UInt8) (n : Nat), n * 10 ^ l.length ≤ valF n l
  | [], n => by simp [valF]
  | b :: r, n => by
    have h := valF_ge r (10 * n + (b.toNat - 48))
    rw [show valF n (b :: r) = valF (10 * n + (b.toNat - 48)) r from rfl, List.length_cons, Nat.pow_succ]
    refine Nat.le_trans ?_ h
    rw [show n * (10 ^ r.length * 10) = 10 * n * 10 ^ r.length by rw [Nat.mul_comm (10 ^ r.length) 10, ← Nat.mul_assoc, Nat.mul_comm n 10]]
    exact Nat.mul_le_mul_right _ (by omega)
theorem valF_mono (l : List UInt8) (n : Nat) : n ≤ valF n l := by
  have h := valF_ge l n
  have h2 : 1 ≤ (10 : Nat) ^ l.length := Nat.one_le_pow _ _ (by decide)
  exact Nat.le_trans (by simpa using Nat.mul_le_mul_left n h2) h
/-- A number of the configuration: what its digits say; nothing: it is none. -/
def numGoC : Nat → Nat → List UInt8 → Option Nat
  | n, _, [] => some n
  | n, i, b :: r => if b.toNat < 48 ∨ 57 < b.toNat ∨ (0 < i ∧ n = 0) ∨ 9 ≤ i then none else numGoC (10 * n + (b.toNat - 48)) (i + 1) r
def numC (s : List UInt8) : Option Nat := if s = [] then none else numGoC 0 0 s
def NcPost (w : World) (s : List UInt8) (e : Ending) (w' : World) : Prop :=
  e = .returned (.tuple #[.int .i64 ((numC s).getD 0 : Nat), .bool (numC s).isSome]) ∧ Below w.heap.size w w'
theorem numC_none {s : List UInt8} (h : numGoC 0 0 s = none) : numC s = none := by
  unfold numC
  split <;> simp_all

set_option maxRecDepth 100000 in
set_option maxHeartbeats 2000000 in
theorem numc_any (w : World) (s : List UInt8) (hl : s.length ≤ 1099511627776) :
    Calls Tryz.prog 113 #[.string (str s)] w (NcPost w s) := by
  go_enter Tryz.func113, Tryz.ntmps113
  go_wp2_with fail
  go_loopw [4] (fun v wr => ∃ n pos : Nat, v = .int .i64 n ∧ pos ≤ s.length ∧ pos ≤ 9 ∧ n < 10 ^ pos ∧ numGoC 0 0 s = numGoC n pos (s.drop pos) ∧ wr = w.iter (str s) pos) (fun _ wr => s.length - wr.iterPos w.heap.size)
  case atStart => exact ⟨0, 0, rfl, Nat.zero_le _, Nat.zero_le _, by simp, rfl, rfl⟩
  case round =>
    obtain ⟨n, pos, rfl, hp, hp9, hn, hg, rfl⟩ := hrel
    have hnb : n < 1000000000 := Nat.lt_of_lt_of_le hn (Nat.pow_le_pow_right (by decide : 0 < 10) hp9)
    have HN10 := Lib.hid hn
    have HG := Lib.hid hg
    clear hg hn
    by_cases hlt : pos < s.length
    · obtain ⟨r, k, hd, hk1, hk2, hr, hrk⟩ := dec_step s pos hlt
      have hnx : ∀ ty, (Instr.next (.pointer (some ⟨w.heap.size, 0, none⟩)) true ty).run Tryz.prog (w.iter (str s) pos) = .ok (.tuple #[.bool true, .int .i64 pos, .int .i32 r]) (w.iter (str s) (pos + k)) := by
        intro ty
        have := run_next_any (P := Tryz.prog) w (str s) pos ty hlt
        rw [hd] at this
        exact this
      have HE := Lib.hid (drop_get s pos hlt)
      have HRK := Lib.hid hrk
      clear hrk hd
      have bad : (r < 48 ∨ 57 < r ∨ (0 < pos ∧ n = 0) ∨ 9 ≤ pos) → numC s = none := by
        intro hbad
        refine numC_none ?_
        rw [HG.out, HE.out, numGoC, if_pos]
        rcases HRK.out with ⟨h1, h2, h3⟩ | ⟨h1, h2, h3⟩
        · rcases hbad with h | h | h | h
          · exact .inl (by omega)
          · exact .inr (.inl (by omega))
          · exact .inr (.inr (.inl h))
          · exact .inr (.inr (.inr h))
        · exact .inr (.inl (by omega))
      have good : 48 ≤ r → r ≤ 57 → ¬ (0 < pos ∧ n = 0) → ¬ 9 ≤ pos → k = 1 ∧ numGoC 0 0 s = numGoC (10 * n + (r - 48)) (pos + 1) (s.drop (pos + 1)) ∧ 10 * n + (r - 48) < 10 ^ (pos + 1) := by
        intro g1 g2 g3 g4
        rcases HRK.out with ⟨h1, h2, h3⟩ | ⟨h1, h2, h3⟩
        · refine ⟨h3, ?_, ?_⟩
          · rw [HG.out, HE.out, numGoC, if_neg, ← h2]
            rintro (h | h | h | h)
            · omega
            · omega
            · exact g3 h
            · exact g4 h
          · have := HN10.out
            rw [Nat.pow_succ]
            omega
        · omega
      have HBAD := Lib.hid bad
      have HGOOD := Lib.hid good
      clear bad good
      by_cases c1 : r < 48
      · have HB := Lib.hid (HBAD.out (.inl c1))
        have d1 : decide ((r : Int) < 48) = true := decide_eq_true (by omega)
        go_wp2_with fail
        go_ret2
        exact ⟨by rw [HB.out]; rfl, below_iter w _ _⟩
      have d1 : decide ((r : Int) < 48) = false := decide_eq_false (by omega)
      by_cases c2 : 57 < r
      · have HB := Lib.hid (HBAD.out (.inr (.inl c2)))
        have d2 : decide (57 < (r : Int)) = true := decide_eq_true (by omega)
        go_wp2_with fail
        go_ret2
        exact ⟨by rw [HB.out]; rfl, below_iter w _ _⟩
      have d2 : decide (57 < (r : Int)) = false := decide_eq_false (by omega)
      by_cases c3 : 0 < pos ∧ n = 0
      · have HB := Lib.hid (HBAD.out (.inr (.inr (.inl c3))))
        have d3 : decide (0 < (pos : Int)) = true := decide_eq_true (by omega)
        have d3' : decide (0 < pos) = true := decide_eq_true (by omega)
        have d4 : ((n : Int) == 0) = true := by rw [beq_iff_eq]; omega
        go_wp2_with fail
        go_ret2
        exact ⟨by rw [HB.out]; rfl, below_iter w _ _⟩
      rcases Nat.eq_zero_or_pos pos with c4 | c4
      case' inl =>
        have d3 : decide (0 < (pos : Int)) = false := decide_eq_false (by omega)
        have d3' : decide (0 < pos) = false := decide_eq_false (by omega)
      case' inr =>
        have d3 : decide (0 < (pos : Int)) = true := decide_eq_true (by omega)
        have d3' : decide (0 < pos) = true := decide_eq_true (by omega)
        have d4 : ((n : Int) == 0) = false := by rw [beq_eq_false_iff_ne]; omega
      all_goals
        have HC4 := Lib.hid c4
        clear c4
        by_cases c5 : 9 ≤ pos
        · have HB := Lib.hid (HBAD.out (.inr (.inr (.inr c5))))
          have d5 : decide (9 ≤ (pos : Int)) = true := decide_eq_true (by omega)
          go_wp2_with fail
          go_ret2
          exact ⟨by rw [HB.out]; rfl, below_iter w _ _⟩
        · have d5 : decide (9 ≤ (pos : Int)) = false := decide_eq_false (by omega)
          have HB := Lib.hid (HGOOD.out (by omega) (by omega) c3 c5)
          obtain rfl : k = 1 := HB.out.1
          go_wp2_with fail
          go_roundw
          case rel => exact ⟨10 * n + (r - 48), pos + 1, by congr 1; omega, by omega, by omega, HB.out.2.2, HB.out.2.1, rfl⟩
          case measure => simp; omega
    · have hnx : ∀ ty, (Instr.next (.pointer (some ⟨w.heap.size, 0, none⟩)) true ty).run Tryz.prog (w.iter (str s) pos) = .ok (.tuple #[.bool false]) (w.iter (str s) pos) := fun ty => run_next_end w (str s) pos ty hlt
      have hgo : numGoC 0 0 s = some n := by rw [HG.out, List.drop_eq_nil_of_le (by omega)]; rfl
      by_cases hs : s = []
      · have hts : (str s).toList = [] := by rw [toList_str, hs]
        have HB := Lib.hid (show numC s = none ∧ n = 0 by
          subst hs
          simp [numGoC] at hgo
          exact ⟨rfl, hgo.symm⟩)
        clear hs hgo
        go_wp2_with fail
        go_ret2
        exact ⟨by rw [HB.out.1, HB.out.2]; rfl, below_iter w _ _⟩
      · have hts : ¬ (str s).toList = [] := by rw [toList_str]; exact hs
        have HB := Lib.hid (show numC s = some n by rw [numC, if_neg hs, hgo])
        have HS := Lib.hid hs
        clear hs hgo
        go_wp2_with fail
        go_ret2
        refine ⟨?_, below_iter w _ _⟩
        rw [HB.out]
        simp [*]
end
section
open Go.RowKit

def asc (s : List UInt8) : Prop := ∀ b ∈ s, b.toNat < 128
theorem asc_get {s : List UInt8} (h : asc s) (i : Nat) : (s.getD i 0).toNat < 128 := by
  rcases Nat.lt_or_ge i s.length with hi | hi
  · exact h _ (by simp [List.getD, hi])
  · simp [List.getD, List.getElem?_eq_none hi]
def blk (b : UInt8) : Bool := b == 32 || b == 9
def wordsW : List UInt8 → List UInt8 → List (List UInt8)
  | w, [] => if w = [] then [] else [w]
  | w, b :: r => if blk b = true then (if w = [] then wordsW [] r else w :: wordsW [] r) else wordsW (w ++ [b]) r
def words (s : List UInt8) : List (List UInt8) := wordsW [] s
def BlP (w : World) (v : Bool) (e : Ending) (w' : World) : Prop := e = .returned (.bool v) ∧ w' = w
theorem blank_any (w : World) (b : UInt8) : Calls Tryz.prog 82 #[.int .i32 (b.toNat : Int)] w (BlP w (blk b)) := by
  by_cases h1 : b = 32
  · subst h1
    go_enter Tryz.func82, Tryz.ntmps82
    go_wp2_with fail
    go_ret
    exact ⟨rfl, rfl⟩
  · have x1 : ((b.toNat : Int) == 32) = false := by
      rw [beq_eq_false_iff_ne]
      intro e
      exact h1 (UInt8.toNat_inj.1 (by simp; omega))
    by_cases h2 : b = 9
    · subst h2
      go_enter Tryz.func82, Tryz.ntmps82
      go_wp2_with fail
      go_ret
      exact ⟨rfl, rfl⟩
    · have x2 : ((b.toNat : Int) == 9) = false := by
        rw [beq_eq_false_iff_ne]
        intro e
        exact h2 (UInt8.toNat_inj.1 (by simp; omega))
      have HB := Lib.hid (show blk b = false by simp [blk, h1, h2])
      clear h1 h2
      go_enter Tryz.func82, Tryz.ntmps82
      go_wp2_with fail
      go_ret
      exact ⟨by rw [HB.out]; rfl, rfl⟩
theorem str_addL (w : World) (x y : List UInt8) (h : x.length + y.length ≤ 2000000) : (Op.stringOp .add (str x) (str y)).run Tryz.prog w = .ok (.string (str (x ++ y))) w := by
  have h1 := run_string_add_sum (P := Tryz.prog) (w := w) (str x) (str y) (by rw [str_size, str_size]; omega)
  rw [str_append] at h1
  exact h1
theorem rune_str (b : UInt8) (h : b.toNat < 128) (w : World) : (convert 21 9 (.int .i32 (b.toNat : Int))).run Tryz.prog w = .ok (.string (str [b])) w := by
  rw [run_convert_int_string w _ _ _ _ (by rw [Tryz.underlying21]; rfl) Tryz.underlying9]
  have h1 : Utf8.valid (b.toNat : Int) = true := by simp [Utf8.valid]; omega
  have h2 : UInt8.ofNat b.toNat = b := UInt8.ofNat_toNat
  simp [Utf8.encode, h1, h, h2, str]
theorem next_asc (wr : World) (k : Nat) (s : List UInt8) (pos : Nat) (ha : asc s) (hit : wr.heap[k]? = some (.stringIter (str s) pos)) (h : pos < s.length) (ty : TypeId) :
    (Instr.next (.pointer (some ⟨k, 0, none⟩)) true ty).run Tryz.prog wr = .ok (.tuple #[.bool true, .int .i64 pos, .int .i32 ((s.getD pos 0).toNat : Int)]) (wr.iterAt k (str s) (pos + 1)) := by
  obtain ⟨r, kk, hd, hk1, hk2, hr, hrk⟩ := dec_step s pos h
  have := Lib.run_next_any_at (P := Tryz.prog) wr k (str s) pos ty hit h
  rw [hd] at this
  rcases hrk with ⟨h1, h2, h3⟩ | ⟨h1, _⟩
  · subst h2 h3
    exact this
  · have := asc_get ha pos
    omega
/-- Behind some rounds. -/
def WRel (w : World) (s : List UInt8) (v x : Value) (wr : World) (pos : Nat) : Prop :=
  ∃ A n cc l wd, v = .slice A n cc ∧ x = .string (str wd) ∧ SO wr w.heap.size A n cc l ∧ pos ≤ s.length ∧ l.length ≤ pos ∧ wd.length ≤ pos ∧ words s = l ++ wordsW wd (s.drop pos) ∧
    wr.heap[w.heap.size]? = some (.stringIter (str s) pos) ∧ Below w.heap.size w wr

set_option maxRecDepth 100000 in
set_option maxHeartbeats 4000000 in
theorem words_any (w : World) (s : List UInt8) (ha : asc s) (hl : s.length ≤ 1000000) :
    Calls Tryz.prog 54 #[.string (str s)] w (PartsPost w (words s)) := by
  go_enter Tryz.func54, Tryz.ntmps54
  go_wp2_with fail
  go_loopw [3, 4] (fun v f wr => ∃ pos, WRel w s v f wr pos) (fun _ _ wr => s.length - wr.iterPos w.heap.size)
  case atStart => exact ⟨0, none, 0, 0, [], [], rfl, rfl, ⟨rfl, World.ownsRow_nil _ _ _ _⟩, Nat.zero_le _, Nat.zero_le _, Nat.zero_le _, rfl, World.iter_heap w (str s) 0, below_iter w _ _⟩
  case round =>
    obtain ⟨pos, A, n, cc, l, wd, rfl, rfl, ho, hp, hlp, hwp, hcut, hit, hb⟩ := hrel
    have HC := Lib.hid hcut
    have HI := Lib.hid hit
    clear hcut
    have hz := hb.size
    by_cases hlt : pos < s.length
    · have hnx := next_asc wr w.heap.size s pos ha hit hlt
      obtain ⟨b, hbb⟩ : ∃ b, s.getD pos 0 = b := ⟨_, rfl⟩
      have HA := Lib.hid (asc_get ha pos)
      have HD := Lib.hid (drop_get s pos hlt)
      rw [hbb] at hnx HA HD
      have ho2 := ho.iterAt hit (pos + 1)
      have hit2 := Lib.iterAt_heap wr w.heap.size (str s) pos (pos + 1) hit
      have hb2 := Lib.below_iterAt hb (k := w.heap.size) (Nat.le_refl _) (str s) (pos + 1)
      have hz2 : w.heap.size < (wr.iterAt w.heap.size (str s) (pos + 1)).heap.size := heap_lt hit2
      have HZ := Lib.hid hz2
      clear hit ho hz2 hbb
      generalize wr.iterAt w.heap.size (str s) (pos + 1) = wi at hnx ho2 hit2 hb2 HZ
      go_wp2_with fail
      refine (blank_any wi b).mono ?_
      rintro e w4 ⟨rfl, rfl⟩
      rcases hbk : blk b with _ | _
      · have sconv : ∀ w, (convert 21 9 (.int .i32 (b.toNat : Int))).run Tryz.prog w = .ok (.string (str [b])) w := rune_str b HA.out
        have sadd : ∀ w, (Op.stringOp .add (str wd) (str [b])).run Tryz.prog w = .ok (.string (str (wd ++ [b]))) w := fun w => str_addL w wd [b] (by simp; omega)
        have HC2 := Lib.hid (show words s = l ++ wordsW (wd ++ [b]) (s.drop (pos + 1)) by rw [HC.out, HD.out, wordsW, if_neg (by rw [hbk]; decide)])
        have hwl : (wd ++ [b]).length ≤ pos + 1 := by simp; omega
        obtain ⟨wd', hwd⟩ : ∃ x, wd ++ [b] = x := ⟨_, rfl⟩
        rw [hwd] at sadd HC2 hwl
        clear hbk hwd HD
        go_wp2_with fail
        go_roundw
        case rel => exact ⟨pos + 1, A, n, cc, l, wd', rfl, rfl, ho2, by omega, by omega, hwl, HC2.out, hit2, hb2⟩
        case measure => simp [World.iterPos, hit2, HI.out]; omega
      · by_cases hw : wd = []
        · subst hw
          have HC2 := Lib.hid (show words s = l ++ wordsW [] (s.drop (pos + 1)) by rw [HC.out, HD.out, wordsW, if_pos hbk, if_pos rfl])
          have hts : (str []).toList.isEmpty = true := by rw [toList_str]; rfl
          clear hbk HD
          go_wp2_with fail
          go_roundw
          case rel => exact ⟨pos + 1, A, n, cc, l, [], rfl, rfl, ho2, by omega, by omega, by simp, HC2.out, hit2, hb2⟩
          case measure => simp [World.iterPos, hit2, HI.out]; omega
        · have HC2 := Lib.hid (show words s = (l ++ [wd]) ++ wordsW [] (s.drop (pos + 1)) by rw [HC.out, HD.out, wordsW, if_pos hbk, if_neg hw]; simp)
          have hts : (str wd).toList.isEmpty = false := by rw [toList_str]; simp [hw]
          clear hbk HD hw
          go_wp2_with (at_builtin; go_must (refine appS rfl _ _ rfl w.heap.size A n cc l rfl (ho2.alloc _) w4.heap.size 1 wd rfl ((cells_of (heap_alloc_new w4 _)).1 0) (by simp) (by omega) (by have := HZ.out; simp; omega) ?_))
          intro A' n' c' w' ho' hbw hg
          have hit3 := SO.grow_ne (ho2.alloc _) (heap_alloc_of hit2) hg
          have hb3 := (hb2.alloc (Nat.le_of_lt HZ.out) _).trans hbw
          go_wp2_with fail
          go_roundw
          case rel => exact ⟨pos + 1, A', n', c', _, [], rfl, rfl, ho', by omega, by simp; omega, by simp, HC2.out, hit3, hb3⟩
          case measure => simp [World.iterPos, hit3, HI.out]; omega
    · obtain rfl : pos = s.length := by omega
      have hnx : ∀ ty, (Instr.next (.pointer (some ⟨w.heap.size, 0, none⟩)) true ty).run Tryz.prog wr = .ok (.tuple #[.bool false]) wr := fun ty => Lib.run_next_end_at wr w.heap.size (str s) s.length ty hit (by rw [str_size]; omega)
      have HZ := Lib.hid (heap_lt hit)
      clear hit
      by_cases hw : wd = []
      · subst hw
        have HF := Lib.hid (show words s = l by rw [HC.out, List.drop_length, wordsW, if_pos rfl, List.append_nil])
        have hts : (str []).toList.isEmpty = true := by rw [toList_str]; rfl
        go_wp2_with fail
        go_ret
        exact ⟨A, n, cc, rfl, by rw [HF.out]; exact ho, hb⟩
      · have HF := Lib.hid (show words s = l ++ [wd] by rw [HC.out, List.drop_length, wordsW, if_neg hw])
        have hts : (str wd).toList.isEmpty = false := by rw [toList_str]; simp [hw]
        clear hw
        go_wp2_with (at_builtin; go_must (refine appS rfl _ _ rfl w.heap.size A n cc l rfl (ho.alloc _) wr.heap.size 1 wd rfl ((cells_of (heap_alloc_new wr _)).1 0) (by simp) (by omega) (by have := HZ.out; simp; omega) ?_))
        intro A' n' c' w' ho' hbw hg
        have hb3 := (hb.alloc (Nat.le_of_lt HZ.out) _).trans hbw
        rw [← HF.out] at ho'
        go_wp2_with fail
        go_ret
        exact ⟨A', n', c', rfl, ho', hb3⟩
end
end Go.Proofs.YtnmdiageigbphaaGreatDoor
