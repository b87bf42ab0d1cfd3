/-
  conf: the words of a text of ASCII bytes.
-/
import Derived.Test.YtccbdaffjkdpgaaGreatDoorAn5
import Derived.Laws.RangeAny
import Derived.Laws.Runes
namespace Go.Proofs.YtccbdaffjkdpgaaGreatDoor
section
open Go.RowKit

def adeq (m o : Ad4) : Bool := m.bytes == o.bytes
theorem adeq_iff (m o : Ad4) : adeq m o = true ↔ m = o := by
  cases m; cases o; simp [adeq, Ad4.bytes]
theorem adeq_self (m : Ad4) : adeq m m = true := (adeq_iff m m).2 rfl
theorem run_eql_ad (w : World) (m o : Ad4) : (binOp .eql 26 (adV m) (adV o)).run Tryz.prog w = .ok (.bool (adeq m o)) w :=
  run_eql_bytes (P := Tryz.prog) w 26 5 4 Tryz.underlying26 Tryz.underlying5 (fun w => by kernel_rfl) m.bytes o.bytes rfl rfl
theorem run_neq_of {t : TypeId} {xs ys : Array Value} {w : World} {b : Bool} (h : (binOp .eql t (.agg xs) (.agg ys)).run Tryz.prog w = .ok (.bool b) w) : (binOp .neq t (.agg xs) (.agg ys)).run Tryz.prog w = .ok (.bool (!b)) w := by
  rw [run_neq_struct]
  rw [run_eql_struct] at h
  rcases hx : (Op.equalIn 10000 t (.agg xs) (.agg ys)).run Tryz.prog w with _ | _ | _ | _ <;> rw [hx] at h <;> simp_all [Result.andThen]
theorem run_neq_ad (w : World) (m o : Ad4) : (binOp .neq 26 (adV m) (adV o)).run Tryz.prog w = .ok (.bool (!adeq m o)) w := run_neq_of (run_eql_ad w m o)

def firstA (a : Ad4) (b : Int) : Ad4 := of4 (firstN (numA a) (behN b))
def lastA (a : Ad4) (b : Int) : Ad4 := of4 (lastN (numA a) (behN b))
theorem parseV_err (s : List UInt8) : (parseV s).2 = 0 ∨ (parseV s).2 = 9 := by
  unfold parseV
  split <;> simp
end
section
open Go.RowKit

def digs (l : List UInt8) : Prop := ∀ b ∈ l, 48 ≤ b.toNat ∧ b.toNat ≤ 57
def valF (n : Nat) (l : List UInt8) : Nat := l.foldl (fun n b => 10 * n + (b.toNat - 48)) n
theorem valF_snoc (l : List UInt8) (b : UInt8) : valF 0 (l ++ [b]) = 10 * valF 0 l + (b.toNat - 48) := by simp [valF]
theorem valF_lt : ∀ (l : List UInt8) (n : Nat), digs l → valF n l < (n + 1) * 10 ^ l.length
  | [], n, _ => by simp [valF]
  | b :: r, n, h => by
    have hb := h b (by simp)
    have h2 := valF_lt r (10 * n + (b.toNat - 48)) (fun x hx => h x (by simp [hx]))
    rw [show valF n (b :: r) = valF (10 * n + (b.toNat - 48)) r from rfl, List.length_cons, Nat.pow_succ]
    refine Nat.lt_of_lt_of_le h2 ?_
    rw [show (n + 1) * (10 ^ r.length * 10) = (10 * (n + 1)) * 10 ^ r.length by rw [Nat.mul_comm (10 ^ r.length) 10, ← Nat.mul_assoc, Nat.mul_comm (n + 1) 10]]
    exact Nat.mul_le_mul_right _ (by omega)
theorem valF_ge : ∀ (l : List UInt8) (n : Nat), n * 10 ^ l.length ≤ valF n l
  | [], n => by simp [valF]
  | b :: r, n => by
    have h := valF_ge r (10 * n + (b.toNat - 48))
    rw [show valF n (b :: r) = valF (10 * n + (b.toNat - 48)) r from rfl, List.length_cons, Nat.pow_succ]
    refine Nat.le_trans ?_ h
    rw [show n * (10 ^ r.length * 10) = 10 * n * 10 ^ r.length by rw [Nat.mul_comm (10 ^ r.length) 10, ← Nat.mul_assoc, Nat.mul_comm n 10]]
    exact Nat.mul_le_mul_right _ (by omega)
theorem valF_mono (l : List UInt8) (n : Nat) : n ≤ valF n l := by
  have h := valF_ge l n
  have h2 : 1 ≤ (10 : Nat) ^ l.length := Nat.one_le_pow _ _ (by decide)
  exact Nat.le_trans (by simpa using Nat.mul_le_mul_left n h2) h
/-- A number of the configuration: what its digits say; nothing: it is none. -/
def numGoC : Nat → Nat → List UInt8 → Option Nat
  | n, _, [] => some n
  | n, i, b :: r => if b.toNat < 48 ∨ 57 < b.toNat ∨ (0 < i ∧ n = 0) ∨ 9 ≤ i then none else numGoC (10 * n + (b.toNat - 48)) (i + 1) r
def numC (s : List UInt8) : Option Nat := if s = [] then none else numGoC 0 0 s
def NcPost (w : World) (s : List UInt8) (e : Ending) (w' : World) : Prop :=
  e = .returned (.tuple #[.int .i64 ((numC s).getD 0 : Nat), .bool (numC s).isSome]) ∧ Below w.heap.size w w'
theorem numC_none {s : List UInt8} (h : numGoC 0 0 s = none) : numC s = none := by
  unfold numC
  split <;> simp_all

end
section
open Go.RowKit

def asc (s : List UInt8) : Prop := ∀ b ∈ s, b.toNat < 128
theorem asc_get {s : List UInt8} (h : asc s) (i : Nat) : (s.getD i 0).toNat < 128 := by
  rcases Nat.lt_or_ge i s.length with hi | hi
  · exact h _ (by simp [List.getD, hi])
  · simp [List.getD, List.getElem?_eq_none hi]
def blk (b : UInt8) : Bool := b == 32 || b == 9
def wordsW : List UInt8 → List UInt8 → List (List UInt8)
  | w, [] => if w = [] then [] else [w]
  | w, b :: r => if blk b = true then (if w = [] then wordsW [] r else w :: wordsW [] r) else wordsW (w ++ [b]) r
def words (s : List UInt8) : List (List UInt8) := wordsW [] s
def BlP (w : World) (v : Bool) (e : Ending) (w' : World) : Prop := e = .returned (.bool v) ∧ w' = w
theorem str_addL (w : World) (x y : List UInt8) (h : x.length + y.length ≤ 2000000) : (Op.stringOp .add (str x) (str y)).run Tryz.prog w = .ok (.string (str (x ++ y))) w := by
  have h1 := run_string_add_sum (P := Tryz.prog) (w := w) (str x) (str y) (by rw [str_size, str_size]; omega)
  rw [str_append] at h1
  exact h1
theorem rune_str (b : UInt8) (h : b.toNat < 128) (w : World) : (convert 21 9 (.int .i32 (b.toNat : Int))).run Tryz.prog w = .ok (.string (str [b])) w := by
  rw [run_convert_int_string w _ _ _ _ (by rw [Tryz.underlying21]; rfl) Tryz.underlying9]
  have h1 : Utf8.valid (b.toNat : Int) = true := by simp [Utf8.valid]; omega
  have h2 : UInt8.ofNat b.toNat = b := UInt8.ofNat_toNat
  simp [Utf8.encode, h1, h, h2, str]
theorem next_asc (wr : World) (k : Nat) (s : List UInt8) (pos : Nat) (ha : asc s) (hit : wr.heap[k]? = some (.stringIter (str s) pos)) (h : pos < s.length) (ty : TypeId) :
    (Instr.next (.pointer (some ⟨k, 0, none⟩)) true ty).run Tryz.prog wr = .ok (.tuple #[.bool true, .int .i64 pos, .int .i32 ((s.getD pos 0).toNat : Int)]) (wr.iterAt k (str s) (pos + 1)) := by
  obtain ⟨r, kk, hd, hk1, hk2, hr, hrk⟩ := dec_step s pos h
  have := Lib.run_next_any_at (P := Tryz.prog) wr k (str s) pos ty hit h
  rw [hd] at this
  rcases hrk with ⟨h1, h2, h3⟩ | ⟨h1, _⟩
  · subst h2 h3
    exact this
  · have := asc_get ha pos
    omega
/-- Behind some rounds. -/
def WRel (w : World) (s : List UInt8) (v x : Value) (wr : World) (pos : Nat) : Prop :=
  ∃ A n cc l wd, v = .slice A n cc ∧ x = .string (str wd) ∧ SO wr w.heap.size A n cc l ∧ pos ≤ s.length ∧ l.length ≤ pos ∧ wd.length ≤ pos ∧ words s = l ++ wordsW wd (s.drop pos) ∧
    wr.heap[w.heap.size]? = some (.stringIter (str s) pos) ∧ Below w.heap.size w wr

end
end Go.Proofs.YtccbdaffjkdpgaaGreatDoor
