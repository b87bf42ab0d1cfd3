/-
  What opt.Get gives, in one form; addresses compared.
-/
import Derived.Test.YtjpmfmmgmlnanaaOpt12
import Derived.Test.YtjpmfmmgmlnanaaOpt5
import Derived.Stop.BytesEq
namespace Go.Proofs.Ytjpmfmmgmlnanaa
open Go.RowKit

def adeq (m o : Ad4) : Bool := m.bytes == o.bytes
theorem adeq_iff (m o : Ad4) : adeq m o = true ↔ m = o := by
  cases m; cases o; simp [adeq, Ad4.bytes]
theorem run_eql_ad (w : World) (m o : Ad4) : (binOp .eql 34 (adV m) (adV o)).run Try.prog w = .ok (.bool (adeq m o)) w :=
  run_eql_bytes (P := Try.prog) w 34 5 4 Try.underlying34 Try.underlying5 (fun w => by kernel_rfl) m.bytes o.bytes rfl rfl

/-- What Get gives, in one form. -/
def GetUPost (w : World) (lo : List Ob) (err : Int) (e : Ending) (w' : World) : Prop :=
  ∃ A n c l, e = .returned (.tuple #[.slice A n c, .int .i64 err]) ∧ OO w' w.heap.size 64 A n c l ∧ obs l = lo ∧ Below w.heap.size w w'
def GetCase (b : List UInt8) (lo : List Ob) (err : Int) (ok : Bool) : Prop := (getO b = some lo ∧ err = 0 ∧ ok = true) ∨ (getO b = none ∧ lo = [] ∧ err = 3 ∧ ok = false)
theorem joinO_size : ∀ (l : List Ob) (c : Int) (b : List UInt8) (m : Nat), (∀ o ∈ l, o.2.length ≤ m) → (joinO l c b).length ≤ l.length + 1 ∧ ∀ o ∈ joinO l c b, o.2.length ≤ m + b.length
  | [], c, b, m, _ => by simp [joinO]
  | o :: r, c, b, m, h => by
    have h0 := h o (List.mem_cons_self ..)
    have hr := fun x hx => h x (List.mem_cons_of_mem _ hx)
    rw [joinO]
    split
    · refine ⟨by simp, fun x hx => ?_⟩
      rcases List.mem_cons.1 hx with rfl | hx
      · simp; omega
      · have := hr x hx; omega
    · obtain ⟨h1, h2⟩ := joinO_size r c b m hr
      refine ⟨by simp; omega, fun x hx => ?_⟩
      rcases List.mem_cons.1 hx with rfl | hx
      · omega
      · exact h2 x hx
theorem getF_size : ∀ (k : Nat) (l : List UInt8) (acc r : List Ob) (m : Nat), getF k l acc = some r → acc.length + l.length ≤ m → (∀ o ∈ acc, o.2.length + l.length ≤ m) → r.length ≤ m ∧ ∀ o ∈ r, o.2.length ≤ m
  | 0, _, _, _, _, h, _, _ => by cases h
  | k + 1, [], _, _, _, h, _, _ => by cases h
  | k + 1, c :: r, acc, res, m, h, h1, h2 => by
    rw [getF_cons] at h
    simp only [List.length_cons] at h1 h2
    by_cases h0 : c = 0
    · rw [if_pos h0] at h
      exact getF_size k r acc res m h (by omega) (fun o ho => by have := h2 o ho; omega)
    · rw [if_neg h0] at h
      by_cases h255 : c = 255
      · rw [if_pos h255] at h
        injection h with h
        subst h
        exact ⟨by omega, fun o ho => by have := h2 o ho; omega⟩
      · rw [if_neg h255] at h
        rcases r with _ | ⟨n, r'⟩
        · cases h
        · dsimp only at h
          simp only [List.length_cons] at h1 h2
          by_cases hn : n.toNat ≤ r'.length
          · rw [if_pos hn] at h
            obtain ⟨j1, j2⟩ := joinO_size acc c.toNat (r'.take n.toNat) (m - (r'.length + 1 + 1)) (fun o ho => by have := h2 o ho; omega)
            rw [List.length_take] at j2
            refine getF_size k _ _ res m h (by simp; omega) (fun o ho => ?_)
            have := j2 o ho
            simp
            rcases Nat.lt_or_ge m (r'.length + 2) with h3 | h3
            · omega
            · omega
          · rw [if_neg hn] at h
            cases h
theorem getO_size (b : List UInt8) (r : List Ob) (h : getO b = some r) : r.length ≤ b.length ∧ ∀ o ∈ r, o.2.length ≤ b.length :=
  getF_size _ _ _ _ _ h (by simp) (by simp)

end Go.Proofs.Ytjpmfmmgmlnanaa
