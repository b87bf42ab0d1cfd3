/-
  The reference's GetOpts.
-/
import Derived.Test.YtjpmfmmgmlnanaaOpt7
import Derived.Test.YtjpmfmmgmlnanaaAt
namespace Go.Proofs.Ytjpmfmmgmlnanaa
open Go.RowKit

theorem run_slice8 (W : World) (A : Option Addr) (n c lo hi : Nat) (h1 : lo ≤ hi) (h2 : hi ≤ c) :
    (Instr.slice 62 (.slice A n c) (some (.int .i64 (lo : Int))) (some (.int .i64 (hi : Int))) none).run Try.prog W = .ok (.slice (if c = lo then A else A.map (·.add lo)) (hi - lo) (c - lo)) W := by
  obtain ⟨i0, hi0, hz0, hz1, hz2⟩ := info_parts infoU8
  have he : Try.prog.elem 62 = 5 := by kernel_rfl
  rw [run_slice_lh _ _ _ _ _ (by rw [he]; exact Try.underlying62) _ _ _ _ (by omega) (by omega) (by omega), he]
  simp [sizeOf, typeInfo, hi0, hz1, sliced, Result.andThen]
/-- What the reference's inner loop has done after i rounds. -/
def jTo (l : List Ob) (c : Int) (b : List UInt8) (i : Nat) : List Ob := (l.take i).map (fun o => if o.1 = c then (o.1, o.2 ++ b) else o) ++ l.drop i
def fTo (l : List Ob) (c : Int) (i : Nat) : Bool := (l.take i).any (fun o => o.1 == c)
theorem jTo_zero (l : List Ob) (c : Int) (b : List UInt8) : jTo l c b 0 = l := rfl
theorem jTo_all (l : List Ob) (c : Int) (b : List UInt8) (i : Nat) (h : l.length ≤ i) : jTo l c b i = l.map (fun o => if o.1 = c then (o.1, o.2 ++ b) else o) := by
  rw [jTo, List.take_of_length_le h, List.drop_eq_nil_of_le h, List.append_nil]
theorem fTo_all (l : List Ob) (c : Int) (i : Nat) (h : l.length ≤ i) : fTo l c i = l.any (fun o => o.1 == c) := by
  rw [fTo, List.take_of_length_le h]
theorem jTo_len (l : List Ob) (c : Int) (b : List UInt8) (i : Nat) : (jTo l c b i).length = l.length := by
  unfold jTo; simp; omega
theorem jTo_no (l : List Ob) (c : Int) (b : List UInt8) (i : Nat) (o : Ob) (h : l[i]? = some o) (hc : o.1 ≠ c) : jTo l c b (i + 1) = jTo l c b i := by
  obtain ⟨hi, rfl⟩ := List.getElem?_eq_some_iff.1 h
  rw [jTo, jTo, List.take_succ_eq_append_getElem hi, List.map_append, List.map_cons, List.map_nil, if_neg hc, List.append_assoc, List.drop_eq_getElem_cons hi]
  rfl
theorem jTo_yes (l : List Ob) (c : Int) (b : List UInt8) (i : Nat) (o : Ob) (h : l[i]? = some o) (hc : o.1 = c) : jTo l c b (i + 1) = (jTo l c b i).set i (o.1, o.2 ++ b) := by
  obtain ⟨hi, rfl⟩ := List.getElem?_eq_some_iff.1 h
  rw [jTo, jTo, List.take_succ_eq_append_getElem hi, List.map_append, List.map_cons, List.map_nil, if_pos hc, List.append_assoc, List.drop_eq_getElem_cons hi]
  rw [List.set_append_right _ _ (by rw [List.length_map, List.length_take]; exact Nat.min_le_left _ _), List.length_map, List.length_take, Nat.min_eq_left (Nat.le_of_lt hi), Nat.sub_self, List.set_cons_zero]
  rfl
theorem jTo_at (l : List Ob) (c : Int) (b : List UInt8) (i : Nat) : (jTo l c b i)[i]? = l[i]? := by
  unfold jTo
  by_cases hi : i < l.length
  · rw [List.getElem?_append_right (by simp; omega)]
    simp [Nat.min_eq_left (Nat.le_of_lt hi)]
  · rw [List.getElem?_eq_none (by simp; omega), List.getElem?_eq_none (by omega)]
theorem fTo_snoc (l : List Ob) (c : Int) (i : Nat) (o : Ob) (h : l[i]? = some o) : fTo l c (i + 1) = (fTo l c i || o.1 == c) := by
  obtain ⟨hi, rfl⟩ := List.getElem?_eq_some_iff.1 h
  rw [fTo, fTo, List.take_succ_eq_append_getElem hi, List.any_append]
  simp
theorem jTo_body (l : List Ob) (c : Int) (b : List UInt8) (i m : Nat) (h : ∀ o ∈ l, o.2.length + b.length ≤ m) : ∀ o ∈ jTo l c b i, o.2.length ≤ m := by
  intro o ho
  rcases List.mem_append.1 ho with ho | ho
  · obtain ⟨x, hx, rfl⟩ := List.mem_map.1 ho
    have := h x (List.mem_of_mem_take hx)
    split
    · simp; omega
    · omega
  · have := h o (List.mem_of_mem_drop ho)
    omega
theorem obs_set (l : List Op1) (i : Nat) (x : Op1) : obs (l.set i x) = (obs l).set i x.ob := List.map_set
theorem obs_get (l : List Op1) (i : Nat) : (obs l)[i]? = (l[i]?).map Op1.ob := List.getElem?_map

end Go.Proofs.Ytjpmfmmgmlnanaa
