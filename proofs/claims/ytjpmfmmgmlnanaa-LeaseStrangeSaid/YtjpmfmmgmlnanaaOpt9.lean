/-
  The laws' own conversion of options, and whether two lists of options are alike.
-/
import Derived.Test.YtjpmfmmgmlnanaaOpt8
namespace Go.Proofs.Ytjpmfmmgmlnanaa
open Go.RowKit

/-- append(own row of pairs of cells, one that was just made), at one operation. -/
theorem wp_app2 {w : World} {o : Oper} {a : Act} {K : Act → World → Prop} {Q : Exit → Act → World → Prop} (s x : Operand) (T t : TypeId) (hT : Try.prog.underlying T = some (.slice t))
    (hI : (Try.prog.info? t).map (fun i => (i.zero, i.size, i.bytes)) = some (some (.agg #[.int .i64 0, .slice none 0 0]), 2, 32))
    (ho : o.op = .call { callee := .builtin .append, args := #[s, x], argTypes := #[T, T] })
    (H : Nat) (A : Option Addr) (n c : Nat) (xs : List Value) (hs : a.eval s = .slice A n c) (hown : w.ownsRow H t 2 (.slice A n c) n xs)
    (g : Nat) (c2 : Nat) (hx : a.eval x = .slice (some ⟨g, 0, none⟩) 1 c2) (v1 v2 : Value)
    (hg : w.heap[g]? = some (.cells #[v1, v2] t (0, 0))) (h1 : v1.oneCell' = true) (h2 : v2.oneCell' = true)
    (hlen : n + 1 ≤ 2199023255552) (hbase : H ≤ w.heap.size)
    (h : ∀ A' c' w', w'.ownsRow H t 2 (.slice A' (n + 1) c') (n + 1) (xs ++ [v1, v2]) → Below H w w' → w.grownBy w' (Value.slice A n c).ownBlock → K (a.put o.dst (.slice A' (n + 1) c')) w') : o.wp Try.prog a w K Q := by
  obtain ⟨i0, hi, hz0, hz1, hz2⟩ := info_parts hI
  obtain ⟨v', w', hrun, h2, h3, _, h5⟩ := run_append_own_at (P := Try.prog) w H T o.type t i0 _ 2 32 hT hi hz0 hz1 hz2 rfl (by omega) _ n xs hown ⟨g, 0, none⟩ 1 c2
    [v1, v2] rfl (fun j u hu => by rw [Addr.add_lit, Nat.zero_add, cell_of_row w g j _ _ _ hg]; simpa using hu) (by simp [h1, h2]) (by unfold maxLen; omega) (by omega) hbase
  have hform : ∃ A' c', v' = Value.slice A' (n + 1) c' := by
    rcases h2.2 with ⟨hv, h0⟩ | ⟨g', cap, _, hv, _⟩
    · omega
    · exact ⟨_, _, hv⟩
  obtain ⟨A', c', rfl⟩ := hform
  unfold Oper.wp execOp
  simp only [ho, resolve, invoke, builtin, Sem.run_bind, Sem.run_pure, Result.andThen_ok, List.map_toArray, List.map_cons, List.map_nil, hs, hx, hrun]
  exact h A' c' w' h2 ((Below.refl H w).grown h3 hbase fun k hk => (hown.lt k hk).1) h3

theorem opCells_take_succ (l : List Op1) (j : Nat) (x : Op1) (h : l[j]? = some x) : opCells (l.take j) ++ [.int .i64 x.code, .slice x.A x.n x.c] = opCells (l.take (j + 1)) := by
  obtain ⟨hj, rfl⟩ := List.getElem?_eq_some_iff.1 h
  rw [List.take_succ_eq_append_getElem hj, opCells_append]
  rfl
def OwnOsPost (w : World) (l : List Op1) (e : Ending) (w' : World) : Prop :=
  ∃ A n c, e = .returned (.slice A n c) ∧ OS w' w'.heap.size A n c l ∧ Below w.heap.size w w'

/-- Whether two lists of options are alike. -/
def sameO (a b : List Ob) : Bool := decide (a = b)
theorem sameO_self (a : List Ob) : sameO a a = true := by simp [sameO]
theorem take_grow {α : Type} {a b : List α} {j : Nat} {x y : α} (h : a.take j = b.take j) (hx : a[j]? = some x) (hy : b[j]? = some y) (e : x = y) : a.take (j + 1) = b.take (j + 1) := by
  obtain ⟨h1, h2⟩ := List.getElem?_eq_some_iff.1 hx
  obtain ⟨h3, h4⟩ := List.getElem?_eq_some_iff.1 hy
  rw [List.take_succ_eq_append_getElem h1, List.take_succ_eq_append_getElem h3, h, h2, h4, e]

end Go.Proofs.Ytjpmfmmgmlnanaa
