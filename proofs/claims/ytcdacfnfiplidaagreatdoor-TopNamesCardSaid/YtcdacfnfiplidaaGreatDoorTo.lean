/-
  Rows of structs that a function makes (out of Kq6, Kq15).
-/
import Derived.Maps.AppendAt
import Derived.Test.YtcdacfnfiplidaaGreatDoorTn5
namespace Go.Proofs.YtcdacfnfiplidaaGreatDoor
section
open Go.RowKit

def TO (w : World) (H : Nat) (t : TypeId) (K : Nat) (A : Option Addr) (n c : Nat) (k : Nat) (l : List Value) : Prop := n = k ∧ w.ownsRow H t K (.slice A n c) n l
section
variable {w w' : World} {H K n c k : Nat} {t : TypeId} {A : Option Addr} {l : List Value}
theorem TO.nil_ (w : World) (H : Nat) (t : TypeId) (K : Nat) : TO w H t K none 0 0 0 [] := ⟨rfl, World.ownsRow_nil _ _ _ _⟩
theorem TO.ne (h : TO w H t K A n c k l) {g : Nat} {cs : Array Value} {t' : TypeId} {fr : Nat × Nat} (hg : w.heap[g]? = some (.cells cs t' fr)) (ht : t' ≠ t) : (Value.slice A n c).ownBlock = none ∨ (Value.slice A n c).ownBlock ≠ some g := by
  rcases h.2.2 with ⟨hv, _⟩ | ⟨g', cap, cur, hv, _, hh, _⟩
  · injection hv with e _ _
    subst e
    exact .inl rfl
  · right
    intro e
    injection hv with e1 _ _
    subst e1
    have : g' = g := by simpa [Value.ownBlock] using e
    subst this
    rw [hg] at hh
    injection hh with hh
    injection hh with _ hh
    exact ht hh
theorem TO.ne_of (h : TO w H t K A n c k l) {g : Nat} {o : Obj} (hg : w.heap[g]? = some o) (ho : ∀ cs fr, o ≠ .cells cs t fr) : (Value.slice A n c).ownBlock = none ∨ (Value.slice A n c).ownBlock ≠ some g := by
  rcases h.2.2 with ⟨hv, _⟩ | ⟨g', cap, cur, hv, _, hh, _⟩
  · injection hv with e _ _
    subst e
    exact .inl rfl
  · right
    intro e
    injection hv with e1 _ _
    subst e1
    have : g' = g := by simpa [Value.ownBlock] using e
    subst this
    rw [hg] at hh
    injection hh with hh
    exact ho _ _ hh
theorem TO.kept (h : TO w H t K A n c k l) {row : Option Nat} (hg : w.grownBy w' row) (h1 : (Value.slice A n c).ownBlock = none ∨ (Value.slice A n c).ownBlock ≠ row) : TO w' H t K A n c k l := ⟨h.1, h.2.kept hg h1⟩
theorem TO.below (h : TO w H t K A n c k l) (hb : Below w.heap.size w w') : TO w' H t K A n c k l := by
  refine h.kept (grown_of_below none hb) ?_
  rcases (Value.slice A n c).ownBlock with _ | k
  · exact .inl rfl
  · exact .inr (by simp)
theorem TO.lt (h : TO w H t K A n c k l) : ∀ b, (Value.slice A n c).ownBlock = some b → H ≤ b ∧ b < w.heap.size := h.2.lt
end
theorem TO.ext {M : Nat → Prop} {w w' : World} {H K n c k : Nat} {t : TypeId} {A : Option Addr} {l : List Value} (h : TO w H t K A n c k l) (hx : Ext M w w') (hM : ∀ j, (Value.slice A n c).ownBlock = some j → ¬ M j) : TO w' H t K A n c k l := by
  refine ⟨h.1, h.2.1, ?_⟩
  rcases h.2.2 with hn | ⟨g, cap, cur, hv, hb, hg, rest⟩
  · exact .inl hn
  · refine .inr ⟨g, cap, cur, hv, hb, ?_, rest⟩
    refine (hx.block g (heap_lt hg) (hM g ?_)).trans hg
    injection hv with e _ _
    subst e
    rfl
theorem TO.apart {w : World} {H K n c k : Nat} {t : TypeId} {A : Option Addr} {l : List Value} {H2 K2 n2 c2 k2 : Nat} {t2 : TypeId} {A2 : Option Addr} {l2 : List Value} (h : TO w H t K A n c k l) (h2 : TO w H2 t2 K2 A2 n2 c2 k2 l2) (ht : t ≠ t2) :
    ∀ j, (Value.slice A n c).ownBlock = some j → (Value.slice A2 n2 c2).ownBlock ≠ some j := by
  intro j hj
  rcases h.2.2 with ⟨hv, _⟩ | ⟨g, cap, cur, hv, _, hg, _⟩
  · injection hv with e _ _
    subst e
    cases hj
  · injection hv with e _ _
    subst e
    have : g = j := by simpa [Value.ownBlock] using hj
    subst this
    rcases h2.ne hg ht with e | e
    · rw [e]; simp
    · exact e
/-- append(own row of structs, one that was just made), at one operation. -/
theorem wp_appT {w : World} {o : Oper} {a : Act} {Kk : Act → World → Prop} {Q : Exit → Act → World → Prop} (s x : Operand) (T t : TypeId) (K B : Nat) (z : Value) (hT : Tryz.prog.underlying T = some (.slice t))
    (hI : (Tryz.prog.info? t).map (fun i => (i.zero, i.size, i.bytes)) = some (some z, K, B)) (hz : z.cells.size = K) (hK : 0 < K) (hB : B ≤ 1000)
    (ho : o.op = .call { callee := .builtin .append, args := #[s, x], argTypes := #[T, T] })
    (H : Nat) (A : Option Addr) (n c k : Nat) (l : List Value) (hs : a.eval s = .slice A n c) (hown : TO w H t K A n c k l)
    (g c2 : Nat) (hx : a.eval x = .slice (some ⟨g, 0, none⟩) 1 c2) (ys : Array Value) (hy : ys.size = K)
    (hg : w.heap[g]? = some (.cells ys t (0, 0))) (h1 : ys.all (·.oneCell') = true)
    (hlen : k ≤ 1000000) (hbase : H ≤ w.heap.size)
    (h : ∀ A' c' w', TO w' H t K A' (n + 1) c' (k + 1) (l ++ ys.toList) → Below H w w' → w.grownBy w' (Value.slice A n c).ownBlock → Kk (a.put o.dst (.slice A' (n + 1) c')) w') : o.wp Tryz.prog a w Kk Q := by
  obtain ⟨i0, hi, hz0, hz1, hz2⟩ := info_parts hI
  obtain ⟨rfl, hown⟩ := hown
  obtain ⟨v', w', hrun, h2, h3, _, h5⟩ := run_append_own_at (P := Tryz.prog) w H T o.type t i0 z K B hT hi hz0 hz1 hz2 hz hK _ n l hown ⟨g, 0, none⟩ 1 c2
    ys.toList (by simp [hy]) (fun j u hu => by rw [Addr.add_lit, Nat.zero_add, cell_of_row w g j _ _ _ hg]; simpa using hu) (fun u hu => by obtain ⟨i, hi, rfl⟩ := Array.getElem_of_mem (Array.mem_toList_iff.1 hu); exact Array.all_eq_true.1 h1 i hi) (by unfold maxLen; omega)
    (by have : (n + 1) * B ≤ 1000001 * 1000 := Nat.mul_le_mul (by omega) hB; omega) hbase
  have hform : ∃ A' c', v' = Value.slice A' (n + 1) c' := by
    rcases h2.2 with ⟨hv, h0⟩ | ⟨g', cap, _, hv, _⟩
    · omega
    · exact ⟨_, _, hv⟩
  obtain ⟨A', c', rfl⟩ := hform
  unfold Oper.wp execOp
  simp only [ho, resolve, invoke, builtin, Sem.run_bind, Sem.run_pure, Result.andThen_ok, List.map_toArray, List.map_cons, List.map_nil, hs, hx, hrun]
  exact h A' c' w' ⟨rfl, h2⟩ ((Below.refl H w).grown h3 hbase fun k hk => (hown.lt k hk).1) h3
theorem wpList_appT {w : World} {ops : Array Oper} {rest : List Oper} {o : Oper} {a : Act} {Q : Exit → Act → World → Prop} (hgd : o.guard = none) (s x : Operand) (T t : TypeId) (K B : Nat) (z : Value) (hT : Tryz.prog.underlying T = some (.slice t))
    (hI : (Tryz.prog.info? t).map (fun i => (i.zero, i.size, i.bytes)) = some (some z, K, B)) (hz : z.cells.size = K) (hK : 0 < K) (hB : B ≤ 1000)
    (ho : o.op = .call { callee := .builtin .append, args := #[s, x], argTypes := #[T, T] })
    (H : Nat) (A : Option Addr) (n c k : Nat) (l : List Value) (hs : a.eval s = .slice A n c) (hown : TO w H t K A n c k l)
    (g c2 : Nat) (hx : a.eval x = .slice (some ⟨g, 0, none⟩) 1 c2) (ys : Array Value) (hy : ys.size = K)
    (hg : w.heap[g]? = some (.cells ys t (0, 0))) (h1 : ys.all (·.oneCell') = true)
    (hlen : k ≤ 1000000) (hbase : H ≤ w.heap.size)
    (h : ∀ A' c' w', TO w' H t K A' (n + 1) c' (k + 1) (l ++ ys.toList) → Below H w w' → w.grownBy w' (Value.slice A n c).ownBlock → wpList Tryz.prog ops Q rest (a.put o.dst (.slice A' (n + 1) c')) w') : wpList Tryz.prog ops Q (o :: rest) a w :=
  wpList_plain hgd fun _ hK' => wp_appT s x T t K B z hT hI hz hK hB ho H A n c k l hs hown g c2 hx ys hy hg h1 hlen hbase fun A' c' w' h2 h3 h4 => hK' _ _ (h A' c' w' h2 h3 h4)
end
end Go.Proofs.YtcdacfnfiplidaaGreatDoor
