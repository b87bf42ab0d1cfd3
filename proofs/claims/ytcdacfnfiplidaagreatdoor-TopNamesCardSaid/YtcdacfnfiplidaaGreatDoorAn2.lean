/-
  A text cut at a sign (package addr).
-/
import Derived.Test.YtcdacfnfiplidaaGreatDoorAn1
namespace Go.Proofs.YtcdacfnfiplidaaGreatDoor
open Go.RowKit

/-- A text cut at each such byte. -/
def cutB (c : UInt8) : List UInt8 → List (List UInt8)
  | [] => [[]]
  | x :: r => if x = c then [] :: cutB c r else match cutB c r with
    | p :: q => (x :: p) :: q
    | [] => [[x]]
theorem cutB_none (c : UInt8) : ∀ a : List UInt8, (∀ x ∈ a, x ≠ c) → cutB c a = [a]
  | [], _ => rfl
  | x :: r, h => by
    rw [cutB, if_neg (h x (by simp)), cutB_none c r (fun y hy => h y (by simp [hy]))]
theorem cutB_cons (c : UInt8) (b : List UInt8) : ∀ a : List UInt8, (∀ x ∈ a, x ≠ c) → cutB c (a ++ c :: b) = a :: cutB c b
  | [], _ => by simp [cutB]
  | x :: r, h => by
    rw [List.cons_append, cutB, if_neg (h x (by simp)), cutB_cons c b r (fun y hy => h y (by simp [hy]))]
theorem cutB_length (c : UInt8) : ∀ a : List UInt8, (cutB c a).length ≤ a.length + 1
  | [] => by simp [cutB]
  | x :: r => by
    have h := cutB_length c r
    rw [cutB]
    split
    · simp; omega
    · split
      · rename_i hq
        rw [hq] at h
        simp at h ⊢
        omega
      · simp
theorem cutB_mem (c : UInt8) : ∀ (a : List UInt8) (p : List UInt8), p ∈ cutB c a → p.length ≤ a.length
  | [], p, h => by simp [cutB] at h; simp [h]
  | x :: r, p, h => by
    have ih := cutB_mem c r
    rw [cutB] at h
    split at h
    · rcases List.mem_cons.1 h with rfl | h
      · simp
      · have := ih p h; simp; omega
    · split at h
      · rename_i q0 q hq
        rw [hq] at ih
        rcases List.mem_cons.1 h with rfl | h
        · have := ih q0 (by simp); simp; omega
        · have := ih p (by simp [h]); simp; omega
      · simp at h; subst h; simp

/-- Strings' cells. -/
def sv (l : List (List UInt8)) : List Value := l.map fun s => .string (str s)
/-- A slice of strings of the call's own. -/
def SO (w : World) (H : Nat) (A : Option Addr) (n c : Nat) (l : List (List UInt8)) : Prop := n = l.length ∧ w.ownsRow H 9 1 (.slice A n c) n (sv l)
theorem infoStr : (Tryz.prog.info? 9).map (fun i => (i.zero, i.size, i.bytes)) = some (some (.string ⟨#[]⟩), 1, 16) := by kernel_rfl
theorem sv_length (l : List (List UInt8)) : (sv l).length = l.length := by simp [sv]
theorem sv_one (l : List (List UInt8)) : ∀ u ∈ sv l, u.oneCell' = true := by
  intro u hu
  obtain ⟨b, _, rfl⟩ := List.mem_map.1 hu
  rfl
section
variable {w w' : World} {H n c : Nat} {A : Option Addr} {l : List (List UInt8)}
theorem SO.alloc (h : SO w H A n c l) (o : Obj) : SO (w.alloc o) H A n c l := ⟨h.1, h.2.alloc o⟩
theorem SO.row (h : SO w H A n c l) : Row w w.heap.size A (sv l) := Row.of_own h.2
theorem SO.at_ (h : SO w H A n c l) {k : Nat} {s : List UInt8} (hk : l[k]? = some s) : ∃ b o, A = some ⟨b, o, none⟩ ∧ b < w.heap.size ∧ w.cell? ⟨b, o + k, none⟩ = some (.string (str s)) :=
  h.row.at_ (by simp [sv, hk])
theorem SO.iterAt (h : SO w H A n c l) {k : Nat} {s : ByteArray} {pos : Nat} (hk : w.heap[k]? = some (.stringIter s pos)) (pos' : Nat) : SO (w.iterAt k s pos') H A n c l := by
  refine ⟨h.1, h.2.1, ?_⟩
  rcases h.2.2 with hn | ⟨g, cap, cur, hv, hb, hg, rest⟩
  · exact .inl hn
  · refine .inr ⟨g, cap, cur, hv, hb, ?_, rest⟩
    rw [Lib.iterAt_other]
    · exact hg
    · rintro rfl
      rw [hk] at hg
      cases hg
theorem SO.grow_ne (h : SO w H A n c l) {k : Nat} {s : ByteArray} {pos : Nat} (hk : w.heap[k]? = some (.stringIter s pos)) (hg : w.grownBy w' (Value.slice A n c).ownBlock) : w'.heap[k]? = some (.stringIter s pos) := by
  refine (hg.block k (heap_lt hk) ?_).trans hk
  intro e
  rcases h.2.2 with ⟨hv, _⟩ | ⟨g, cap, cur, hv, hb, hgg, _⟩
  · injection hv with e1 _ _
    subst e1
    simp [Value.ownBlock] at e
  · injection hv with e1 _ _
    subst e1
    simp [Value.ownBlock] at e
    subst e
    rw [hk] at hgg
    cases hgg
end
/-- append(own row of strings, a string). -/
theorem appS {w : World} {ops : Array Oper} {rest : List Oper} {o : Oper} {a : Act} {Q : Exit → Act → World → Prop} (hgd : o.guard = none) (s x : Operand)
    (ho : o.op = .call { callee := .builtin .append, args := #[s, x], argTypes := #[73, 73] })
    (H : Nat) (A : Option Addr) (n c : Nat) (l : List (List UInt8)) (hs : a.eval s = .slice A n c) (hown : SO w H A n c l)
    (g c2 : Nat) (y : List UInt8) (hx : a.eval x = .slice (some ⟨g, 0, none⟩) 1 c2) (hr : w.cell? ⟨g, 0, none⟩ = some (.string (str y))) (hgl : g < w.heap.size)
    (hlen : l.length ≤ 1099511627777) (hbase : H ≤ w.heap.size)
    (h : ∀ A' n' c' w', SO w' H A' n' c' (l ++ [y]) → Below H w w' → w.grownBy w' (Value.slice A n c).ownBlock → wpList Tryz.prog ops Q rest (a.put o.dst (.slice A' n' c')) w') : wpList Tryz.prog ops Q (o :: rest) a w := by
  obtain ⟨i0, hi, hz0, hz1, hz2⟩ := info_parts infoStr
  obtain ⟨rfl, hown⟩ := hown
  refine wpList_app w hgd s x 73 ho 9 i0 (.string ⟨#[]⟩) 16 Tryz.underlying73 hi hz0 hz1 hz2 rfl H _ _ _ hs hown w.heap.size (some ⟨g, 0, none⟩) 1 c2 (sv [y]) hx (.inr ⟨g, 0, rfl, hgl, ?_⟩) rfl (sv_one [y]) (by unfold maxLen; omega) (by omega) hbase ?_
  · intro j u hj
    match j, hj with
    | 0, hj => simp [sv] at hj; subst hj; exact hr
  · intro A' c' w' ho' hg _
    exact h A' (l.length + 1) c' w' ⟨by simp, by rw [show sv (l ++ [y]) = sv l ++ sv [y] by simp [sv]]; exact ho'⟩ ((Below.refl H w).grown hg hbase fun k hk => (hown.lt k hk).1) hg

def PartsPost (w : World) (l : List (List UInt8)) (e : Ending) (w' : World) : Prop :=
  ∃ A n c, e = .returned (.slice A n c) ∧ SO w' w.heap.size A n c l ∧ Below w.heap.size w w'
/-- Behind some rounds: these parts, and from where the next begins. -/
def PRel (w : World) (s : List UInt8) (c : UInt8) (v f : Value) (wr : World) (pos : Nat) : Prop :=
  ∃ A n cc ps from_, v = .slice A n cc ∧ f = .int .i64 (from_ : Nat) ∧ SO wr w.heap.size A n cc ps ∧ from_ ≤ pos ∧ pos ≤ s.length ∧ ps.length ≤ from_ ∧ cutB c s = ps ++ cutB c (s.drop from_) ∧
    (∀ j, from_ ≤ j → j < pos → s.getD j 0 ≠ c) ∧ wr.heap[w.heap.size]? = some (.stringIter (str s) pos) ∧ Below w.heap.size w wr
theorem extr (s : List UInt8) (a b : Nat) : (str s).extract a b = str ((s.drop a).take (b - a)) := ByteArray.extract_mk s a b
theorem no_sign {s : List UInt8} {c : UInt8} {f p : Nat} (h : ∀ j, f ≤ j → j < p → s.getD j 0 ≠ c) : ∀ x ∈ (s.drop f).take (p - f), x ≠ c := by
  intro x hx
  obtain ⟨i, hi⟩ := List.mem_iff_getElem?.1 hx
  have hlt := (List.getElem?_eq_some_iff.1 hi).1
  simp at hlt
  rw [List.getElem?_take_of_lt (by omega), List.getElem?_drop] at hi
  have := h (f + i) (by omega) (by omega)
  simp [List.getD, hi] at this
  exact this
theorem cut_at {s : List UInt8} {c : UInt8} {f p : Nat} (h : ∀ j, f ≤ j → j < p → s.getD j 0 ≠ c) (hf : f ≤ p) (hp : p < s.length) (hc : s.getD p 0 = c) : cutB c (s.drop f) = (s.drop f).take (p - f) :: cutB c (s.drop (p + 1)) := by
  rw [← cutB_cons c _ _ (no_sign h)]
  congr 1
  have e1 := List.take_append_drop (p - f) (s.drop f)
  rw [List.drop_drop, show f + (p - f) = p by omega, drop_get s p hp, hc] at e1
  exact e1.symm

end Go.Proofs.YtcdacfnfiplidaaGreatDoor
