/-
  A row of options of the call's own: how it is kept, how it grows, how an option's bytes are put anew.
-/
import Derived.Test.YtjpmfmmgmlnanaaOpt1
import Derived.Test.YtjpmfmmgmlnanaaOptP
namespace Go.Proofs.Ytjpmfmmgmlnanaa
open Go.RowKit

/-- An option without where its bytes lie. -/
def Op1.ob (o : Op1) : Ob := (o.code, o.body)
def obs (l : List Op1) : List Ob := l.map Op1.ob
theorem obs_nil : obs [] = [] := rfl
theorem obs_append (l m : List Op1) : obs (l ++ m) = obs l ++ obs m := List.map_append
theorem obs_length (l : List Op1) : (obs l).length = l.length := List.length_map _
def Op1.blk (o : Op1) : Option Nat := (Value.slice o.A o.n o.c).ownBlock
/-- No two of them lie in one block. -/
def Apart (l : List Op1) : Prop := ∀ (i j : Nat) (x y : Op1) (k : Nat), l[i]? = some x → l[j]? = some y → i ≠ j → x.blk = some k → y.blk ≠ some k

/-- A row of options of the call's own (t: the element's type): its bytes' rows are its own, too, each in a block by itself. -/
def OO (w : World) (H : Nat) (t : TypeId) (A : Option Addr) (n c : Nat) (l : List Op1) : Prop :=
  n = l.length ∧ w.ownsRow H t 2 (.slice A n c) n (opCells l) ∧ (∀ o ∈ l, OB w H o.A o.n o.c o.body) ∧ Apart l

theorem opCells_length (l : List Op1) : (opCells l).length = l.length * 2 := by
  induction l with
  | nil => rfl
  | cons o r ih =>
    show (_ :: _ :: opCells r).length = _
    rw [List.length_cons, List.length_cons, ih, List.length_cons]; omega
theorem opCells_append (l m : List Op1) : opCells (l ++ m) = opCells l ++ opCells m := by simp [opCells]
theorem opCells_set : ∀ (l : List Op1) (i : Nat) (x : Op1) (A : Option Addr) (n c : Nat) (b : List UInt8), l[i]? = some x →
    (opCells l).set (i * 2 + 1) (.slice A n c) = opCells (l.set i ⟨x.code, A, n, c, b⟩)
  | [], i, x, _, _, _, _, h => by simp at h
  | o :: r, 0, x, A, n, c, b, h => by
    simp at h; subst h
    simp [opCells]
  | o :: r, i + 1, x, A, n, c, b, h => by
    have := opCells_set r i x A n c b (by simpa using h)
    rw [List.set_cons_succ, show (i + 1) * 2 + 1 = i * 2 + 1 + 1 + 1 by omega]
    show (_ :: _ :: opCells r).set (i * 2 + 1 + 1 + 1) _ = _ :: _ :: opCells _
    rw [List.set_cons_succ, List.set_cons_succ, this]

theorem own_ne {w : World} {b b' : Nat} {e e' : TypeId} {s s' n n' k : Nat} {v v' : Value} {xs xs' : List Value} (h : w.ownsRow b e s v n xs) (h' : w.ownsRow b' e' s' v' n' xs') (he : e ≠ e') (hk : v.ownBlock = some k) : v'.ownBlock ≠ some k := by
  intro hk'
  rcases h.2 with ⟨rfl, _⟩ | ⟨g, cap, cur, rfl, _, hg, _⟩
  · simp [Value.ownBlock] at hk
  rcases h'.2 with ⟨rfl, _⟩ | ⟨g', cap', cur', rfl, _, hg', _⟩
  · simp [Value.ownBlock] at hk'
  simp [Value.ownBlock] at hk hk'
  subst hk hk'
  rw [hg] at hg'
  injection hg' with hg'
  injection hg' with _ ht
  exact he ht

section
variable {w w' : World} {H t n c : Nat} {A : Option Addr} {l : List Op1}
theorem OO.nil_ (w : World) (H : Nat) (t : TypeId) : OO w H t none 0 0 [] := ⟨rfl, World.ownsRow_nil _ _ _ _, by simp, by intro i j x y k h; simp at h⟩
theorem OO.lt (h : OO w H t A n c l) : ∀ o ∈ l, ∀ k, o.blk = some k → H ≤ k ∧ k < w.heap.size := fun o ho k hk => (h.2.2.1 o ho).2.lt k hk
theorem OO.kept (h : OO w H t A n c l) {row : Option Nat} (hg : w.grownBy w' row) (h1 : (Value.slice A n c).ownBlock = none ∨ (Value.slice A n c).ownBlock ≠ row) (h2 : ∀ o ∈ l, o.blk = none ∨ o.blk ≠ row) : OO w' H t A n c l :=
  ⟨h.1, h.2.1.kept hg h1, fun o ho => ⟨(h.2.2.1 o ho).1, (h.2.2.1 o ho).2.kept hg (h2 o ho)⟩, h.2.2.2⟩
theorem OO.below (h : OO w H t A n c l) (hb : Below w.heap.size w w') : OO w' H t A n c l :=
  h.kept (row := none) ⟨hb.os, hb.tape, hb.output, hb.size, fun k hk _ => hb.block k hk⟩ (by cases (Value.slice A n c).ownBlock <;> simp) (fun o _ => by cases o.blk <;> simp)
theorem OO.alloc (h : OO w H t A n c l) (o : Obj) : OO (w.alloc o) H t A n c l := h.below ((Below.refl _ w).alloc (Nat.le_refl _) o)
theorem OO.drew (h : OO w H t A n c l) : OO w.drew H t A n c l := h
theorem OO.grown (h : OO w H t A n c l) {g : Nat} (hg : w.grownBy w' (some g)) (hH : g < H) : OO w' H t A n c l :=
  h.kept hg (by
    rcases ho : (Value.slice A n c).ownBlock with _ | k
    · exact .inl rfl
    · have := (h.2.1.lt k ho).1
      exact .inr (by intro e; injection e with e; omega)) (fun o ho => by
    rcases hb : o.blk with _ | k
    · exact .inl rfl
    · have := (h.lt o ho k hb).1
      exact .inr (by intro e; injection e with e; omega))
theorem OO.setLow (h : OO w H t A n c l) {p : Addr} (hp : p.block < H) (u : Value) : OO (w.setCell p u) H t A n c l :=
  ⟨h.1, ownsRow_setCell_below h.2.1 hp u, fun o ho => (h.2.2.1 o ho).setLow hp u, h.2.2.2⟩
theorem OO.lower {H' : Nat} (h : OO w H t A n c l) (hH : H' ≤ H) : OO w H' t A n c l :=
  ⟨h.1, ⟨h.2.1.1, by
    rcases h.2.1.2 with h0 | ⟨g, cap, cur, hv, hb, rest⟩
    · exact .inl h0
    · exact .inr ⟨g, cap, cur, hv, Nat.le_trans hH hb, rest⟩⟩, fun o ho => (h.2.2.1 o ho).lower hH, h.2.2.2⟩
theorem Row.of_own_any {base e s n c : Nat} {A : Option Addr} {xs : List Value} (h : w.ownsRow base e s (.slice A n c) n xs) : Row w w.heap.size A xs := by
  rcases h.2 with ⟨hv, h0⟩ | ⟨g, cap, cur, hv, _, hg, _, _, _, ht⟩
  · subst h0
    exact .inl (List.eq_nil_of_length_eq_zero (by simpa using h.1))
  · injection hv with hA _ _
    refine .inr ⟨g, 0, hA, (Array.getElem?_eq_some_iff.1 hg).1, fun j u hu => ?_⟩
    subst hA
    have := h.cells (g := g) rfl j u hu
    rwa [Addr.add_lit] at this
theorem own_cap {base e s n c : Nat} {A : Option Addr} {xs : List Value} (h : w.ownsRow base e s (.slice A n c) n xs) : n ≤ c ∧ c ≤ maxLen := by
  rcases h.2 with ⟨hv, h0⟩ | ⟨g, cap, cur, hv, _, _, hnc, hcm, _⟩
  · injection hv with _ _ e; subst e; unfold maxLen; omega
  · injection hv with _ _ e; subst e; exact ⟨hnc, hcm⟩
theorem OO.os (h : OO w H t A n c l) : OS w w.heap.size A n c l :=
  ⟨h.1, (own_cap h.2.1).1, (own_cap h.2.1).2, Row.of_own_any h.2.1, fun o ho => (h.2.2.1 o ho).bs⟩

/-- One option more. -/
theorem OO.snoc (h : OO w H t A n c l) (ht : t ≠ 5) {code : Int} {A2 : Option Addr} {n2 c2 : Nat} {b : List UInt8} (hb : OB w H A2 n2 c2 b)
    (hf : ∀ o ∈ l, ∀ k, o.blk = some k → (Value.slice A2 n2 c2).ownBlock ≠ some k)
    {A' : Option Addr} {c' : Nat} (ho : w'.ownsRow H t 2 (.slice A' (n + 1) c') (n + 1) (opCells l ++ [.int .i64 code, .slice A2 n2 c2])) (hg : w.grownBy w' (Value.slice A n c).ownBlock) :
    OO w' H t A' (n + 1) c' (l ++ [⟨code, A2, n2, c2, b⟩]) := by
  have hne : ∀ (A3 : Option Addr) (n3 c3 : Nat) (b3 : List UInt8), OB w H A3 n3 c3 b3 → (Value.slice A3 n3 c3).ownBlock = none ∨ (Value.slice A3 n3 c3).ownBlock ≠ (Value.slice A n c).ownBlock := by
    intro A3 n3 c3 b3 h3
    rcases hk : (Value.slice A n c).ownBlock with _ | k
    · rcases hk3 : (Value.slice A3 n3 c3).ownBlock with _ | k3 <;> simp
    · exact .inr (own_ne h.2.1 h3.2 ht hk)
  have kp : ∀ (A3 : Option Addr) (n3 c3 : Nat) (b3 : List UInt8), OB w H A3 n3 c3 b3 → OB w' H A3 n3 c3 b3 := fun A3 n3 c3 b3 h3 => ⟨h3.1, h3.2.kept hg (hne _ _ _ _ h3)⟩
  refine ⟨by simp [h.1], by rw [opCells_append]; simpa [opCells] using ho, ?_, ?_⟩
  · intro o hm
    rw [List.mem_append] at hm
    rcases hm with hm | hm
    · exact kp _ _ _ _ (h.2.2.1 o hm)
    · obtain rfl := List.mem_singleton.1 hm
      exact kp _ _ _ _ hb
  · intro i j x y k hi hj hij hk
    rcases Nat.lt_trichotomy i l.length with h1 | h1 | h1
    · rw [List.getElem?_append_left h1] at hi
      rcases Nat.lt_trichotomy j l.length with h2 | h2 | h2
      · rw [List.getElem?_append_left h2] at hj
        exact h.2.2.2 i j x y k hi hj hij hk
      · subst h2
        rw [List.getElem?_append_right (Nat.le_refl _)] at hj
        simp at hj
        subst hj
        exact hf x (List.mem_of_getElem? hi) k hk
      · have := (List.getElem?_eq_some_iff.1 hj).1
        simp at this; omega
    · subst h1
      rw [List.getElem?_append_right (Nat.le_refl _)] at hi
      simp at hi
      subst hi
      rcases Nat.lt_trichotomy j l.length with h2 | h2 | h2
      · rw [List.getElem?_append_left h2] at hj
        intro hy
        exact hf y (List.mem_of_getElem? hj) k hy hk
      · omega
      · have := (List.getElem?_eq_some_iff.1 hj).1
        simp at this; omega
    · have := (List.getElem?_eq_some_iff.1 hi).1
      simp at this; omega

theorem grown_trans' {a b d : World} {row : Option Nat} (h : a.grownBy b row) (k : b.grownBy d row) : a.grownBy d row :=
  ⟨k.os.trans h.os, k.tape.trans h.tape, k.output.trans h.output, Nat.le_trans h.size k.size, fun i hi hne => (k.block i (Nat.lt_of_lt_of_le hi h.size) hne).trans (h.block i hi hne)⟩

/-- An option's bytes put anew. -/
theorem OO.put {g : Nat} (h : OO w H t (some ⟨g, 0, none⟩) n c l) (ht : t ≠ 5) {i : Nat} {x : Op1} (hi : l[i]? = some x) (hH : H ≤ w.heap.size)
    {A' : Option Addr} {n' c' : Nat} {b : List UInt8} (hb : OB w' H A' n' c' b) (hg : w.grownBy w' x.blk) (hl : (Value.slice A' n' c').ownBlock = x.blk ∨ ∀ m, (Value.slice A' n' c').ownBlock = some m → w.heap.size ≤ m) :
    OO (w'.setCell ⟨g, i * 2 + 1, none⟩ (.slice A' n' c')) H t (some ⟨g, 0, none⟩) n c (l.set i ⟨x.code, A', n', c', b⟩) ∧ Below H w (w'.setCell ⟨g, i * 2 + 1, none⟩ (.slice A' n' c')) := by
  have hx := List.mem_of_getElem? hi
  have hgk : (Value.slice (some ⟨g, 0, none⟩) n c).ownBlock = some g := rfl
  have hgH := h.2.1.lt g hgk
  have hrow : w'.ownsRow H t 2 (.slice (some ⟨g, 0, none⟩) n c) n (opCells l) := h.2.1.kept hg (.inr fun e => own_ne h.2.1 (h.2.2.1 x hx).2 ht hgk e.symm)
  obtain ⟨hs, hgs⟩ := hrow.stored (i * 2 + 1) (.slice A' n' c')
  have far : ∀ (A3 : Option Addr) (n3 c3 : Nat) (b3 : List UInt8), OB w' H A3 n3 c3 b3 → OB (w'.setCell ⟨g, i * 2 + 1, none⟩ (.slice A' n' c')) H A3 n3 c3 b3 := fun A3 n3 c3 b3 h3 =>
    ⟨h3.1, h3.2.kept hgs (.inr (own_ne hrow h3.2 ht hgk))⟩
  refine ⟨⟨by simpa using h.1, by rw [← opCells_set l i x A' n' c' b hi]; exact hs, ?_, ?_⟩, ?_⟩
  · intro o hm
    rw [List.mem_iff_getElem?] at hm
    obtain ⟨j, hj⟩ := hm
    rw [List.getElem?_set] at hj
    split at hj
    · split at hj
      · injection hj with hj
        subst hj
        exact far _ _ _ _ hb
      · cases hj
    · rename_i hne
      have ho := h.2.2.1 o (List.mem_of_getElem? hj)
      refine far _ _ _ _ ⟨ho.1, ho.2.kept hg ?_⟩
      rcases hxb : x.blk with _ | k
      · cases (Value.slice o.A o.n o.c).ownBlock <;> simp
      · exact .inr (h.2.2.2 i j x o k hi hj hne hxb)
  · intro a j y z k ha hj haj hk
    have fresh : ∀ o ∈ l, ∀ m, o.blk = some m → m < w.heap.size := fun o ho m hm => (h.lt o ho m hm).2
    rw [List.getElem?_set] at ha hj
    split at ha
    · rename_i hia
      split at ha
      · injection ha with ha
        subst ha hia
        rw [if_neg haj] at hj
        rcases hl with hl | hl
        · exact h.2.2.2 i j x z k hi hj haj (hl.symm.trans hk)
        · intro hz
          have h1 := fresh z (List.mem_of_getElem? hj) k hz
          have h2 := hl k hk
          omega
      · cases ha
    · rename_i hia
      split at hj
      · rename_i hij
        split at hj
        · injection hj with hj
          subst hj hij
          intro hz
          rcases hl with hl | hl
          · exact h.2.2.2 a i y x k ha hi haj hk (hl.symm.trans hz)
          · have h1 := fresh y (List.mem_of_getElem? ha) k hk
            have h2 := hl k hz
            omega
        · cases hj
      · exact h.2.2.2 a j y z k ha hj haj hk
  · refine ((Below.refl H w).grown hg hH fun k hk => (h.lt x hx k hk).1).setCell hgH.1 _
end
theorem obs_joinO : ∀ (l : List Op1) (i : Nat) (x : Op1) (A : Option Addr) (n c : Nat) (b : List UInt8), l[i]? = some x → (∀ j y, j < i → l[j]? = some y → y.code ≠ x.code) →
    obs (l.set i ⟨x.code, A, n, c, x.body ++ b⟩) = joinO (obs l) x.code b
  | [], i, x, _, _, _, _, h, _ => by simp at h
  | o :: r, 0, x, A, n, c, b, h, _ => by
    simp at h; subst h
    simp [obs, Op1.ob, joinO]
  | o :: r, i + 1, x, A, n, c, b, h, hn => by
    have := obs_joinO r i x A n c b (by simpa using h) (fun j y hj hy => hn (j + 1) y (by omega) (by simpa using hy))
    have h0 := hn 0 o (by omega) rfl
    show Op1.ob o :: obs (r.set i _) = joinO (Op1.ob o :: obs r) x.code b
    rw [joinO, if_neg (show ¬ (Op1.ob o).1 = x.code from h0), this]
theorem obs_joinO_new (l : List Op1) (code : Int) (A : Option Addr) (n c : Nat) (b : List UInt8) (h : ∀ o ∈ l, o.code ≠ code) : obs (l ++ [⟨code, A, n, c, b⟩]) = joinO (obs l) code b := by
  rw [joinO_snoc]
  · simp [obs, Op1.ob]
  · intro hm
    obtain ⟨x, hx, he⟩ := List.mem_map.1 hm
    obtain ⟨o, ho, rfl⟩ := List.mem_map.1 hx
    exact h o ho he
end Go.Proofs.Ytjpmfmmgmlnanaa
