/-
  The interpreter is sound: code, functions, summaries; runs in pieces from one told state to another.
-/
import Derived.Orders
import Derived.Below
import Derived.Laws.StructEq
import Derived.ChangeKeysEq
import Derived.Test.YtccbdaffjkdpgaaGreatDoorVb
namespace Go.Proofs.YtccbdaffjkdpgaaGreatDoor.Vw
variable [Val]

/-! what the compiler has checked -/
section
variable {P : Program} {ty : Ty} {live : List Nat} {ops : Array Oper} {res : Value × H × Nat}

omit [Val] in
theorem nodup_lt : ∀ (n : Nat) (l : List Nat), l.Nodup → (∀ x ∈ l, x < n) → l.length ≤ n
  | 0, l, _, h => by
    cases l with
    | nil => exact Nat.le_refl _
    | cons a l => have := h a (List.mem_cons_self ..); omega
  | n + 1, l, hn, h => by
    have h1 : (l.erase n).Nodup := hn.erase n
    have h2 : ∀ x ∈ l.erase n, x < n := fun x hx => by
      have h3 := (List.Nodup.mem_erase_iff hn).1 hx
      have := h x h3.2
      have := h3.1
      omega
    have h3 := nodup_lt n (l.erase n) h1 h2
    have h4 : l.length ≤ (l.erase n).length + 1 := by
      rw [List.length_erase]
      split <;> omega
    omega
omit [Val] in
theorem nodup_all {n : Nat} {l : List Nat} (hn : l.Nodup) (h : ∀ x ∈ l, x < n) (hl : l.length = n) {i : Nat} (hi : i < n) : i ∈ l := by
  refine Decidable.byContradiction fun hno => ?_
  have := nodup_lt n (i :: l) (List.nodup_cons.2 ⟨hno, hn⟩) (fun x hx => by
    rcases List.mem_cons.1 hx with rfl | hx
    · exact hi
    · exact h x hx)
  simp at this
  omega
omit [Val] in
theorem nodupN_ok : ∀ {l : List Nat}, nodupN l = true → l.Nodup
  | [], _ => List.nodup_nil
  | a :: l, h => by
    unfold nodupN at h
    cases hi : idxOf a l 0 with
    | some i => rw [hi] at h; cases h
    | none =>
      rw [hi] at h
      exact List.nodup_cons.2 ⟨(idxOf_none a l 0).1 hi, nodupN_ok h⟩

/-! what an operation waits for -/
def bef (acc : Array Nat) (o : Oper) : Nat := o.after.foldl (fun s e => if Region.binds .any e then s ||| 2 ^ e.on ||| acc.getD e.on 0 else s) 0
omit [Val] in
theorem bef_bit (acc : Array Nat) (o : Oper) (j : Nat) : (bef acc o).testBit j = true ↔ ∃ e ∈ o.after, Region.binds .any e = true ∧ (e.on = j ∨ (acc.getD e.on 0).testBit j = true) := by
  have key : ∀ (l : List Edge) (s : Nat), (l.foldl (fun s e => if Region.binds .any e then s ||| 2 ^ e.on ||| acc.getD e.on 0 else s) s).testBit j = true ↔ s.testBit j = true ∨ ∃ e ∈ l, Region.binds .any e = true ∧ (e.on = j ∨ (acc.getD e.on 0).testBit j = true) := by
    intro l
    induction l with
    | nil => intro s; simp
    | cons e l ih =>
      intro s
      rw [List.foldl_cons, ih]
      cases hb : Region.binds .any e with
      | false => simp [hb]
      | true =>
        simp only [if_true, Nat.testBit_or, Bool.or_eq_true, List.mem_cons, exists_eq_or_imp, hb, true_and, Nat.testBit_two_pow, decide_eq_true_eq]
        constructor
        · rintro (((h | h) | h) | h)
          · exact .inl h
          · exact .inr (.inl (.inl h))
          · exact .inr (.inl (.inr h))
          · exact .inr (.inr h)
        · rintro (h | ((h | h) | h))
          · exact .inl (.inl (.inl h))
          · exact .inl (.inl (.inr h))
          · exact .inl (.inr h)
          · exact .inr h
  unfold bef
  rw [← Array.foldl_toList, key]
  simp
omit [Val] in
theorem before_fold : ∀ (l : List Oper) (acc : Array Nat), (l.foldl (fun acc o => acc.push (bef acc o)) acc).size = acc.size + l.length ∧ (∀ k, k < acc.size → (l.foldl (fun acc o => acc.push (bef acc o)) acc)[k]? = acc[k]?) ∧
    ∀ k o, l[k]? = some o → ∃ acc' : Array Nat, (∀ m, m < acc'.size → (l.foldl (fun acc o => acc.push (bef acc o)) acc)[m]? = acc'[m]?) ∧ (l.foldl (fun acc o => acc.push (bef acc o)) acc)[acc.size + k]? = some (bef acc' o)
  | [], acc => ⟨rfl, fun _ _ => rfl, fun k o h => by simp at h⟩
  | o :: l, acc => by
    obtain ⟨h1, h2, h3⟩ := before_fold l (acc.push (bef acc o))
    rw [List.foldl_cons]
    refine ⟨by rw [h1]; simp; omega, fun k hk => ?_, fun k o' hk => ?_⟩
    · rw [h2 k (by simp; omega), Array.getElem?_push_lt hk, Array.getElem?_eq_getElem hk]
    · cases k with
      | zero =>
        simp at hk
        subst hk
        refine ⟨acc, fun m hm => ?_, ?_⟩
        · rw [h2 m (by simp; omega), Array.getElem?_push_lt hm, Array.getElem?_eq_getElem hm]
        · rw [Nat.add_zero, h2 _ (by simp), Array.getElem?_push_size]
      | succ k =>
        obtain ⟨acc', g1, g2⟩ := h3 k o' (by simpa using hk)
        refine ⟨acc', g1, ?_⟩
        rw [← g2]
        congr 1
        simp
        omega
omit [Val] in
theorem before_spec {i : Nat} {o : Oper} (h : ops[i]? = some o) (j : Nat) : (((Region.before ops).getD i 0).testBit j = true → ∃ e ∈ o.after, Region.binds .any e = true ∧ (e.on = j ∨ ((Region.before ops).getD e.on 0).testBit j = true)) ∧
    ∀ e ∈ o.after, Region.binds .any e = true → ((Region.before ops).getD i 0).testBit e.on = true := by
  have hb : Region.before ops = ops.toList.foldl (fun acc o => acc.push (bef acc o)) #[] := by
    unfold Region.before
    rw [← Array.foldl_toList]
    rfl
  obtain ⟨_, _, h3⟩ := before_fold ops.toList #[]
  obtain ⟨acc', g1, g2⟩ := h3 i o (by rw [Array.getElem?_toList]; exact h)
  rw [← hb] at g1 g2
  have e1 : (Region.before ops).getD i 0 = bef acc' o := by
    rw [Array.getD_eq_getD_getElem?]
    have : (#[] : Array Nat).size + i = i := by simp
    rw [this] at g2
    rw [g2]
    rfl
  rw [e1]
  refine ⟨fun hj => ?_, fun e he hbd => (bef_bit acc' o e.on).2 ⟨e, he, hbd, .inl rfl⟩⟩
  obtain ⟨e, he, hbd, h5⟩ := (bef_bit acc' o j).1 hj
  refine ⟨e, he, hbd, h5.imp id fun h6 => ?_⟩
  rw [Array.getD_eq_getD_getElem?] at h6 ⊢
  rcases Nat.lt_or_ge e.on acc'.size with hlt | hge
  · rw [g1 _ hlt]; exact h6
  · rw [Array.getElem?_eq_none hge] at h6
    simp at h6

omit [Val] in
theorem bindsK_eq (e : Edge) : bindsK e = Region.binds .any e := by
  unfold bindsK Region.binds
  cases e.ground <;> rfl
omit [Val] in
theorem befE_eq {acc : Tr Nat} {a : Array Nat} (h : ∀ i, acc.getK i (fun m => m) 0 = a.getD i 0) : ∀ (l : List Edge) (s : Nat), befE acc l s = l.foldl (fun s e => if Region.binds .any e then s ||| 2 ^ e.on ||| a.getD e.on 0 else s) s
  | [], s => rfl
  | e :: l, s => by
    have h1 : befE acc (e :: l) s = @Bool.rec (fun _ => Nat) (befE acc l s) (forceN (Nat.lor (Nat.lor s (Nat.pow 2 e.on)) (acc.getK e.on (fun m => m) 0)) (befE acc l)) (bindsK e) := rfl
    rw [h1, List.foldl_cons, forceN_eq, befE_eq h l, befE_eq h l, h, bindsK_eq]
    cases Region.binds .any e <;> rfl
omit [Val] in
theorem befs_go : ∀ (l : List Oper) (i : Nat) (acc : Tr Nat) (a : Array Nat), Sz acc i → a.size = i → (∀ j, acc.getK j (fun m => m) 0 = a.getD j 0) → (l.foldl (fun acc o => acc.push (bef acc o)) a).toList = a.toList ++ befs l i acc
  | [], i, acc, a, _, _, _ => by simp [befs]
  | o :: l, i, acc, a, hz, hs, h => by
    have h1 : befs (o :: l) i acc = forceN (befE acc o.after.toList 0) fun m => m :: befs l (i + 1) (acc.put i m) := rfl
    have h2 : befE acc o.after.toList 0 = bef a o := by
      rw [befE_eq h]
      unfold bef
      rw [← Array.foldl_toList]
    obtain ⟨z1, z2⟩ := hz.put i (Nat.le_refl _) (bef a o)
    rw [show max i (i + 1) = i + 1 by omega] at z1
    rw [h1, forceN_eq, h2, List.foldl_cons, befs_go l (i + 1) (acc.put i (bef a o)) (a.push (bef a o)) z1 (by simp [hs]) (fun j => ?_)]
    · simp
    · have h3 := h j
      rw [Tr.getK_eq] at h3 ⊢
      rw [z2, Array.getD_eq_getD_getElem?]
      rw [Array.getD_eq_getD_getElem?] at h3
      by_cases e : j = i
      · subst e
        rw [if_pos rfl, ← hs, Array.getElem?_push_size]
        rfl
      · rw [if_neg e, Array.getElem?_push, if_neg (by omega)]
        exact h3
omit [Val] in
theorem befs_eq (ops : Array Oper) : befs ops.toList 0 .e = (Region.before ops).toList := by
  have hb : Region.before ops = ops.toList.foldl (fun acc o => acc.push (bef acc o)) #[] := by
    unfold Region.before
    rw [← Array.foldl_toList]
    rfl
  rw [hb, befs_go ops.toList 0 .e #[] Sz.e rfl (fun j => by simp [Tr.getK_eq, Tr.at_e])]
  simp
omit [Val] in
theorem ogs_get : ∀ (l : List Oper) (anc : List Nat) (i k : Nat) (g : Og), (ogs l anc i)[k]? = some g → l[k]? = some g.o ∧ g.ix = i + k ∧ g.anc = anc.getD k 0
  | [], anc, i, k, g, h => by unfold ogs at h; simp at h
  | o :: r, [], i, k, g, h => by
    unfold ogs at h
    cases k with
    | zero => simp at h; subst h; exact ⟨rfl, rfl, rfl⟩
    | succ k =>
      obtain ⟨h1, h2, h3⟩ := ogs_get r [] (i + 1) k g (by simpa using h)
      exact ⟨by simpa using h1, by omega, by rw [h3]; simp⟩
  | o :: r, a :: m, i, k, g, h => by
    unfold ogs at h
    cases k with
    | zero => simp at h; subst h; exact ⟨rfl, rfl, rfl⟩
    | succ k =>
      obtain ⟨h1, h2, h3⟩ := ogs_get r m (i + 1) k g (by simpa using h)
      exact ⟨by simpa using h1, by omega, by rw [h3]; simp⟩
omit [Val] in
theorem order_mem (l : List Og) : ∀ (es : List Og) (done : Nat), (∀ e ∈ es, e ∈ l) → ∀ g ∈ order ty l es done, g ∈ l
  | [], done, _, g, hg => by unfold order at hg; exact (List.mem_filter.1 hg).1
  | e :: es, done, he, g, hg => by
    unfold order at hg
    have he' : ∀ x ∈ es, x ∈ l := fun x hx => he x (List.mem_cons_of_mem _ hx)
    split at hg
    · rcases List.mem_append.1 hg with hg | hg
      · exact (List.mem_filter.1 hg).1
      · rcases List.mem_cons.1 hg with rfl | hg
        · exact he _ (List.mem_cons_self ..)
        · exact order_mem l es _ he' g hg
    · exact order_mem l es _ he' g hg
omit [Val] in
theorem draws_mem {g : Og} (h : g ∈ draws ty ops.toList (Region.before ops).toList) : ops[g.ix]? = some g.o ∧ g.anc = (Region.before ops).getD g.ix 0 := by
  have h1 := order_mem _ _ 0 (fun e he => he) g h
  obtain ⟨k, hk⟩ := List.getElem?_of_mem h1
  obtain ⟨h2, h3, h4⟩ := ogs_get _ _ _ _ _ hk
  rw [Nat.zero_add] at h3
  subst h3
  refine ⟨by rw [← Array.getElem?_toList]; exact h2, ?_⟩
  rw [h4, Array.getD_eq_getD_getElem?, List.getD_eq_getElem?_getD, Array.getElem?_toList]

omit [Val] in
theorem ordOk_ok : ∀ (l : List Og) (m : Nat), ordOk ty l m = true → ∀ (p : Nat) (g : Og), l[p]? = some g → (∀ j, g.anc.testBit j = true → m.testBit j = true ∨ ∃ (q : Nat) (g' : Og), q < p ∧ l[q]? = some g' ∧ g'.ix = j) ∧
    (isE (cls ty g.o.op) = true → (∀ j, m.testBit j = true → g.anc.testBit j = true) ∧ ∀ (q : Nat) (g' : Og), q < p → l[q]? = some g' → g.anc.testBit g'.ix = true)
  | [], m, _, p, g, hp => by simp at hp
  | c :: l, m, h, p, g, hp => by
    unfold ordOk at h
    cases hb : Nat.beq (Nat.land c.anc m) c.anc with
    | false => rw [hb] at h; cases h
    | true =>
      rw [hb] at h
      have h1 : c.anc &&& m = c.anc := Nat.eq_of_beq_eq_true hb
      have h2 : ordOk ty l (m ||| 2 ^ c.ix) = true ∧ (isE (cls ty c.o.op) = true → c.anc &&& m = m) := by
        simp only at h
        cases hE : isE (cls ty c.o.op) with
        | false => rw [hE] at h; exact ⟨h, fun h => by cases h⟩
        | true =>
          rw [hE] at h
          simp only at h
          cases hb2 : Nat.beq (Nat.land c.anc m) m with
          | false => rw [hb2] at h; cases h
          | true => rw [hb2] at h; exact ⟨h, fun _ => Nat.eq_of_beq_eq_true hb2⟩
      cases p with
      | zero =>
        simp at hp
        subst hp
        refine ⟨fun j hj => .inl ?_, fun hE => ⟨fun j hj => ?_, fun q g' hq => by omega⟩⟩
        · rw [← h1, Nat.testBit_and, Bool.and_eq_true] at hj; exact hj.2
        · rw [← h2.2 hE, Nat.testBit_and, Bool.and_eq_true] at hj; exact hj.1
      | succ p =>
        obtain ⟨g1, g2⟩ := ordOk_ok l _ h2.1 p g (by simpa using hp)
        refine ⟨fun j hj => ?_, fun hE => ⟨fun j hj => ?_, fun q g' hq hg' => ?_⟩⟩
        · rcases g1 j hj with h3 | ⟨q, g', h3, h4, h5⟩
          · rw [Nat.testBit_or, Bool.or_eq_true, Nat.testBit_two_pow, decide_eq_true_eq] at h3
            rcases h3 with h3 | h3
            · exact .inl h3
            · exact .inr ⟨0, c, by omega, rfl, h3⟩
          · exact .inr ⟨q + 1, g', by omega, by simpa using h4, h5⟩
        · exact (g2 hE).1 j (by rw [Nat.testBit_or, hj]; rfl)
        · cases q with
          | zero =>
            simp at hg'
            subst hg'
            exact (g2 hE).1 _ (by rw [Nat.testBit_or, Nat.testBit_two_pow_self]; simp)
          | succ q => exact (g2 hE).2 q g' (by omega) (by simpa using hg')

omit [Val] in
theorem count_set' : ∀ (l : List Bool) (i : Nat), l[i]? = some false → (l.set i true).count false + 1 = l.count false
  | [], i, h => by simp at h
  | b :: r, 0, h => by
    simp at h
    subst h
    simp
  | b :: r, i + 1, h => by
    have ih := count_set' r i (by simpa using h)
    rw [List.set_cons_succ, List.count_cons, List.count_cons]
    omega
omit [Val] in
theorem getD_more (listed : Array Bool) (i : Nat) (hi : i < listed.size) : (fun j => (listed.setIfInBounds i true).getD j true) = more (fun j => listed.getD j true) i := funext fun j => by
  unfold more
  simp only
  rw [Array.getD_eq_getD_getElem?, Array.getD_eq_getD_getElem?, Array.getElem?_setIfInBounds]
  by_cases h : i = j
  · subst h
    rw [if_pos rfl, if_pos rfl, if_pos hi]
    rfl
  · rw [if_neg h, if_neg (fun e => h e.symm)]
omit [Val] in
theorem wpOp_opw {i : Nat} {o : Oper} {a : Act} {w : World} {K : Act → World → Prop} {Q : Exit → Act → World → Prop} (ho : ops[i]? = some o) (h : OpW P ops o a w K Q) : wpOp P ops Q i K a w := by
  unfold wpOp
  simp only [ho]
  unfold OpW at h
  split
  · rename_i hw; rw [if_pos hw] at h; exact .inl h
  · rename_i hw; rw [if_neg hw] at h; exact h

section
variable {lg : List Og} {f0 : Fr} {v : Nat → Value} {S : Nat → St} {kd : Nat → Kd} {h0 : H} {n0 : Nat} {r0 : Ren} {a0 : Act} {w0 : World}

/-- nothing more may come up: all has -/
theorem all_up (d : Drn P ty live ops lg f0 v S kd h0 n0) (hanc : ∀ (p : Nat) (g : Og), lg[p]? = some g → g.anc = (Region.before ops).getD g.ix 0) {listed : Array Bool} (hs : listed.size = ops.size) (hr : Region.ready .any ops listed = []) : ∀ (p : Nat) (g : Og), lg[p]? = some g → listed.getD g.ix true = true := by
  intro p
  induction p using Nat.strongRecOn with
  | _ p ih =>
    intro g hg
    cases hb : listed.getD g.ix true with
    | true => rfl
    | false =>
      have ho := d.op p g hg
      have : g.ix ∈ Region.ready .any ops listed := mem_ready.2 ⟨hb, g.o, ho, fun e he hbd => by
        have h1 := (before_spec ho e.on).2 e he hbd
        rw [← hanc p g hg] at h1
        obtain ⟨q, g', h2, h3, h4⟩ := d.anc p g hg e.on h1
        have h5 := ih q h2 g' h3
        rw [h4] at h5
        have h6 : e.on < listed.size := by
          rw [hs, ← h4]
          exact (Array.getElem?_eq_some_iff.1 (d.op q g' h3)).1
        rw [Array.getD_eq_getD_getElem?, Array.getElem?_eq_getElem h6] at h5 ⊢
        exact h5⟩
      rw [hr] at this
      cases this

theorem any_all (d : Drn P ty live ops lg f0 v S kd h0 n0) (hanc : ∀ (p : Nat) (g : Og), lg[p]? = some g → g.anc = (Region.before ops).getD g.ix 0) (hs0 : EnvS live f0 n0 r0 a0) (hdst : ∀ (q : Nat) (g : Og) (t : Nat), lg[q]? = some g → g.o.dst = some t → t < a0.tmps.size)
    {Q : Exit → Act → World → Prop} (fin : ∀ (D : Nat → Bool) (a : Act) (w : World) (r : Ren) (c : Nat), Inv P ops lg v S kd h0 n0 r0 a0 w0 D a w r c → (∀ (p : Nat) (g : Og), lg[p]? = some g → D g.ix = true) → Q .normal a w) :
    ∀ (fuel : Nat) (listed : Array Bool) (a : Act) (w : World), listed.size = ops.size → listed.toList.count false ≤ fuel → (∃ r c, Inv P ops lg v S kd h0 n0 r0 a0 w0 (fun j => listed.getD j true) a w r c) → wpAny P .any ops Q fuel listed a w
  | 0, listed, a, w, hs, hf, ⟨r, c, I⟩ => by
    have hr : Region.ready .any ops listed = [] := by
      rcases hrr : Region.ready .any ops listed with _ | ⟨i, rest⟩
      · rfl
      · have hi : i ∈ Region.ready .any ops listed := by rw [hrr]; exact List.mem_cons_self ..
        obtain ⟨h1, o, ho, _⟩ := mem_ready.1 hi
        have hlt' := (Array.getElem?_eq_some_iff.1 ho).1
        rw [Array.getD_eq_getD_getElem?, Array.getElem?_eq_getElem (by omega)] at h1
        have h2 : false ∈ listed.toList := by
          rw [← show listed[i] = false from h1]
          exact Array.getElem_mem_toList (by omega)
        have := List.count_pos_iff.2 h2
        omega
    exact ⟨hr, fin _ _ _ r c I (all_up d hanc hs hr)⟩
  | fuel + 1, listed, a, w, hs, hf, ⟨r, c, I⟩ => by
    refine ⟨fun hr => fin _ _ _ r c I (all_up d hanc hs hr), fun i hi => ?_⟩
    obtain ⟨h1, o, ho, hall⟩ := mem_ready.1 hi
    have hlt' := (Array.getElem?_eq_some_iff.1 ho).1
    have hil : i < listed.size := by omega
    have h1' : listed.toList[i]? = some false := by
      rw [Array.getD_eq_getD_getElem?, Array.getElem?_eq_getElem hil] at h1
      rw [Array.getElem?_toList, Array.getElem?_eq_getElem hil]
      exact congrArg some h1
    obtain ⟨p, g, hg, rfl⟩ := d.cover i hlt'
    have ho' := d.op p g hg
    rw [ho] at ho'
    cases ho'
    refine wpOp_opw ho (I.step_v d hs0 hdst hg h1 (fun j hj => ?_) fun a' w' r' c' I' => ?_)
    · rw [hanc p g hg] at hj
      obtain ⟨e, he, hbd, h2⟩ := (before_spec ho j).1 hj
      have h3 := hall e he hbd
      rw [Array.getD_eq_getD_getElem?] at h3
      have h4 : e.on < listed.size ∧ listed.getD e.on true = true := by
        rcases h5 : listed[e.on]? with _ | b
        · rw [h5] at h3; cases h3
        · rw [h5] at h3
          refine ⟨(Array.getElem?_eq_some_iff.1 h5).1, ?_⟩
          rw [Array.getD_eq_getD_getElem?, h5]
          exact h3
      rcases h2 with rfl | h2
      · exact h4.2
      · obtain ⟨q, g', hq, hgi⟩ := d.cover e.on (by omega)
        rw [← hgi, ← hanc q g' hq] at h2
        exact I.clo q g' hq (by rw [hgi]; exact h4.2) j h2
    · refine any_all d hanc hs0 hdst fin fuel _ a' w' (by simpa using hs) ?_ ⟨r', c', ?_⟩
      · have h3 := count_set' listed.toList g.ix h1'
        rw [Array.toList_setIfInBounds]
        omega
      · rw [getD_more listed g.ix hil]
        exact I'
end

/-- a region that draws its order -/
theorem drg_s (ht : TyOk P ty) (he : EqT P ty) (hm : P.follows .mixedOrders = true) {call : Call} (hcall : CallS P call) {k : KF} {id : Nat}
    (hord : ordOk ty (draws ty ops.toList (Region.before ops).toList) 0 = true) (honce : once (draws ty ops.toList (Region.before ops).toList) ops.toList.length = true) (hnd : nodupN (ops.toList.filterMap (·.dst)) = true)
    {f : Fr} {h : H} {n : Nat} (hh : drwR call k (cDrw ty live ops.toList (wsOf (draws ty ops.toList (Region.before ops).toList)) (draws ty ops.toList (Region.before ops).toList) [] 0) [] [] h f h n = some res) (hsz : Sz h n) (hfz : Sz f live.length) :
    ∃ f' h' n', Sz h' n' ∧ Sz f' live.length ∧ k f' h' n' = some res ∧ ∀ (r : Ren) (a : Act) (w : World), EnvS live f n r a → Rep P r h.at n w → (∀ o ∈ ops.toList, ∀ t, o.dst = some t → t < a.tmps.size) →
      ∀ Q : Exit → Act → World → Prop, (∀ r' a' w', EnvS live f' n' r' a' → a'.tmps.size = a.tmps.size → a'.defers = a.defers → Ev P r h.at n w r' h'.at n' w' → Q .normal a' w') → (Code.region id ops true).wp P Q a w := by
  generalize hlg : draws ty ops.toList (Region.before ops).toList = lg at hord honce hh
  have hmem : ∀ (p : Nat) (g : Og), lg[p]? = some g → ops[g.ix]? = some g.o ∧ g.anc = (Region.before ops).getD g.ix 0 := fun p g hg => draws_mem (ty := ty) (by rw [hlg]; exact List.mem_of_getElem? hg)
  have hlen : lg.length = ops.size ∧ (lg.map (·.ix)).Nodup := by
    unfold once at honce
    cases hb : Nat.beq lg.length ops.toList.length with
    | false => rw [hb] at honce; cases honce
    | true =>
      rw [hb] at honce
      exact ⟨by rw [Nat.eq_of_beq_eq_true hb, Array.length_toList], nodupN_ok honce⟩
  have hixlt : ∀ (p : Nat) (g : Og), lg[p]? = some g → g.ix < ops.size := fun p g hg => (Array.getElem?_eq_some_iff.1 (hmem p g hg).1).1
  have hndp : ∀ (p : Nat) (g : Og) (p' : Nat) (g' : Og), lg[p]? = some g → lg[p']? = some g' → g.ix = g'.ix → p = p' := fun p g p' g' h1 h2 h3 => by
    have h4 : (lg.map (·.ix))[p]? = some g.ix := by rw [List.getElem?_map, h1]; rfl
    have h5 : (lg.map (·.ix))[p']? = some g.ix := by rw [List.getElem?_map, h2, h3]; rfl
    exact (List.getElem?_inj (List.getElem?_eq_some_iff.1 h4).1 hlen.2).1 (h4.trans h5.symm)
  have hcover : ∀ i, i < ops.size → ∃ (p : Nat) (g : Og), lg[p]? = some g ∧ g.ix = i := fun i hi => by
    have h1 : i ∈ lg.map (·.ix) := nodup_all hlen.2 (fun x hx => by
      obtain ⟨g, hg, rfl⟩ := List.mem_map.1 hx
      obtain ⟨p, hp⟩ := List.getElem?_of_mem hg
      exact hixlt p g hp) (by simp [hlen.1]) hi
    obtain ⟨g, hg, rfl⟩ := List.mem_map.1 h1
    obtain ⟨p, hp⟩ := List.getElem?_of_mem hg
    exact ⟨p, g, hp, rfl⟩
  have hws : ∀ (q : Nat) (g : Og) (t : Nat), lg[q]? = some g → g.o.dst = some t → (t, g.anc) ∈ wsOf lg := fun q g t hg hd => List.mem_filterMap.2 ⟨g, List.mem_of_getElem? hg, by rw [hd]⟩
  have hanc : ∀ (p : Nat) (g : Og), lg[p]? = some g → ∀ j, g.anc.testBit j = true → ∃ (q : Nat) (g' : Og), q < p ∧ lg[q]? = some g' ∧ g'.ix = j := fun p g hg j hj => by
    rcases (ordOk_ok lg 0 hord p g hg).1 j hj with h1 | h1
    · simp at h1
    · exact h1
  have hfree : ∀ (p : Nat) (g : Og) (q : Nat) (g' : Og), q < p → lg[p]? = some g → lg[q]? = some g' → g'.anc.testBit g.ix = false := fun p g q g' hq hg hg' => by
    cases hb : g'.anc.testBit g.ix with
    | false => rfl
    | true =>
      obtain ⟨q', g'', h1, h2, h3⟩ := hanc q g' hg' _ hb
      have := hndp q' g'' p g h2 hg h3
      omega
  have hdst : ∀ (q : Nat) (g : Og) (q' : Nat) (g' : Og) (t : Nat), lg[q]? = some g → lg[q']? = some g' → g.o.dst = some t → g'.o.dst = some t → q = q' := fun q g q' g' t h1 h2 h3 h4 => by
    refine hndp q g q' g' h1 h2 ?_
    have hp := List.pairwise_filterMap.1 (nodupN_ok hnd)
    rw [List.pairwise_iff_getElem] at hp
    have g1 := (hmem q g h1).1
    have g2 := (hmem q' g' h2).1
    rw [← Array.getElem?_toList] at g1 g2
    obtain ⟨l1, e1⟩ := List.getElem?_eq_some_iff.1 g1
    obtain ⟨l2, e2⟩ := List.getElem?_eq_some_iff.1 g2
    rcases Nat.lt_trichotomy g.ix g'.ix with h5 | h5 | h5
    · exact absurd rfl (hp _ _ l1 l2 h5 t (by rw [e1]; exact h3) t (by rw [e2]; exact h4))
    · exact h5
    · exact absurd rfl (hp _ _ l2 l1 h5 t (by rw [e2]; exact h4) t (by rw [e1]; exact h3))
  obtain ⟨v, S, kd, f', a1, a2, _, a4, a5, a6, a7⟩ := drw_run (v0 := fun _ => .nilFunc) ht he hcall hws hfree hdst lg 0 [] [] [] h n f h n hh (fun j => by rw [Nat.zero_add]) hsz hfz (fun t ix q hm => by cases hm) (fun q hq => by omega) (fun t i _ _ => rfl) (fun q g t i hq => by omega)
  rw [Nat.zero_add] at a1 a6 a7
  have d : Drn P ty live ops lg f v S kd h n := ⟨fun p g hg => (hmem p g hg).1, hlen.1, hcover, hndp, hdst, a4, hsz, fun p g hg => a7 p g (Nat.zero_le _) (List.getElem?_eq_some_iff.1 hg).1 hg, hanc, fun p g hg hE q g' hq hg' => ((ordOk_ok lg 0 hord p g hg).2 hE).2 q g' hq hg'⟩
  rw [hlen.1] at a1 a6
  refine ⟨f', (S ops.size).h, (S ops.size).n, d.sz (Nat.le_refl _), a2, a1, fun r a w hs hr hdlt Q hQ => ?_⟩
  have hn0 : n ≤ (S ops.size).n := by
    have : (S 0).n ≤ (S ops.size).n := d.mono (Nat.zero_le _) (Nat.le_refl _)
    rw [a4] at this
    exact this
  refine wp_region_any hm (any_all d (fun p g hg => (hmem p g hg).2) hs (fun q g t hg hd => hdlt g.o (List.mem_of_getElem? (show ops.toList[g.ix]? = some g.o by rw [Array.getElem?_toList]; exact (hmem q g hg).1)) t hd) (r0 := r) (w0 := w)
    (fun D a' w' r' c I hall => ?_) ops.size _ a _ (by simp) (by simp) ⟨r, 0, ?_⟩)
  · obtain ⟨g1, g2, _⟩ := I.asm d I.cm (Nat.le_refl _) (fun q h1 h2 => by
      obtain ⟨gq, hgq⟩ := d.get (p := q) h2
      exact I.post q gq h1 hgq (hall q gq hgq)) (fun q g _ hg => hall q g hg)
    have hag : Ag n r r' := fun b hb => I.ag b (.inl hb)
    refine hQ r' a' w' (fun t i u hi hu => ?_) I.tsz I.dfr ⟨hn0, I.ag, I.size, I.unch, g2, g1, I.out, fun b h1 h2 => ?_, I.old⟩
    rotate_left
    · obtain ⟨p, g, _, h4, h5⟩ := d.range (Nat.le_refl _) h1 h2
      exact I.all p g h4 (hall p g h4) b h5.1 h5.2
    by_cases htd : t ∈ ops.toList.filterMap (·.dst)
    · obtain ⟨o, ho, hod⟩ := List.mem_filterMap.1 htd
      obtain ⟨i', hi'⟩ := List.getElem?_of_mem ho
      rw [Array.getElem?_toList] at hi'
      obtain ⟨q, g, hg, rfl⟩ := hcover i' (Array.getElem?_eq_some_iff.1 hi').1
      have ho' := (hmem q g hg).1
      rw [hi'] at ho'
      cases ho'
      have hq : q < ops.size := by rw [← hlen.1]; exact (List.getElem?_eq_some_iff.1 hg).1
      rw [a6 q g t i hq hg hod hi] at hu
      cases hu
      obtain ⟨h1, h2⟩ := I.vals q g hg (hall q g hg) r' AgD.refl
      exact ⟨h1.mono (d.mono (by omega) (Nat.le_refl _)) (fun _ _ => ⟨rfl, rfl⟩), h2 t hod⟩
    · have hno : ∀ (q : Nat) (g : Og), lg[q]? = some g → g.o.dst ≠ some t := fun q g hg hd => htd (List.mem_filterMap.2 ⟨g.o, by
        have := (hmem q g hg).1
        rw [← Array.getElem?_toList] at this
        exact List.mem_of_getElem? this, hd⟩)
      rw [a5 t i (fun q g _ hg => hno q g hg) hi] at hu
      obtain ⟨h1, h2⟩ := hs t i u hi hu
      exact ⟨h1.mono hn0 hag, by rw [I.slots t (fun q g hg _ => hno q g hg), h2, ren_ag hag h1]⟩
  · have hno : ∀ (p : Nat) (g : Og), lg[p]? = some g → (Array.replicate ops.size false).getD g.ix true = true → False := fun p g hg hd => by
      have := hixlt p g hg
      rw [Array.getD_eq_getD_getElem?, Array.getElem?_replicate, if_pos this] at hd
      cases hd
    refine ⟨Nat.zero_le _, fun p g hp => by omega, fun p g _ hg hd => (hno p g hg hd).elim, fun p g hg hd => (hno p g hg hd).elim, by rw [a4], rfl, rfl, fun p g hg hd => (hno p g hg hd).elim, fun t _ => rfl, fun b _ => ⟨rfl, rfl⟩, ?_, fun p g x _ hg hd => (hno p g hg hd).elim, Nat.le_refl _, fun k o ho _ => ⟨o, ho, .inl rfl⟩, fun b x hb hl => ?_, ⟨rfl, rfl, rfl⟩, fun p g hg hd => (hno p g hg hd).elim, fun _ _ _ => rfl⟩
    · rw [a4]
      exact ⟨hr.blk, hr.inj, hr.lt⟩
    · rw [a4] at hb
      exact .inr ⟨b, x, hb, hl, rfl⟩
end
end Go.Proofs.YtccbdaffjkdpgaaGreatDoor.Vw
namespace Go.Proofs.YtccbdaffjkdpgaaGreatDoor.Vw
variable [Val]

section
variable {P : Program} {ty : Ty} {live : List Nat} {res : Value × H × Nat}

/-- where the interpreter goes on -/
def Goes (e : Exit) (kn : KF) (kx : Nat → KF) (kr : KF) (f : Fr) (h : H) (n : Nat) (res : Value × H × Nat) : Prop := match e with
  | .normal => kn f h n = some res
  | .exit id => kx id f h n = some res
  | .ret => kr f h n = some res
  | _ => False

/-- from one state of a function's code to another -/
def Reach (P : Program) (live : List Nat) (nt : Nat) (f : Fr) (h : H) (n : Nat) (f' : Fr) (h' : H) (n' : Nat) (e : Exit) (W : (Exit → Act → World → Prop) → Act → World → Prop) : Prop :=
  ∀ (r : Ren) (a : Act) (w : World), EnvS live f n r a → Rep P r h.at n w → a.tmps.size = nt →
    ∀ Q : Exit → Act → World → Prop, (∀ r' a' w', EnvS live f' n' r' a' → a'.tmps.size = nt → a'.defers = a.defers → Ev P r h.at n w r' h'.at n' w' → Q e a' w') → W Q a w

/-- a loop, from where a round begins -/
def LoopWp (P : Program) (c : Code) (Q : Exit → Act → World → Prop) (a : Act) (w : World) : Prop :=
  ∀ (b : Frame) (k : List Item) (cs : List Frame), ∃ e a' w', Q e a' w' ∧ Arrives P (lone (b.at a (.code c :: .inLoop c :: k)) cs w) b k cs e a' w'
omit [Val] in
theorem loop_step {c : Code} {Q : Exit → Act → World → Prop} {a : Act} {w : World} (h : c.wp P (Exit.then (LoopWp P c Q) Q) a w) : LoopWp P c Q a w := fun b k cs => by
  obtain ⟨e, a₁, w₁, hq, harr⟩ := h b (.inLoop c :: k) cs
  cases e with
  | normal =>
    obtain ⟨e₂, a₂, w₂, hq₂, harr₂⟩ := hq b k cs
    exact ⟨e₂, a₂, w₂, hq₂, .of_steps (Steps.trans harr (.one step_inLoop)) harr₂⟩
  | exit id => exact ⟨_, a₁, w₁, hq, .pass (x := .inLoop c) rfl (fun _ _ => .inl (by simp)) harr⟩
  | goto l => exact ⟨_, a₁, w₁, hq, .pass (x := .inLoop c) rfl (fun _ _ => .inl (by simp)) harr⟩
  | ret => exact ⟨_, a₁, w₁, hq, .pass (x := .inLoop c) rfl (fun _ _ => .inl (by simp)) harr⟩
  | panic ch => exact ⟨_, a₁, w₁, hq, .pass (x := .inLoop c) rfl (fun _ _ => .inl (by simp)) harr⟩
  | outgrown => exact ⟨_, a₁, w₁, hq, .pass (x := .inLoop c) rfl (fun _ _ => .inl (by simp)) harr⟩
omit [Val] in
theorem loop_begin {c : Code} {Q : Exit → Act → World → Prop} {a : Act} {w : World} (h : LoopWp P c Q a w) : (Code.loop c).wp P Q a w := fun b k cs => by
  obtain ⟨e, a', w', q, r⟩ := h b k cs
  exact ⟨e, a', w', q, .of_steps (.one step_loop) r⟩

theorem Reach.trans {nt : Nat} {f f1 f2 : Fr} {h h1 h2 : H} {n n1 n2 : Nat} {e : Exit} {W W' : (Exit → Act → World → Prop) → Act → World → Prop} {c : Code} (hr : Reach P live nt f h n f1 h1 n1 .normal (fun Q => c.wp P Q)) (hr' : Reach P live nt f1 h1 n1 f2 h2 n2 e W')
    (hW : ∀ Q a w, c.wp P (Exit.then (W' Q) Q) a w → W Q a w) : Reach P live nt f h n f2 h2 n2 e W := fun r a w hs hrep hsz Q hQ =>
  hW Q a w (hr r a w hs hrep hsz _ fun r1 a1 w1 s1 z1 d1 e1 => hr' r1 a1 w1 s1 e1.rep z1 Q fun r2 a2 w2 s2 z2 d2 e2 => hQ r2 a2 w2 s2 z2 (d2.trans d1) (e1.trans e2))
theorem Reach.stay {nt : Nat} {f : Fr} {h : H} {n : Nat} {e : Exit} {W : (Exit → Act → World → Prop) → Act → World → Prop} (hW : ∀ (Q : Exit → Act → World → Prop) a w, Q e a w → W Q a w) : Reach P live nt f h n f h n e W := fun r a w hs hrep hsz Q hQ =>
  hW Q a w (hQ r a w hs hsz rfl (Ev.refl hrep))

omit [Val] in
theorem dstsOk_ok {nt : Nat} : ∀ {l : List Oper}, dstsOk nt l = true → ∀ o ∈ l, ∀ t, o.dst = some t → t < nt
  | [], _, o, ho, t, ht => by cases ho
  | o :: l, h, o', ho', t, ht => by
    unfold dstsOk at h
    have key : (∀ t, o.dst = some t → t < nt) ∧ dstsOk nt l = true := by
      cases hd : o.dst with
      | none => rw [hd] at h; exact ⟨(fun t ht => by cases ht), h⟩
      | some u =>
        rw [hd] at h
        simp only at h
        cases hb : Nat.ble (u + 1) nt with
        | false => rw [hb] at h; cases h
        | true => rw [hb] at h; exact ⟨fun t ht => by cases ht; exact Nat.le_of_ble_eq_true hb, h⟩
    rcases List.mem_cons.1 ho' with rfl | ho'
    · exact key.1 t ht
    · exact dstsOk_ok key.2 o' ho' t ht

/-- what a piece of code does -/
def CodeS (P : Program) (live : List Nat) (nt : Nat) (c : Code) (x : X) : Prop := ∀ (call : Call), CallS P call → ∀ (kn : KF) (kx : Nat → KF) (kr : KF) (f : Fr) (h : H) (n : Nat) (res : Value × H × Nat), x.run call kn kx kr f h n = some res → Sz h n → Sz f live.length →
  ∃ e f' h' n', Sz h' n' ∧ Sz f' live.length ∧ Goes e kn kx kr f' h' n' res ∧ Reach P live nt f h n f' h' n' e (fun Q => c.wp P Q)

theorem loop_s {nt : Nat} {c : Code} {x : X} (hx : CodeS P live nt c x) {call : Call} (hcall : CallS P call) {kx : Nat → KF} {kr : KF} : ∀ (m : Nat) (f : Fr) (h : H) (n : Nat) (res : Value × H × Nat),
    loopR (fun kn => x.run call kn kx kr) m f h n = some res → Sz h n → Sz f live.length →
    ∃ e f' h' n', Sz h' n' ∧ Sz f' live.length ∧ Goes e (fun _ _ _ => none) kx kr f' h' n' res ∧ Reach P live nt f h n f' h' n' e (fun Q => LoopWp P c Q)
  | 0, f, h, n, res, hh, _, _ => by cases hh
  | m + 1, f, h, n, res, hh, hsz, hfz => by
    obtain ⟨e, f1, h1, n1, s1, z1, g1, r1⟩ := hx call hcall (loopR (fun kn => x.run call kn kx kr) m) kx kr f h n res hh hsz hfz
    have other : e ≠ .normal → Goes e (fun _ _ _ => none) kx kr f1 h1 n1 res → ∃ e f' h' n', Sz h' n' ∧ Sz f' live.length ∧ Goes e (fun _ _ _ => none) kx kr f' h' n' res ∧ Reach P live nt f h n f' h' n' e (fun Q => LoopWp P c Q) := fun hne hg =>
      ⟨e, f1, h1, n1, s1, z1, hg, fun r a w hs hrep hz Q hQ => loop_step (r1 r a w hs hrep hz _ fun r' a' w' q1 q2 q3 q4 => by
        have := hQ r' a' w' q1 q2 q3 q4
        cases e <;> first | exact this | exact absurd rfl hne)⟩
    cases e with
    | normal =>
      obtain ⟨e2, f2, h2, n2, s2, z2, g2, r2⟩ := loop_s hx hcall m f1 h1 n1 res g1 s1 z1
      exact ⟨e2, f2, h2, n2, s2, z2, g2, r1.trans r2 fun Q a w hw => loop_step hw⟩
    | exit id => exact other (by simp) g1
    | ret => exact other (by simp) g1
    | goto l => exact g1.elim
    | panic ch => exact g1.elim
    | outgrown => exact g1.elim

omit [Val] in
theorem loopXn_run (m : Nat) (x : X) (call : Call) (kn : KF) (kx : Nat → KF) (kr : KF) (f : Fr) (h : H) (n : Nat) : (loopXn m x).run call kn kx kr f h n = loopR (fun kn => x.run call kn kx kr) m f h n := by
  cases x
  rfl
theorem loop_c {nt : Nat} {c : Code} {x : X} (hx : CodeS P live nt c x) (m : Nat) : CodeS P live nt (.loop c) (loopXn m x) := fun call hcall kn kx kr f h n res hh hsz hfz => by
  rw [loopXn_run] at hh
  obtain ⟨e, f1, h1, n1, s1, z1, g1, r1⟩ := loop_s hx hcall m f h n res hh hsz hfz
  refine ⟨e, f1, h1, n1, s1, z1, ?_, fun r a w hs hrep hz Q hQ => loop_begin (r1 r a w hs hrep hz Q hQ)⟩
  cases e <;> first | exact g1 | cases g1

omit [Val] in
theorem find_nil (t : Nat) : Cx.find [] t = none := rfl

theorem code_s (ht : TyOk P ty) (he : EqT P ty) (hm : P.follows .mixedOrders = true) {nt : Nat} : ∀ c : Code, CodeS P live nt c (ccode ty live nt c)
  | .skip => fun call hcall kn kx kr f h n res hh hsz hfz => ⟨.normal, f, h, n, hsz, hfz, hh, .stay fun Q a w q => wp_skip q⟩
  | .region id ops draw => fun call hcall kn kx kr f h n res hh hsz hfz => by
    unfold ccode at hh
    rw [befs_eq] at hh
    cases hd : dstsOk nt ops.toList with
    | false => rw [hd] at hh; cases hh
    | true =>
      have hdo := dstsOk_ok hd
      rw [hd] at hh
      cases draw with
      | false =>
        have hh1 : regR call kn (cReg ty live nt ops.toList ops.toList [] 0) [] f h n = some res := hh
        obtain ⟨f', h', n', s1, z1, g1, r1⟩ := reg_s ht he hcall ops.toList [] 0 [] f h n hh1 hsz hfz rfl ⟨(fun t p h => by cases h), (fun t i h => by cases h)⟩
        refine ⟨.normal, f', h', n', s1, z1, g1, fun r a w hs hrep hz Q hQ => wp_region_list (r1 r a w (fun t s v h => by cases h) hs hrep (fun o ho t ht => by rw [hz]; exact hdo o ho t ht) Q fun r' a' w' q1 q2 q3 q4 => hQ r' a' w' q1 (q2.trans hz) q3 q4)⟩
      | true =>
        simp only at hh
        cases h1 : ordOk ty (draws ty ops.toList (Region.before ops).toList) 0 with
        | false => rw [h1] at hh; cases hh
        | true =>
          rw [h1] at hh
          cases h2 : once (draws ty ops.toList (Region.before ops).toList) ops.toList.length with
          | false => rw [h2] at hh; cases hh
          | true =>
            rw [h2] at hh
            cases h3 : nodupN (ops.toList.filterMap (·.dst)) with
            | false => rw [h3] at hh; cases hh
            | true =>
              rw [h3] at hh
              have hh1 : drwR call kn (cDrw ty live ops.toList (wsOf (draws ty ops.toList (Region.before ops).toList)) (draws ty ops.toList (Region.before ops).toList) [] 0) [] [] h f h n = some res := hh
              obtain ⟨f', h', n', s1, z1, g1, r1⟩ := drg_s (id := id) ht he hm hcall h1 h2 h3 hh1 hsz hfz
              exact ⟨.normal, f', h', n', s1, z1, g1, fun r a w hs hrep hz Q hQ => r1 r a w hs hrep (fun o ho t ht => by rw [hz]; exact hdo o ho t ht) Q fun r' a' w' q1 q2 q3 q4 => hQ r' a' w' q1 (q2.trans hz) q3 q4⟩
  | .seq a b => fun call hcall kn kx kr f h n res hh hsz hfz => by
    have hh1 : (ccode ty live nt a).run call (fun f h n => (ccode ty live nt b).run call kn kx kr f h n) kx kr f h n = some res := by
      have : (seqX (ccode ty live nt a) (ccode ty live nt b)).run call kn kx kr f h n = some res := hh
      unfold seqX at this
      cases hA : ccode ty live nt a
      cases hB : ccode ty live nt b
      rw [hA, hB] at this
      exact this
    obtain ⟨e, f1, h1, n1, s1, z1, g1, r1⟩ := code_s ht he hm a call hcall _ kx kr f h n res hh1 hsz hfz
    have other : e ≠ .normal → Goes e kn kx kr f1 h1 n1 res → ∃ e f' h' n', Sz h' n' ∧ Sz f' live.length ∧ Goes e kn kx kr f' h' n' res ∧ Reach P live nt f h n f' h' n' e (fun Q => (Code.seq a b).wp P Q) := fun hne hg =>
      ⟨e, f1, h1, n1, s1, z1, hg, fun r a w hs hrep hz Q hQ => wp_seq (r1 r a w hs hrep hz _ fun r' a' w' q1 q2 q3 q4 => by
        have := hQ r' a' w' q1 q2 q3 q4
        cases e <;> first | exact this | exact absurd rfl hne)⟩
    cases e with
    | normal =>
      obtain ⟨e2, f2, h2, n2, s2, z2, g2, r2⟩ := code_s ht he hm b call hcall kn kx kr f1 h1 n1 res g1 s1 z1
      exact ⟨e2, f2, h2, n2, s2, z2, g2, r1.trans r2 fun Q a w hw => wp_seq hw⟩
    | exit id => exact other (by simp) g1
    | ret => exact other (by simp) g1
    | goto l => exact g1.elim
    | panic ch => exact g1.elim
    | outgrown => exact g1.elim
  | .cond c a b => fun call hcall kn kx kr f h n res hh hsz hfz => by
    unfold ccode at hh
    cases hc : copd live [] 0 c with
    | none => rw [hc] at hh; cases hh
    | some x =>
      rw [hc] at hh
      have hh1 : ev x [] f (fun v => asBool v ((ccode ty live nt a).run call kn kx kr f h n) ((ccode ty live nt b).run call kn kx kr f h n)) = some res := by
        have : (condX x (ccode ty live nt a) (ccode ty live nt b)).run call kn kx kr f h n = some res := hh
        unfold condX at this
        cases hA : ccode ty live nt a
        cases hB : ccode ty live nt b
        rw [hA, hB] at this
        exact this
      obtain ⟨v, hv, h2⟩ := ev_EvV hh1
      obtain ⟨t, rfl, h3⟩ := asBool_some h2
      have hev : ∀ {r : Ren} {ac : Act}, EnvS live f n r ac → ac.eval c = .bool t := fun hs => (copd_eval hc hv (EnvR.of (fun t s v h => by cases h) hs)).2
      cases t with
      | true =>
        obtain ⟨e, f1, h1, n1, s1, z1, g1, r1⟩ := code_s ht he hm a call hcall kn kx kr f h n res h3 hsz hfz
        exact ⟨e, f1, h1, n1, s1, z1, g1, fun r ac w hs hrep hz Q hQ => wp_cond_true (hev hs) (r1 r ac w hs hrep hz Q hQ)⟩
      | false =>
        obtain ⟨e, f1, h1, n1, s1, z1, g1, r1⟩ := code_s ht he hm b call hcall kn kx kr f h n res h3 hsz hfz
        exact ⟨e, f1, h1, n1, s1, z1, g1, fun r ac w hs hrep hz Q hQ => wp_cond_false (hev hs) (r1 r ac w hs hrep hz Q hQ)⟩
  | .block id b => fun call hcall kn kx kr f h n res hh hsz hfz => by
    have hh1 : (ccode ty live nt b).run call kn (fun j f h n => @Bool.rec (fun _ => R) (kx j f h n) (kn f h n) (Nat.beq j id)) kr f h n = some res := by
      have : (blockX id (ccode ty live nt b)).run call kn kx kr f h n = some res := hh
      unfold blockX at this
      cases hB : ccode ty live nt b
      rw [hB] at this
      exact this
    obtain ⟨e, f1, h1, n1, s1, z1, g1, r1⟩ := code_s ht he hm b call hcall _ _ kr f h n res hh1 hsz hfz
    cases e with
    | normal => exact ⟨.normal, f1, h1, n1, s1, z1, g1, fun r a w hs hrep hz Q hQ => wp_block (r1 r a w hs hrep hz _ fun r' a' w' q1 q2 q3 q4 => hQ r' a' w' q1 q2 q3 q4)⟩
    | exit j =>
      have g2 : @Bool.rec (fun _ => R) (kx j f1 h1 n1) (kn f1 h1 n1) (Nat.beq j id) = some res := g1
      cases hb : Nat.beq j id with
      | true =>
        rw [hb] at g2
        have hj := Nat.eq_of_beq_eq_true hb
        exact ⟨.normal, f1, h1, n1, s1, z1, g2, fun r a w hs hrep hz Q hQ => wp_block (r1 r a w hs hrep hz _ fun r' a' w' q1 q2 q3 q4 => by
          show (if j = id then _ else _)
          rw [if_pos hj]
          exact hQ r' a' w' q1 q2 q3 q4)⟩
      | false =>
        rw [hb] at g2
        have hj : ¬ j = id := fun e => by rw [e, Nat.beq_refl] at hb; cases hb
        exact ⟨.exit j, f1, h1, n1, s1, z1, g2, fun r a w hs hrep hz Q hQ => wp_block (r1 r a w hs hrep hz _ fun r' a' w' q1 q2 q3 q4 => by
          show (if j = id then _ else _)
          rw [if_neg hj]
          exact hQ r' a' w' q1 q2 q3 q4)⟩
    | ret => exact ⟨.ret, f1, h1, n1, s1, z1, g1, fun r a w hs hrep hz Q hQ => wp_block (r1 r a w hs hrep hz _ fun r' a' w' q1 q2 q3 q4 => hQ r' a' w' q1 q2 q3 q4)⟩
    | goto l => exact g1.elim
    | panic ch => exact g1.elim
    | outgrown => exact g1.elim
  | .loop b => loop_c (code_s ht he hm b) 1000000
  | .exit id => fun call hcall kn kx kr f h n res hh hsz hfz => ⟨.exit id, f, h, n, hsz, hfz, hh, .stay fun Q a w q => wp_exit q⟩
  | .ret => fun call hcall kn kx kr f h n res hh hsz hfz => ⟨.ret, f, h, n, hsz, hfz, hh, .stay fun Q a w q => wp_ret q⟩
  | .rangeFunc _ _ _ _ => fun call hcall kn kx kr f h n res hh hsz hfz => by cases hh
  | .scope _ => fun call hcall kn kx kr f h n res hh hsz hfz => by cases hh
  | .label _ => fun call hcall kn kx kr f h n res hh hsz hfz => by cases hh
  | .goto _ => fun call hcall kn kx kr f h n res hh hsz hfz => by cases hh
  | .refuse _ => fun call hcall kn kx kr f h n res hh hsz hfz => by cases hh
end
end Go.Proofs.YtccbdaffjkdpgaaGreatDoor.Vw
namespace Go.Proofs.YtccbdaffjkdpgaaGreatDoor.Vw
variable [Val]

section
variable {P : Program} {ty : Ty} {live : List Nat} {res : Value × H × Nat}

omit [Val] in
theorem noTup_some {v : Value} {k : Value → R} (h : noTup v k = some res) : k v = some res ∧ ∀ vs, v ≠ .tuple vs := by
  unfold noTup at h
  split at h
  · cases h
  · rename_i hno; exact ⟨h, fun vs e => hno vs e⟩
theorem wf1_of {n : Nat} {r : Ren} {v : Value} (h : wf n r v) (hno : ∀ vs, v ≠ .tuple vs) : wf1 n r v ∧ ren r v = ren1 r v := by
  cases v <;> first | exact ⟨h, rfl⟩ | exact absurd rfl (hno _)

/-- a result in the model -/
def resM (tmps : Array Value) (q : ResultVar) : Sem Value := match q with
  | .tmp t => pure (tmps.getD t undef)
  | .cell b t => do loadVar t (← asAddr (tmps.getD b undef))
omit [Val] in
theorem results_eq (fn : Func) (tmps : Array Value) : results fn tmps = (do
    let vs ← fn.results.mapM (resM tmps)
    pure (if h : vs.size = 1 then vs[0] else .tuple vs)) := by
  unfold results
  congr 1

/-- a result, here and in the model -/
theorem rv1_s (ht : TyOk P ty) {q : ResultVar} {x : Rv} (hc : cres ty live q = some x) {f : Fr} {h : H} {k : Value → R} (hh : rv1 x f h k = some res) : ∃ v, k v = some res ∧ ∀ (r : Ren) (n : Nat) (a : Act) (w : World), EnvS live f n r a → Rep P r h.at n w → wf1 n r v ∧ ren r v = ren1 r v ∧
    (resM a.tmps q).run P w = .ok (ren1 r v) w := by
  cases q with
  | tmp t =>
    unfold cres at hc
    simp only at hc
    cases hi : idxOf t live 0 with
    | none => rw [hi] at hc; cases hc
    | some i =>
      rw [hi] at hc
      cases hc
      have h1 : f.getK i (fun v => noTup v k) none = some res := hh
      rw [Tr.getK_eq] at h1
      cases hv : f.at i with
      | none => rw [hv] at h1; cases h1
      | some v =>
        rw [hv] at h1
        obtain ⟨h2, h3⟩ := noTup_some h1
        refine ⟨v, h2, fun r n a w hs hr => ?_⟩
        obtain ⟨w1, e1⟩ := hs t i v hi hv
        obtain ⟨w2, e2⟩ := wf1_of w1 h3
        refine ⟨w2, e2, ?_⟩
        have : a.tmps.getD t undef = ren1 r v := by rw [Array.getD_eq_getD_getElem?, e1, e2]; rfl
        show (resM a.tmps (.tmp t)).run P w = _
        simp only [resM, this]
        rfl
  | cell b t =>
    unfold cres at hc
    simp only at hc
    cases hi : idxOf b live 0 with
    | none => rw [hi] at hc; cases hc
    | some i =>
      rw [hi] at hc
      cases hg : tagg ty t with
      | none => rw [hg] at hc; cases hc
      | some ag =>
        rw [hg] at hc
        cases hs : tsize ty t with
        | none => rw [hs] at hc; cases hc
        | some m =>
          rw [hs] at hc
          cases hc
          have h1 : f.getK i (fun v => Vw.asPtr v fun a => loadK h a m fun l => mkV ag l k) none = some res := hh
          rw [Tr.getK_eq] at h1
          cases hv : f.at i with
          | none => rw [hv] at h1; cases h1
          | some v =>
            rw [hv] at h1
            obtain ⟨p, rfl, h2⟩ := asPtr_some h1
            obtain ⟨hsp, l, hl, hcs, h3⟩ := loadK_some h2
            obtain ⟨u, h4, h5⟩ := mkV_some h3
            refine ⟨u, h4, fun r n a w henv hr => ?_⟩
            obtain ⟨w1, e1⟩ := henv b i _ hi hv
            have ea : a.tmps.getD b undef = .pointer (some (ra r p)) := by rw [Array.getD_eq_getD_getElem?, e1]; rfl
            obtain ⟨g1, g2⟩ := hcs.rep hr
            have hrun := hcs.run hr
            rw [hl] at hrun
            rcases h5 with ⟨rfl, rfl⟩ | ⟨rfl, h6⟩
            · obtain ⟨w2, e2⟩ := agg_s g1
              refine ⟨w2, rfl, ?_⟩
              simp only [resM, ea]
              unfold loadVar asAddr
              simp only [bind, pure, Sem.run_bind', Sem.run, Result.andThen_ok, run_agg ht hg, if_true, run_size ht hs, hrun]
              show Result.ok (Value.agg (l.map (ren0 r)).toArray) w = .ok (ren r (.agg ⟨l⟩)) w
              rw [e2]
            · subst h6
              have hu := g1 u (by simp)
              have e3 : ren1 r u = ren0 r u := by cases u <;> first | rfl | exact hu.elim
              have w3 : wf1 n r u := by cases u <;> first | exact hu | exact hu.elim
              refine ⟨w3, by rw [ren_of_wf0 hu, e3], ?_⟩
              simp only [resM, ea]
              unfold loadVar asAddr
              simp only [bind, pure, Sem.run_bind', Sem.run, Result.andThen_ok, run_agg ht hg, Bool.false_eq_true, if_false]
              have hcell : w.cell? (ra r p) = some (ren0 r u) := g2 0 u rfl
              rw [run_load, hcell, e3]

theorem rvL_s (ht : TyOk P ty) {f : Fr} {h : H} : ∀ {qs : List ResultVar} {xs : List Rv} {k : List Value → R}, optM (cres ty live) qs = some xs → rvL xs f h k = some res → ∃ vs, k vs = some res ∧ ∀ (r : Ren) (n : Nat) (a : Act) (w : World), EnvS live f n r a → Rep P r h.at n w →
    (∀ v ∈ vs, wf1 n r v ∧ ren r v = ren1 r v) ∧ (qs.mapM (resM a.tmps)).run P w = .ok (vs.map (ren1 r)) w
  | [], xs, k, hc, hh => by
    cases hc
    exact ⟨[], hh, fun r n a w _ _ => ⟨(fun v hv => by cases hv), rfl⟩⟩
  | q :: qs, xs, k, hc, hh => by
    unfold optM at hc
    cases hx : cres ty live q with
    | none => rw [hx] at hc; cases hc
    | some x =>
      rw [hx] at hc
      simp only at hc
      cases hxs : optM (cres ty live) qs with
      | none => rw [hxs] at hc; cases hc
      | some xs' =>
        rw [hxs] at hc
        cases hc
        have hh1 : rv1 x f h (fun v => rvL xs' f h fun vs => k (v :: vs)) = some res := hh
        obtain ⟨v, h1, h2⟩ := rv1_s ht hx hh1
        obtain ⟨vs, h3, h4⟩ := rvL_s ht hxs h1
        refine ⟨v :: vs, h3, fun r n a w hs hr => ?_⟩
        obtain ⟨g1, g2, g3⟩ := h2 r n a w hs hr
        obtain ⟨g4, g5⟩ := h4 r n a w hs hr
        refine ⟨fun u hu => ?_, ?_⟩
        · rcases List.mem_cons.1 hu with rfl | hu
          · exact ⟨g1, g2⟩
          · exact g4 u hu
        · rw [List.mapM_cons]
          simp only [bind, pure, Sem.run_bind', g3, Result.andThen_ok, g5]
          rfl

/-- what a function of the program does -/
def CallAt (P : Program) (g : FuncId) (c : List Value → H → Nat → KV → R) : Prop := ∀ args h n k res, c args h n k = some res → Sz h n → FnOk P g ∧ ∃ v h' n', Sz h' n' ∧ k v h' n' = some res ∧
  ∀ (r : Ren) (w : World), (∀ x ∈ args, wf n r x) → Rep P r h.at n w → ∀ R : Ending → World → Prop, (∀ r' w', wf n' r' v → Ev P r h.at n w r' h'.at n' w' → R (.returned (ren r' v)) w') → Calls P g (args.map (ren r)).toArray w R
def FxOk (P : Program) (g : FuncId) (fx : Fx) : Prop := ∀ call, CallS P call → CallAt P g (runFx fx call)

omit [Val] in
theorem prefOk_ok {np nt : Nat} : ∀ (l : List Nat) (i : Nat), prefOk l i np nt = true → np ≤ i + l.length ∧ ∀ j t, l[j]? = some t → t < nt ∧ (i + j < np → t = i + j)
  | [], i, h => by
    unfold prefOk at h
    exact ⟨by simpa using Nat.le_of_ble_eq_true h, fun j t hj => by simp at hj⟩
  | u :: r, i, h => by
    unfold prefOk at h
    cases hb : Nat.ble (u + 1) nt with
    | false => rw [hb] at h; cases h
    | true =>
      rw [hb] at h
      simp only at h
      have key : prefOk r (i + 1) np nt = true ∧ (i < np → u = i) := by
        cases hb2 : Nat.ble np i with
        | true =>
          rw [hb2] at h
          have := Nat.le_of_ble_eq_true hb2
          exact ⟨h, fun _ => by omega⟩
        | false =>
          rw [hb2] at h
          simp only at h
          cases hb3 : Nat.beq u i with
          | false => rw [hb3] at h; cases h
          | true => rw [hb3] at h; exact ⟨h, fun _ => Nat.eq_of_beq_eq_true hb3⟩
      obtain ⟨h1, h2⟩ := prefOk_ok r (i + 1) key.1
      refine ⟨by simp; omega, fun j t hj => ?_⟩
      cases j with
      | zero =>
        simp at hj
        subst hj
        exact ⟨Nat.le_of_ble_eq_true hb, fun h => key.2 h⟩
      | succ j =>
        obtain ⟨g1, g2⟩ := h2 j t (by simpa using hj)
        exact ⟨g1, fun h => by rw [g2 (by omega)]; omega⟩

omit [Val] in
theorem lenL_eq : ∀ l : List Value, lenL l = l.length
  | [] => rfl
  | a :: l => by
    show Nat.succ (lenL l) = _
    rw [lenL_eq l]
    rfl
theorem mkRet_s {vs : List Value} {n : Nat} {r : Ren} (h : ∀ v ∈ vs, wf1 n r v ∧ ren r v = ren1 r v) : wf n r (mkRet vs) ∧ (∀ a : Array Value, a = (vs.map (ren1 r)).toArray → (if h : a.size = 1 then a[0] else Value.tuple a) = ren r (mkRet vs)) := by
  have gen : (∀ v, vs ≠ [v]) → mkRet vs = .tuple ⟨vs⟩ := fun hno => by
    match vs, hno with
    | [], _ => rfl
    | [v], hno => exact absurd rfl (hno v)
    | _ :: _ :: _, _ => rfl
  by_cases h1 : ∃ v, vs = [v]
  · obtain ⟨v, rfl⟩ := h1
    obtain ⟨g1, g2⟩ := h v (by simp)
    refine ⟨?_, fun a ha => ?_⟩
    · show wf n r v
      cases v <;> first | exact g1 | exact g1.elim
    · subst ha
      simp only [List.map_cons, List.map_nil, List.size_toArray, List.length_cons, List.length_nil]
      exact g2.symm
  · have hno : ∀ v, vs ≠ [v] := fun v e => h1 ⟨v, e⟩
    rw [gen hno]
    refine ⟨fun x hx => (h x hx).1, fun a ha => ?_⟩
    subst ha
    have hl : ¬ (vs.map (ren1 r)).toArray.size = 1 := by
      simp only [List.size_toArray, List.length_map]
      intro hl
      obtain ⟨v, hv⟩ := List.length_eq_one_iff.1 hl
      exact hno v hv
    rw [dif_neg hl]
    simp [ren]

theorem cfun_ok (ht : TyOk P ty) (he : EqT P ty) (hm : P.follows .mixedOrders = true) {g : FuncId} {fn : Func} (hf : P.funcs[g]? = some fn) (hn : (fn.name == "runtime.NumGoroutine") = false) (live : List Nat) : FxOk P g (cfunL ty fn live) := fun call hcall args h n k res hh hsz => by
  unfold cfunL at hh
  cases hb : fn.body with
  | none => rw [hb] at hh; cases hh
  | some c =>
    rw [hb] at hh
    simp only at hh
    cases hr : optM (cres ty live) fn.results.toList with
    | none => rw [hr] at hh; cases hh
    | some xs =>
      rw [hr] at hh
      cases hp : prefOk live 0 (fn.params.size + fn.nfree) fn.ntmps with
      | false => rw [hp] at hh; cases hh
      | true =>
        rw [hp] at hh
        obtain ⟨hp1, hp2⟩ := prefOk_ok live 0 hp
        have hh1 : @Bool.rec (fun _ => R) none (X.rec (motive := fun _ => R) (fun run => run call (retK xs k) (fun _ _ _ _ => none) (retK xs k) ((Tr.putL .e 0 (live.map fun _ => Value.tuple #[])).putL 0 args) h n) (ccode ty live fn.ntmps c)) (Nat.beq (Vw.lenL args) (fn.params.size + fn.nfree)) = some res := hh
        obtain ⟨hl, hh2⟩ := boolK' hh1
        have hl := (lenL_eq args).symm.trans (Nat.eq_of_beq_eq_true hl)
        have hh3 : (ccode ty live fn.ntmps c).run call (retK xs k) (fun _ _ _ _ => none) (retK xs k) ((Tr.putL .e 0 (live.map fun _ => Value.tuple #[])).putL 0 args) h n = some res := by
          cases hx : ccode ty live fn.ntmps c
          rw [hx] at hh2
          exact hh2
        refine ⟨⟨fn, hf, hn, by rw [hb]; rfl⟩, ?_⟩
        obtain ⟨b1, b2⟩ := (Sz.e (α := Value)).putL (live.map fun _ => Value.tuple #[]) 0 (Nat.le_refl _)
        have hb1 : Sz (Tr.putL .e 0 (live.map fun _ => Value.tuple #[])) live.length := by simpa using b1
        obtain ⟨c1, c2⟩ := hb1.putL args 0 (Nat.zero_le _)
        rw [show max live.length (0 + args.length) = live.length by omega] at c1
        obtain ⟨e, f', h', n', s1, z1, g1, r1⟩ := code_s ht he hm c call hcall _ _ _ _ h n res hh3 hsz c1
        have hret : e = .normal ∨ e = .ret := by
          cases e <;> first | exact .inl rfl | exact .inr rfl | cases g1
        have g2 : retK xs k f' h' n' = some res := by rcases hret with rfl | rfl <;> exact g1
        obtain ⟨vs, h4, h5⟩ := rvL_s ht hr (show rvL xs f' h' (fun vs => k (mkRet vs) h' n') = some res from g2)
        refine ⟨mkRet vs, h', n', s1, h4, fun r w hargs hrep R hR => calls_of_wp hf hb ?_⟩
        refine r1 r _ w ?_ hrep ?_ _ fun r' a' w' q1 q2 q3 q4 => ?_
        · intro t i v hi hv
          have hlt := idxOf_lt hi
          have hit := (idxOf_some t live 0 i hi).2
          obtain ⟨p1, p2⟩ := hp2 i t hit
          rw [c2] at hv
          by_cases hin : i < args.length
          · rw [if_pos (by omega), Nat.sub_zero] at hv
            have hti : t = i := by rw [p2 (by omega), Nat.zero_add]
            subst hti
            refine ⟨hargs v (List.mem_of_getElem? hv), ?_⟩
            rw [Array.getElem?_append_left (by simpa using hin)]
            simp [hv]
          · rw [if_neg (by omega), b2, if_pos (by simp; omega), List.getElem?_map, Nat.sub_zero] at hv
            rw [Nat.sub_zero] at hit
            rw [hit] at hv
            cases hv
            refine ⟨wf_undef n r, ?_⟩
            have hge : args.length ≤ t := by
              rcases Nat.lt_or_ge t args.length with h6 | h6
              · obtain ⟨u, hu⟩ : ∃ u, live[t]? = some u := ⟨live[t]'(by omega), List.getElem?_eq_getElem _⟩
                have h7 := (hp2 t u hu).2 (by omega)
                rw [Nat.zero_add] at h7
                subst h7
                -- 't' stands twice
                have h8 : ∀ (l : List Nat) (i0 j : Nat) (t : Nat), l[j]? = some t → ∃ i', idxOf t l i0 = some i' ∧ i' ≤ i0 + j := by
                  intro l
                  induction l with
                  | nil => intro i0 j t h; simp at h
                  | cons a l ih =>
                    intro i0 j t h
                    show ∃ i', @Bool.rec (fun _ => Option Nat) (idxOf t l (i0 + 1)) (some i0) (Nat.beq a t) = some i' ∧ i' ≤ i0 + j
                    cases hbq : Nat.beq a t with
                    | true => exact ⟨i0, rfl, by omega⟩
                    | false =>
                      cases j with
                      | zero =>
                        simp at h
                        subst h
                        rw [Nat.beq_refl] at hbq
                        cases hbq
                      | succ j =>
                        obtain ⟨i', h9, h10⟩ := ih (i0 + 1) j t (by simpa using h)
                        exact ⟨i', h9, by omega⟩
                obtain ⟨i', h9, h10⟩ := h8 live 0 u u hu
                rw [hi] at h9
                cases h9
                omega
              · exact h6
            rw [Array.getElem?_append_right (by simpa using hge), ren_undef]
            simp only [List.size_toArray, List.length_map, Array.getElem?_replicate]
            rw [if_pos (by omega)]
        · simp only [Array.size_append, List.size_toArray, List.length_map, Array.size_replicate]
          have : args.length ≤ fn.ntmps := by
            rcases Nat.lt_or_ge fn.ntmps args.length with h6 | h6
            · obtain ⟨u, hu⟩ : ∃ u, live[fn.ntmps]? = some u := ⟨live[fn.ntmps]'(by omega), List.getElem?_eq_getElem _⟩
              obtain ⟨p1, p2⟩ := hp2 fn.ntmps u hu
              have := p2 (by omega)
              omega
            · exact h6
          omega
        · obtain ⟨i1, i2⟩ := h5 r' n' a' w' q1 q4.rep
          obtain ⟨i3, i4⟩ := mkRet_s i1
          have hres : (results fn a'.tmps).run P w' = .ok (ren r' (mkRet vs)) w' := by
            rw [results_eq, Array.mapM_eq_mapM_toList]
            have e1 : (List.toArray <$> fn.results.toList.mapM (resM a'.tmps)).run P w' = .ok (vs.map (ren1 r')).toArray w' := by simp [i2]
            simp only [bind, pure, Sem.run_bind', e1, Result.andThen_ok]
            show Result.ok _ w' = _
            rw [← i4 _ rfl]
          rcases hret with rfl | rfl
          · exact ⟨q3, _, hres, hR r' w' i3 q4⟩
          · exact ⟨q3, _, hres, hR r' w' i3 q4⟩

theorem call_ok {E : Env} (hE : ∀ g fx, E.at g = some fx → FxOk P g fx) : ∀ m, CallS P (callR E m)
  | 0 => fun g args h n k res hh _ => by cases hh
  | m + 1 => fun g args h n k res hh hsz => by
    have h1 : @Option.rec Fx (fun _ => R) none (fun fx => runFx fx (callR E m) args h n k) (E.at g) = some res := hh
    cases hv : E.at g with
    | none => rw [hv] at h1; cases h1
    | some fx =>
      rw [hv] at h1
      exact hE g fx hv _ (call_ok hE m) args h n k res h1 hsz

theorem tyOf_ok (P : Program) (eq : List (TypeId × Nat)) {tb : Tab} (htb : ∀ w, tb.has w → RowOk w) : TyOk P (tyOf P eq tb) := ⟨(fun t i h => by
  have h1 : (Tr.putL .e 0 P.types.toList).getK t some none = some i := h
  rw [Tr.getK_eq] at h1
  obtain ⟨_, h2⟩ := (Sz.e (α := TypeInfo)).putL P.types.toList 0 (Nat.le_refl _)
  rw [h2] at h1
  by_cases hlt : t < P.types.toList.length
  · rw [if_pos ⟨Nat.zero_le _, by rw [Nat.zero_add]; exact hlt⟩, Nat.sub_zero] at h1
    cases hg : P.types.toList[t]? with
    | none => rw [hg] at h1; cases h1
    | some j =>
      rw [hg] at h1
      cases h1
      rw [Array.getElem?_toList] at hg
      unfold Tables.info?
      rw [if_pos (by simpa using hlt)]
      exact hg
  · rw [if_neg (fun hh => hlt (by have := hh.2; rw [Nat.zero_add] at this; exact this)), Tr.at_e] at h1
    cases h1), htb⟩

omit [Val] in
theorem zipF_some (ty : Ty) : ∀ (l : List Func) (lv : List (List Nat)), (zipF ty l lv).length = l.length ∧ ∀ (g : Nat) (fx : Fx), (zipF ty l lv)[g]? = some fx → ∃ fn : Func, l[g]? = some fn ∧ (fx = .no ∨ ∃ v, fx = cfunL ty fn v)
  | [], lv => ⟨rfl, fun g fx h => by simp [zipF] at h⟩
  | fn :: l, [] => by
    have h1 : zipF ty (fn :: l) [] = .no :: zipF ty l [] := rfl
    obtain ⟨h2, h3⟩ := zipF_some ty l []
    rw [h1]
    refine ⟨by simp [h2], fun g fx h => ?_⟩
    cases g with
    | zero => simp at h; exact ⟨fn, rfl, .inl h.symm⟩
    | succ g => exact h3 g fx (by simpa using h)
  | fn :: l, v :: lv => by
    have h1 : zipF ty (fn :: l) (v :: lv) = cfunL ty fn v :: zipF ty l lv := rfl
    obtain ⟨h2, h3⟩ := zipF_some ty l lv
    rw [h1]
    refine ⟨by simp [h2], fun g fx h => ?_⟩
    cases g with
    | zero => simp at h; exact ⟨fn, rfl, .inr ⟨v, h.symm⟩⟩
    | succ g => exact h3 g fx (by simpa using h)
theorem envL_ok {eq : List (TypeId × Nat)} {tb : Tab} (htb : ∀ w, tb.has w → RowOk w) (he : EqT P (tyOf P eq tb)) (hm : P.follows .mixedOrders = true) (hn : ∀ (g : Nat) (fn : Func), P.funcs[g]? = some fn → (fn.name == "runtime.NumGoroutine") = false) (lv : List (List Nat)) :
    Sz (envL P eq tb lv) P.funcs.size ∧ ∀ g fx, (envL P eq tb lv).at g = some fx → FxOk P g fx := by
  obtain ⟨z1, z2⟩ := zipF_some (tyOf P eq tb) P.funcs.toList lv
  obtain ⟨h1, h2⟩ := (Sz.e (α := Fx)).putL (zipF (tyOf P eq tb) P.funcs.toList lv) 0 (Nat.le_refl _)
  refine ⟨by simpa [envL, z1] using h1, fun g fx h => ?_⟩
  have h3 : (Tr.putL .e 0 (zipF (tyOf P eq tb) P.funcs.toList lv)).at g = some fx := h
  rw [h2] at h3
  by_cases hlt : g < (zipF (tyOf P eq tb) P.funcs.toList lv).length
  · rw [if_pos ⟨Nat.zero_le _, by rw [Nat.zero_add]; exact hlt⟩, Nat.sub_zero] at h3
    obtain ⟨fn, g1, g2⟩ := z2 g fx h3
    rw [Array.getElem?_toList] at g1
    rcases g2 with rfl | ⟨v, rfl⟩
    · exact fun call hcall args h n k res hh _ => by cases hh
    · exact cfun_ok (tyOf_ok P eq htb) he hm g1 (hn g fn g1) v
  · rw [if_neg (fun hh => hlt (by have := hh.2; rw [Nat.zero_add] at this; exact this)), Tr.at_e] at h3
    cases h3
/-- An environment in which a function is known by what it does. -/
theorem put_ok {E : Env} {N : Nat} (hz : Sz E N) (hE : ∀ g fx, E.at g = some fx → FxOk P g fx) {g : FuncId} (hg : g < N) {run : List Value → H → Nat → KV → R} (hr : CallAt P g run) : Sz (E.put g (.sum run)) N ∧ ∀ g' fx, (E.put g (.sum run)).at g' = some fx → FxOk P g' fx := by
  obtain ⟨h1, h2⟩ := hz.put g (Nat.le_of_lt hg) (.sum run)
  rw [show max N (g + 1) = N from Nat.max_eq_left hg] at h1
  refine ⟨h1, fun g' fx h => ?_⟩
  rw [h2] at h
  by_cases e : g' = g
  · subst e
    rw [if_pos rfl] at h
    cases h
    exact fun call _ => hr
  · rw [if_neg e] at h
    exact hE g' fx h
end
end Go.Proofs.YtccbdaffjkdpgaaGreatDoor.Vw
namespace Go.Proofs.YtccbdaffjkdpgaaGreatDoor.Vw
variable [Val]

/-! a state that is told -/
/-- a block that is told -/
inductive LB where
  | row (e : TypeId) (op : Bool) (l : List Value)
  | map0
noncomputable def toBlk (b : LB) : Blk := LB.rec (fun e op l => .row e op l.length 0 (ofL l)) .map0 b
noncomputable def mapB (l : List LB) : List Blk := List.rec [] (fun b _ ih => toBlk b :: ih) l
noncomputable def heapOf (l : List LB) : H := Tr.putL .e 0 (mapB l)

/-! the same, but for the numbers of the blocks: 'sg' tells what number a block had -/
def both {α : Type} (o o' : Option α) (k : α → α → Bool) : Bool := match o with
  | none => o'.isNone
  | some a => match o' with
    | none => false
    | some b => k a b
noncomputable def brel (sg : Tr Nat) (a b : Nat) : Bool := sg.getK b (fun o => Nat.beq o a) false
def optN (a b : Option Nat) : Bool := both a b Nat.beq
noncomputable def arel (sg : Tr Nat) (x y : Addr) : Bool := match brel sg x.block y.block with
  | true => match Nat.beq x.off y.off with
    | true => optN x.spot y.spot
    | false => false
  | false => false
noncomputable def vrel0 (sg : Tr Nat) (x y : Value) : Bool := match x, y with
  | .int k a, .int k' b => match kEq k k' with
    | true => eqI a b
    | false => false
  | .bool a, .bool b => Bool.rec (not b) b a
  | .string a, .string b => a.data.toList == b.data.toList
  | .pointer a, .pointer b => both a b (arel sg)
  | .slice a l c, .slice b l' c' => match Nat.beq l l' with
    | true => match Nat.beq c c' with
      | true => both a b (arel sg)
      | false => false
    | false => false
  | .map a, .map b => both a b (brel sg)
  | .nilFunc, .nilFunc => true
  | _, _ => false
noncomputable def vrelL (g : Value → Value → Bool) (l r : List Value) : Bool := match l with
  | [] => match r with
    | [] => true
    | _ :: _ => false
  | x :: l => match r with
    | [] => false
    | y :: r => match g x y with
      | true => vrelL g l r
      | false => false
noncomputable def vrel1 (sg : Tr Nat) (x y : Value) : Bool := match x, y with
  | .agg a, .agg b => vrelL (vrel0 sg) a.toList b.toList
  | x, y => vrel0 sg x y
noncomputable def vrel (sg : Tr Nat) (x y : Value) : Bool := match x, y with
  | .tuple a, .tuple b => vrelL (vrel1 sg) a.toList b.toList
  | x, y => vrel1 sg x y
/-- the cells of a row from a place on -/
noncomputable def crel (sg : Tr Nat) (cs : Tr Value) (i : Nat) (l : List Value) : Bool := match l with
  | [] => true
  | y :: l => match cs.getK i (fun x => vrel0 sg x y) false with
    | true => crel sg cs (Nat.succ i) l
    | false => false
noncomputable def blkrel (sg : Tr Nat) (x : Blk) (y : LB) : Bool := match x, y with
  | .row e op len o cs, .row e' op' l => match Nat.beq e e', Bool.rec (not op') op' op, Nat.beq len l.length with
    | true, true, true => crel sg cs o l
    | _, _, _ => false
  | .map0, .map0 => true
  | _, _ => false
noncomputable def hrel (sg : Tr Nat) (h : H) (sl : List Nat) (l : List LB) : Bool := match sl with
  | [] => match l with
    | [] => true
    | _ :: _ => false
  | o :: sl => match l with
    | [] => false
    | y :: l => match h.getK o (fun x => blkrel sg x y) false with
      | true => hrel sg h sl l
      | false => false
/-- numbers that rise -/
def rises (l : List Nat) (m : Nat) : Bool := match l with
  | [] => true
  | a :: l => match Nat.ble m a with
    | true => rises l (Nat.succ a)
    | false => false
noncomputable def srel (sl : List Nat) (fl : List Value) (hl : List LB) (vs : Value) (h : H) : Bool := match vs with
  | .tuple a => match rises sl 0, vrelL (vrel (Tr.putL .e 0 sl)) a.toList fl with
    | true, true => hrel (Tr.putL .e 0 sl) h sl hl
    | _, _ => false
  | _ => false

section
variable {P : Program} {r : Ren} {n : Nat} {sg : Tr Nat}
/-- the renaming behind -/
noncomputable def back (sg : Tr Nat) (r : Ren) : Ren := ⟨fun j => r.blk ((sg.at j).getD 0), fun j => r.cap ((sg.at j).getD 0)⟩

omit [Val] in
theorem brel_some {a b : Nat} (h : brel sg a b = true) : sg.at b = some a := by
  unfold brel at h
  rw [Tr.getK_eq] at h
  cases hs : sg.at b with
  | none => rw [hs] at h; cases h
  | some o =>
    rw [hs] at h
    rw [Nat.eq_of_beq_eq_true h]
omit [Val] in
theorem both_some {α : Type} {o o' : Option α} {k : α → α → Bool} (h : both o o' k = true) : (o = none ∧ o' = none) ∨ ∃ a b, o = some a ∧ o' = some b ∧ k a b = true := by
  unfold both at h
  cases o with
  | none => cases o' with
    | none => exact .inl ⟨rfl, rfl⟩
    | some b => cases h
  | some a => cases o' with
    | none => cases h
    | some b => exact .inr ⟨a, b, rfl, rfl, h⟩
omit [Val] in
theorem optN_eq {a b : Option Nat} (h : optN a b = true) : a = b := by
  rcases both_some h with ⟨rfl, rfl⟩ | ⟨x, y, rfl, rfl, h1⟩
  · rfl
  · rw [Nat.eq_of_beq_eq_true h1]
omit [Val] in
theorem arel_some {x y : Addr} (h : arel sg x y = true) : sg.at y.block = some x.block ∧ x.off = y.off ∧ x.spot = y.spot := by
  unfold arel at h
  split at h
  · rename_i h1
    split at h
    · rename_i h2
      exact ⟨brel_some h1, Nat.eq_of_beq_eq_true h2, optN_eq h⟩
    · cases h
  · cases h

/-- the numbers told are of blocks that there are -/
def SgOk (sg : Tr Nat) (n' : Nat) : Prop := ∀ j o, sg.at j = some o → j < n'

theorem vrel0_s {x y : Value} {n' : Nat} (h : vrel0 sg x y = true) (hs : SgOk sg n') (hw : wf0 n r x) : wf0 n' (back sg r) y ∧ ren0 (back sg r) y = ren0 r x := by
  have hb : ∀ {a b : Nat}, sg.at b = some a → (back sg r).blk b = r.blk a ∧ (back sg r).cap b = r.cap a ∧ b < n' := fun {a b} h => ⟨by simp [back, h], by simp [back, h], hs b a h⟩
  unfold vrel0 at h
  split at h
  · rename_i k a k' b
    split at h
    · rename_i hk
      cases kEq_eq hk
      rw [eqI_eq] at h
      cases eq_of_beq h
      exact ⟨trivial, rfl⟩
    · cases h
  · rename_i a b
    have : a = b := by cases a <;> cases b <;> first | rfl | cases h
    subst this
    exact ⟨trivial, rfl⟩
  · rename_i a b
    have h1 : a.data.toList = b.data.toList := eq_of_beq h
    have : a = b := by
      obtain ⟨⟨a⟩⟩ := a
      obtain ⟨⟨b⟩⟩ := b
      simp at h1
      rw [h1]
    subst this
    exact ⟨trivial, rfl⟩
  · rename_i a b
    rcases both_some h with ⟨rfl, rfl⟩ | ⟨x, y, rfl, rfl, h1⟩
    · exact ⟨trivial, rfl⟩
    · obtain ⟨g1, g2, g3⟩ := arel_some h1
      obtain ⟨b1, b2, b3⟩ := hb g1
      have hw' : x.block < n ∧ x.spot = none := hw
      refine ⟨⟨b3, by rw [← g3]; exact hw'.2⟩, ?_⟩
      show Value.pointer (some (ra _ _)) = Value.pointer (some (ra _ _))
      unfold ra
      rw [b1, g2]
  · rename_i a l c b l' c'
    split at h
    · rename_i h1
      split at h
      · rename_i h2
        cases Nat.eq_of_beq_eq_true h1
        cases Nat.eq_of_beq_eq_true h2
        rcases both_some h with ⟨rfl, rfl⟩ | ⟨x, y, rfl, rfl, h3⟩
        · exact ⟨trivial, rfl⟩
        · obtain ⟨g1, g2, g3⟩ := arel_some h3
          obtain ⟨b1, b2, b3⟩ := hb g1
          have hw' : x.block < n ∧ (c < OPEN → x.spot ≠ none → c = 0) ∧ (x.spot ≠ none → l = 0) ∧ (OPEN ≤ c → l + (c - OPEN) ≤ r.cap x.block) := hw
          refine ⟨⟨b3, by rw [← g3]; exact hw'.2.1, by rw [← g3]; exact hw'.2.2.1, by rw [b2]; exact hw'.2.2.2⟩, ?_⟩
          show rsl _ _ _ _ = rsl _ _ _ _
          unfold rsl ra
          rw [b1, b2, g2, g3]
      · cases h
    · cases h
  · rename_i a b
    rcases both_some h with ⟨rfl, rfl⟩ | ⟨x, y, rfl, rfl, h1⟩
    · exact ⟨trivial, rfl⟩
    · obtain ⟨b1, b2, b3⟩ := hb (brel_some h1)
      exact ⟨b3, by show Value.map (some _) = Value.map (some _); rw [b1]⟩
  · exact ⟨trivial, rfl⟩
  · cases h

omit [Val] in
theorem vrelL_s {g : Value → Value → Bool} : ∀ {l l' : List Value}, vrelL g l l' = true → l.length = l'.length ∧ ∀ (j : Nat) (x y : Value), l[j]? = some x → l'[j]? = some y → g x y = true
  | [], [], _ => ⟨rfl, fun j x y h => by simp at h⟩
  | [], _ :: _, h => by unfold vrelL at h; cases h
  | _ :: _, [], h => by unfold vrelL at h; cases h
  | a :: l, b :: l', h => by
    unfold vrelL at h
    simp only at h
    cases hg : g a b with
    | false => rw [hg] at h; cases h
    | true =>
      rw [hg] at h
      obtain ⟨h1, h2⟩ := vrelL_s h
      refine ⟨by simp [h1], fun j x y hx hy => ?_⟩
      cases j with
      | zero => simp at hx hy; subst hx hy; exact hg
      | succ j => exact h2 j x y (by simpa using hx) (by simpa using hy)
omit [Val] in
theorem relL_map {W : Value → Prop} {W' : Value → Prop} {f f' : Value → Value} {g : Value → Value → Bool} (hg : ∀ x y, g x y = true → W x → W' y ∧ f' y = f x) {l l' : List Value} (h : vrelL g l l' = true) (hw : ∀ x ∈ l, W x) : (∀ y ∈ l', W' y) ∧ l'.map f' = l.map f := by
  obtain ⟨h1, h2⟩ := vrelL_s h
  refine ⟨fun y hy => ?_, ?_⟩
  · obtain ⟨j, hj⟩ := List.getElem?_of_mem hy
    have hlt : j < l.length := by rw [h1]; exact (List.getElem?_eq_some_iff.1 hj).1
    exact (hg _ y (h2 j _ y (List.getElem?_eq_getElem hlt) hj) (hw _ (List.getElem_mem hlt))).1
  · refine List.ext_getElem? fun j => ?_
    rw [List.getElem?_map, List.getElem?_map]
    cases hx : l[j]? with
    | none =>
      have : l'[j]? = none := by
        rw [List.getElem?_eq_none_iff] at hx ⊢
        omega
      rw [this]
      rfl
    | some x =>
      have hlt : j < l'.length := by rw [← h1]; exact (List.getElem?_eq_some_iff.1 hx).1
      have hy := List.getElem?_eq_getElem hlt
      rw [hy]
      exact congrArg some (hg x _ (h2 j x _ hx hy) (hw x (List.mem_of_getElem? hx))).2

omit [Val] in
theorem vrel0_no {x y : Value} (h : vrel0 sg x y = true) (cs : Array Value) : (x ≠ .agg cs ∧ x ≠ .tuple cs) ∧ y ≠ .agg cs ∧ y ≠ .tuple cs := by
  refine ⟨⟨fun e => ?_, fun e => ?_⟩, fun e => ?_, fun e => ?_⟩
  · subst e; cases y <;> exact Bool.noConfusion (show false = true from h)
  · subst e; cases y <;> exact Bool.noConfusion (show false = true from h)
  · subst e; cases x <;> exact Bool.noConfusion (show false = true from h)
  · subst e; cases x <;> exact Bool.noConfusion (show false = true from h)
omit [Val] in
theorem vrel1_no {x y : Value} (h : vrel1 sg x y = true) (cs : Array Value) : x ≠ .tuple cs ∧ y ≠ .tuple cs := by
  unfold vrel1 at h
  split at h
  · exact ⟨(fun e => by cases e), (fun e => by cases e)⟩
  · exact ⟨(vrel0_no h cs).1.2, (vrel0_no h cs).2.2⟩
theorem vrel1_s {x y : Value} {n' : Nat} (h : vrel1 sg x y = true) (hs : SgOk sg n') (hw : wf1 n r x) : wf1 n' (back sg r) y ∧ ren1 (back sg r) y = ren1 r x := by
  unfold vrel1 at h
  split at h
  · rename_i a b
    obtain ⟨a⟩ := a
    obtain ⟨b⟩ := b
    obtain ⟨h1, h2⟩ := relL_map (W := wf0 n r) (W' := wf0 n' (back sg r)) (f := ren0 r) (f' := ren0 (back sg r)) (fun x y hg hw => vrel0_s hg hs hw) h hw
    refine ⟨h1, ?_⟩
    show Value.agg _ = Value.agg _
    congr 1
    exact Array.ext' (by simpa using h2)
  · have hx := fun cs => (vrel0_no h cs).1.1
    have hy := fun cs => (vrel0_no h cs).2.1
    have e1 : wf1 n r x = wf0 n r x := by cases x <;> first | rfl | exact absurd rfl (hx _)
    have e2 : wf1 n' (back sg r) y = wf0 n' (back sg r) y := by cases y <;> first | rfl | exact absurd rfl (hy _)
    have e3 : ren1 r x = ren0 r x := by cases x <;> first | rfl | exact absurd rfl (hx _)
    have e4 : ren1 (back sg r) y = ren0 (back sg r) y := by cases y <;> first | rfl | exact absurd rfl (hy _)
    rw [e1] at hw
    rw [e2, e3, e4]
    exact vrel0_s h hs hw
theorem vrel_s {x y : Value} {n' : Nat} (h : vrel sg x y = true) (hs : SgOk sg n') (hw : wf n r x) : wf n' (back sg r) y ∧ ren (back sg r) y = ren r x := by
  unfold vrel at h
  split at h
  · rename_i a b
    obtain ⟨a⟩ := a
    obtain ⟨b⟩ := b
    obtain ⟨h1, h2⟩ := relL_map (W := wf1 n r) (W' := wf1 n' (back sg r)) (f := ren1 r) (f' := ren1 (back sg r)) (fun x y hg hw => vrel1_s hg hs hw) h hw
    refine ⟨h1, ?_⟩
    show Value.tuple _ = Value.tuple _
    congr 1
    exact Array.ext' (by simpa using h2)
  · have hx := fun cs => (vrel1_no h cs).1
    have hy := fun cs => (vrel1_no h cs).2
    have e1 : wf n r x = wf1 n r x := by cases x <;> first | rfl | exact absurd rfl (hx _)
    have e2 : wf n' (back sg r) y = wf1 n' (back sg r) y := by cases y <;> first | rfl | exact absurd rfl (hy _)
    have e3 : ren r x = ren1 r x := by cases x <;> first | rfl | exact absurd rfl (hx _)
    have e4 : ren (back sg r) y = ren1 (back sg r) y := by cases y <;> first | rfl | exact absurd rfl (hy _)
    rw [e1] at hw
    rw [e2, e3, e4]
    exact vrel1_s h hs hw
end
end Go.Proofs.YtccbdaffjkdpgaaGreatDoor.Vw
namespace Go.Proofs.YtccbdaffjkdpgaaGreatDoor.Vw
variable [Val]

section
variable {P : Program} {live : List Nat} {nt : Nat} {r : Ren} {n : Nat}

omit [Val] in
theorem heapOf_at : ∀ (l : List LB), (mapB l).length = l.length ∧ ∀ j : Nat, (mapB l)[j]? = (l[j]?).map toBlk
  | [] => ⟨rfl, fun j => by simp [mapB]⟩
  | b :: l => by
    obtain ⟨h1, h2⟩ := heapOf_at l
    have e : mapB (b :: l) = toBlk b :: mapB l := rfl
    rw [e]
    refine ⟨by simp [h1], fun j => ?_⟩
    cases j with
    | zero => rfl
    | succ j => simpa using h2 j
omit [Val] in
theorem heapOf_sz (l : List LB) : Sz (heapOf l) l.length ∧ ∀ j : Nat, (heapOf l).at j = (l[j]?).map toBlk := by
  obtain ⟨h1, h2⟩ := heapOf_at l
  obtain ⟨h3, h4⟩ := (Sz.e (α := Blk)).putL (mapB l) 0 (Nat.le_refl _)
  refine ⟨by simpa [heapOf, h1] using h3, fun j => ?_⟩
  show (Tr.putL .e 0 (mapB l)).at j = _
  rw [h4]
  by_cases hj : j < l.length
  · rw [if_pos ⟨Nat.zero_le _, by rw [h1, Nat.zero_add]; exact hj⟩, Nat.sub_zero, h2]
  · rw [if_neg (fun hh => hj (by have := hh.2; rw [h1, Nat.zero_add] at this; exact this)), Tr.at_e, List.getElem?_eq_none (by omega)]
    rfl
omit [Val] in
theorem ofN_at (l : List Nat) (j : Nat) : (Tr.putL .e 0 l).at j = l[j]? := by
  obtain ⟨_, h4⟩ := (Sz.e (α := Nat)).putL l 0 (Nat.le_refl _)
  rw [h4]
  by_cases hj : j < l.length
  · rw [if_pos ⟨Nat.zero_le _, by rw [Nat.zero_add]; exact hj⟩, Nat.sub_zero]
  · rw [if_neg (fun hh => hj (by have := hh.2; rw [Nat.zero_add] at this; exact this)), Tr.at_e, List.getElem?_eq_none (by omega)]

omit [Val] in
theorem crel_s {sg : Tr Nat} {cs : Tr Value} : ∀ {l : List Value} {i : Nat}, crel sg cs i l = true → ∀ (j : Nat) (y : Value), l[j]? = some y → ∃ x, cs.at (i + j) = some x ∧ vrel0 sg x y = true
  | [], i, h, j, y, hy => by simp at hy
  | a :: l, i, h, j, y, hy => by
    unfold crel at h
    rw [Tr.getK_eq] at h
    cases hc : cs.at i with
    | none => rw [hc] at h; cases h
    | some x =>
      rw [hc] at h
      cases hv : vrel0 sg x a with
      | false => simp only [hv] at h; cases h
      | true =>
        simp only [hv] at h
        cases j with
        | zero => simp at hy; subst hy; exact ⟨x, by simpa using hc, hv⟩
        | succ j =>
          obtain ⟨x', h1, h2⟩ := crel_s h j y (by simpa using hy)
          exact ⟨x', by rw [← h1]; congr 1; simp; omega, h2⟩
omit [Val] in
theorem hrel_s {sg : Tr Nat} {h : H} : ∀ {sl : List Nat} {l : List LB}, hrel sg h sl l = true → sl.length = l.length ∧ ∀ (j o : Nat) (y : LB), sl[j]? = some o → l[j]? = some y → ∃ x, h.at o = some x ∧ blkrel sg x y = true
  | [], [], _ => ⟨rfl, fun j o y h => by simp at h⟩
  | [], _ :: _, hh => by unfold hrel at hh; cases hh
  | _ :: _, [], hh => by unfold hrel at hh; cases hh
  | o :: sl, y :: l, hh => by
    unfold hrel at hh
    simp only at hh
    rw [Tr.getK_eq] at hh
    cases hx : h.at o with
    | none => rw [hx] at hh; cases hh
    | some x =>
      rw [hx] at hh
      cases hb : blkrel sg x y with
      | false => simp only [hb] at hh; cases hh
      | true =>
        simp only [hb] at hh
        obtain ⟨h1, h2⟩ := hrel_s hh
        refine ⟨by simp [h1], fun j o' y' ho hy => ?_⟩
        cases j with
        | zero => simp at ho hy; subst ho hy; exact ⟨x, hx, hb⟩
        | succ j => exact h2 j o' y' (by simpa using ho) (by simpa using hy)
omit [Val] in
theorem rises_s : ∀ {l : List Nat} {m : Nat}, rises l m = true → (∀ j a : Nat, l[j]? = some a → m ≤ a) ∧ ∀ i j a : Nat, l[i]? = some a → l[j]? = some a → i = j
  | [], m, _ => ⟨fun j a h => by simp at h, fun i j a h => by simp at h⟩
  | a :: l, m, h => by
    unfold rises at h
    cases hb : Nat.ble m a with
    | false => rw [hb] at h; cases h
    | true =>
      rw [hb] at h
      have h0 := Nat.le_of_ble_eq_true hb
      obtain ⟨h1, h2⟩ := rises_s h
      refine ⟨fun j b hj => ?_, fun i j b hi hj => ?_⟩
      · cases j with
        | zero => simp at hj; omega
        | succ j => have := h1 j b (by simpa using hj); omega
      · cases i with
        | zero => cases j with
          | zero => rfl
          | succ j =>
            simp at hi
            subst hi
            have := h1 j a (by simpa using hj)
            omega
        | succ i => cases j with
          | zero =>
            simp at hj
            subst hj
            have := h1 i a (by simpa using hi)
            omega
          | succ j => rw [h2 i j b (by simpa using hi) (by simpa using hj)]

/-- where a top function stands: what is told stands for the frame and the memory; all that was there ahead of it stands as it did -/
def TopSt (P : Program) (live : List Nat) (nt : Nat) (w0 : World) (f : Fr) (h : H) (n : Nat) (a : Act) (w : World) : Prop :=
  ∃ r, EnvS live f n r a ∧ Rep P r h.at n w ∧ a.tmps.size = nt ∧ a.defers = [] ∧ RowKit.Below w0.heap.size w0 w ∧ ∀ b, b < n → w0.heap.size ≤ r.blk b

/-- the slots hold these -/
def Slots (m : Nat) (f : Fr) (l : List Value) : Prop := l.length = m ∧ ∀ i : Nat, i < m → f.at i = l[i]?

/-- another state that stands for the same -/
theorem TopSt.told {w0 : World} {f : Fr} {h : H} {a : Act} {w : World} (st : TopSt P live nt w0 f h n a w) {vs : List Value} (hv : Slots live.length f vs) (hsz : Sz h n) {sl : List Nat} {fl : List Value} {hl : List LB} (hk : srel sl fl hl (.tuple ⟨vs⟩) h = true) :
    TopSt P live nt w0 (ofL fl) (heapOf hl) hl.length a w := by
  obtain ⟨r, h1, h2, h3, h4, h5, h6⟩ := st
  unfold srel at hk
  simp only at hk
  cases hr : rises sl 0 with
  | false => rw [hr] at hk; cases hk
  | true =>
    rw [hr] at hk
    cases hvl : vrelL (vrel (Tr.putL .e 0 sl)) vs fl with
    | false => simp only [hvl] at hk; cases hk
    | true =>
      simp only [hvl] at hk
      obtain ⟨_, inj⟩ := rises_s hr
      obtain ⟨hlen, hblk⟩ := hrel_s hk
      have hsg : ∀ j, (Tr.putL .e 0 sl).at j = sl[j]? := ofN_at sl
      have hs : SgOk (Tr.putL .e 0 sl) hl.length := fun j o ho => by
        rw [hsg] at ho
        rw [← hlen]
        exact (List.getElem?_eq_some_iff.1 ho).1
      have hback : ∀ j o, sl[j]? = some o → (back (Tr.putL .e 0 sl) r).blk j = r.blk o ∧ (back (Tr.putL .e 0 sl) r).cap j = r.cap o := fun j o ho => by
        constructor
        · show r.blk (((Tr.putL .e 0 sl).at j).getD 0) = _
          rw [hsg, ho]
          rfl
        · show r.cap (((Tr.putL .e 0 sl).at j).getD 0) = _
          rw [hsg, ho]
          rfl
      obtain ⟨z1, z2⟩ := heapOf_sz hl
      have hnew : ∀ j x, (heapOf hl).at j = some x → ∃ o y b, sl[j]? = some o ∧ hl[j]? = some y ∧ x = toBlk y ∧ h.at o = some b ∧ blkrel (Tr.putL .e 0 sl) b y = true := fun j x hj => by
        rw [z2] at hj
        cases hy : hl[j]? with
        | none => rw [hy] at hj; cases hj
        | some y =>
          rw [hy] at hj
          have hlt : j < sl.length := by rw [hlen]; exact (List.getElem?_eq_some_iff.1 hy).1
          obtain ⟨b, g1, g2⟩ := hblk j _ y (List.getElem?_eq_getElem hlt) hy
          exact ⟨_, y, b, List.getElem?_eq_getElem hlt, rfl, (Option.some.inj hj).symm, g1, g2⟩
      refine ⟨back (Tr.putL .e 0 sl) r, fun t i v hi hv' => ?_, ⟨fun j x hj => ?_, fun j j' x x' hj hj' hlx hlx' he => ?_, fun j x hj => (z1 j).1 (by rw [hj]; rfl)⟩, h3, h4, h5, fun j hj => ?_⟩
      · have hit := idxOf_lt hi
        obtain ⟨g1, g2⟩ := vrelL_s hvl
        have hlt : i < fl.length := by rw [← g1, hv.1]; exact hit
        rw [(ofL_sz fl).2 i hlt] at hv'
        have hu := hv.2 i hit
        have hlt' : i < vs.length := by rw [hv.1]; exact hit
        rw [List.getElem?_eq_getElem hlt'] at hu
        obtain ⟨e1, e2⟩ := h1 t i _ hi hu
        obtain ⟨e3, e4⟩ := vrel_s (g2 i _ v (List.getElem?_eq_getElem hlt') hv') hs e1
        exact ⟨e3, by rw [e4]; exact e2⟩
      · obtain ⟨o, y, b, g1, g2, rfl, g3, g4⟩ := hnew j x hj
        obtain ⟨k1, k2⟩ := hback j o g1
        have hb := h2.blk o b g3
        unfold blkrel at g4
        split at g4
        · rename_i e op len oo cs e' op' l
          split at g4
          · rename_i q1 q2 q3
            cases Nat.eq_of_beq_eq_true q1
            have hop : op = op' := by cases op <;> cases op' <;> first | rfl | cases q2
            subst hop
            have hln := Nat.eq_of_beq_eq_true q3
            subst hln
            obtain ⟨c, frz, m, p1, p2, p3, p4, p5, p6, p7, p8⟩ := hb
            obtain ⟨s1, s2⟩ := ofL_sz l
            refine ⟨c, frz, l.length, by rw [k1]; exact p1, p2, p3, by rw [k2]; exact p4, p5, by omega, s1, fun i hi => ?_⟩
            obtain ⟨x, x1, x2⟩ := crel_s g4 i _ (List.getElem?_eq_getElem hi)
            obtain ⟨v, v1, v2, v3⟩ := p8 i hi
            rw [x1] at v1
            cases v1
            obtain ⟨y1, y2⟩ := vrel0_s x2 hs v2
            refine ⟨l[i], by rw [Nat.zero_add, s2 i hi, List.getElem?_eq_getElem hi], y1, by rw [y2]; exact v3⟩
          · cases g4
        · obtain ⟨clk, hc⟩ := hb
          exact ⟨clk, by rw [k1]; exact hc⟩
        · cases g4
      · obtain ⟨o, y, b, g1, g2, rfl, g3, g4⟩ := hnew j x hj
        obtain ⟨o', y', b', g1', g2', rfl, g3', g4'⟩ := hnew j' x' hj'
        have lv : ∀ {b : Blk} {y : LB}, blkrel (Tr.putL .e 0 sl) b y = true → b.live := fun {b y} hh e => by
          subst e
          unfold blkrel at hh
          cases y <;> cases hh
        rw [(hback j o g1).1, (hback j' o' g1').1] at he
        have := h2.inj o o' b b' g3 g3' (lv g4) (lv g4') he
        subst this
        exact inj j j' o g1 g1'
      · have hlt : j < sl.length := by rw [hlen]; exact hj
        obtain ⟨o, ho⟩ : ∃ o, sl[j]? = some o := ⟨_, List.getElem?_eq_getElem hlt⟩
        rw [(hback j o ho).1]
        obtain ⟨y, hy⟩ : ∃ y, hl[j]? = some y := ⟨_, List.getElem?_eq_getElem hj⟩
        obtain ⟨b, g1, _⟩ := hblk j o y ho hy
        exact h6 o ((hsz o).1 (by rw [g1]; rfl))

/-! the runs -/
/-- how a piece ends -/
inductive En where
  | n
  | x (id : Nat)
  | r
def En.exit : En → Exit
  | .n => .normal
  | .x id => .exit id
  | .r => .ret
/-- the slots are read out, the state is checked -/
noncomputable def outK (m : Nat) (sl : List Nat) (fl : List Value) (hl : List LB) : KF := fun f h n => f.rangeK m 0 (fun l => Bool.rec none (some (.tuple ⟨l⟩, h, n)) (srel sl fl hl (.tuple ⟨l⟩) h)) none
def noK : KF := fun _ _ _ => none
noncomputable def knOf (e : En) (k : KF) : KF := En.rec k (fun _ => noK) noK e
noncomputable def kxOf (e : En) (k : KF) : Nat → KF := En.rec (fun _ => noK) (fun id j => Bool.rec noK k (Nat.beq j id)) (fun _ => noK) e
noncomputable def krOf (e : En) (k : KF) : KF := En.rec noK (fun _ => noK) k e
/-- so many rounds of a loop -/
noncomputable def rndR (call : Call) (x : X) (kx : Nat → KF) (kr : KF) (k : KF) (m : Nat) : KF := Nat.rec k (fun _ ih f h n => X.rec (fun run => run call ih kx kr f h n) x) m
def okR (o : R) : Bool := o.isSome
noncomputable def pieceB (call : Call) (x : X) (e : En) (fl : List Value) (hl : List LB) (sl : List Nat) (fl' : List Value) (hl' : List LB) : Bool :=
  okR (X.rec (fun run => run call (knOf e (outK fl.length sl fl' hl')) (kxOf e (outK fl.length sl fl' hl')) (krOf e (outK fl.length sl fl' hl')) (ofL fl) (heapOf hl) hl.length) x)
noncomputable def roundsB (call : Call) (x : X) (m : Nat) (fl : List Value) (hl : List LB) (sl : List Nat) (fl' : List Value) (hl' : List LB) : Bool :=
  okR (rndR call x (fun _ => noK) noK (outK fl.length sl fl' hl') m (ofL fl) (heapOf hl) hl.length)

omit [Val] in
theorem outK_some {m : Nat} {sl : List Nat} {fl : List Value} {hl : List LB} {f : Fr} {h : H} {res : Value × H × Nat} (hh : outK m sl fl hl f h n = some res) : ∃ vs, Slots m f vs ∧ srel sl fl hl (.tuple ⟨vs⟩) h = true := by
  obtain ⟨l, h1, h2, h3⟩ := Tr.rangeK_some f rfl m 0 _ res hh
  obtain ⟨h4, _⟩ := boolK' h3
  exact ⟨l, ⟨h1, fun i hi => by rw [← h2 i hi, Nat.zero_add]⟩, h4⟩

/-- from a state to what a run leaves -/
theorem TopSt.go {w0 : World} {f f' : Fr} {h h' : H} {n' : Nat} {a : Act} {w : World} {e : Exit} {W : (Exit → Act → World → Prop) → Act → World → Prop} (st : TopSt P live nt w0 f h n a w) (hr : Reach P live nt f h n f' h' n' e W)
    {Q : Exit → Act → World → Prop} (hQ : ∀ a' w', TopSt P live nt w0 f' h' n' a' w' → Q e a' w') : W Q a w := by
  obtain ⟨r, h1, h2, h3, h4, h5, h6⟩ := st
  refine hr r a w h1 h2 h3 Q fun r' a' w' q1 q2 q3 q4 => hQ a' w' ⟨r', q1, q4.rep, q2, q3.trans h4, ?_, fun b hb => ?_⟩
  · refine ⟨q4.out.os.trans h5.os, q4.out.tape.trans h5.tape, q4.out.output.trans h5.output, Nat.le_trans h5.size q4.size, fun k hk => ?_⟩
    rw [q4.old k (Nat.lt_of_lt_of_le hk h5.size) (fun b hb he => by have := h6 b hb; omega), h5.block k hk]
  · rcases Nat.lt_or_ge b n with hlt | hge
    · rw [(q4.ag b (.inl hlt)).1]
      exact h6 b hlt
    · rcases q4.all b hge hb with h7 | ⟨b0, h7, h8⟩
      · exact Nat.le_trans h5.size h7
      · rw [← h8]
        exact h6 b0 h7

/-- A piece of code. -/
theorem TopSt.piece {w0 : World} {a : Act} {w : World} {c : Code} {x : X} {call : Call} (hx : CodeS P live nt c x) (hcall : CallS P call) {e : En} {fl fl' : List Value} {hl hl' : List LB} {sl : List Nat} (hfl : fl.length = live.length)
    (st : TopSt P live nt w0 (ofL fl) (heapOf hl) hl.length a w) (hk : pieceB call x e fl hl sl fl' hl' = true) {Q : Exit → Act → World → Prop} (hQ : ∀ a' w', TopSt P live nt w0 (ofL fl') (heapOf hl') hl'.length a' w' → Q e.exit a' w') : c.wp P Q a w := by
  obtain ⟨run⟩ := x
  have h1 : (run call (knOf e (outK fl.length sl fl' hl')) (kxOf e (outK fl.length sl fl' hl')) (krOf e (outK fl.length sl fl' hl')) (ofL fl) (heapOf hl) hl.length).isSome = true := hk
  obtain ⟨res, h2⟩ := Option.isSome_iff_exists.1 h1
  have hz : Sz (ofL fl) live.length := by rw [← hfl]; exact (ofL_sz fl).1
  obtain ⟨e1, f1, h3, n1, s1, z1, g1, r1⟩ := hx call hcall _ _ _ _ _ _ res h2 (heapOf_sz hl).1 hz
  have key : e1 = e.exit ∧ outK fl.length sl fl' hl' f1 h3 n1 = some res := by
    cases e with
    | n => cases e1 with
      | normal => exact ⟨rfl, g1⟩
      | exit id => cases g1
      | ret => cases g1
      | _ => exact g1.elim
    | x id => cases e1 with
      | normal => cases g1
      | exit j =>
        have g2 : (@Bool.rec (fun _ => KF) noK (outK fl.length sl fl' hl') (Nat.beq j id)) f1 h3 n1 = some res := g1
        cases hb : Nat.beq j id with
        | false => rw [hb] at g2; cases g2
        | true =>
          rw [hb] at g2
          rw [Nat.eq_of_beq_eq_true hb]
          exact ⟨rfl, g2⟩
      | ret => cases g1
      | _ => exact g1.elim
    | r => cases e1 with
      | normal => cases g1
      | exit id => cases g1
      | ret => exact ⟨rfl, g1⟩
      | _ => exact g1.elim
  obtain ⟨rfl, g2⟩ := key
  obtain ⟨vs, v1, v2⟩ := outK_some g2
  rw [hfl] at v1
  exact st.go r1 fun a' w' st' => hQ a' w' (st'.told v1 s1 v2)

theorem rnd_s {c : Code} {x : X} (hx : CodeS P live nt c x) {call : Call} (hcall : CallS P call) {k : KF} : ∀ (m : Nat) (f : Fr) (h : H) (n : Nat) (res : Value × H × Nat), rndR call x (fun _ => noK) noK k m f h n = some res → Sz h n → Sz f live.length →
    ∃ f' h' n', Sz h' n' ∧ Sz f' live.length ∧ k f' h' n' = some res ∧ ∀ {w0 : World} {a : Act} {w : World}, TopSt P live nt w0 f h n a w → ∀ Q : Exit → Act → World → Prop, (∀ a' w', TopSt P live nt w0 f' h' n' a' w' → LoopWp P c Q a' w') → LoopWp P c Q a w
  | 0, f, h, n, res, hh, hsz, hfz => ⟨f, h, n, hsz, hfz, hh, fun st Q hQ => hQ _ _ st⟩
  | m + 1, f, h, n, res, hh, hsz, hfz => by
    have h1 : x.run call (rndR call x (fun _ => noK) noK k m) (fun _ => noK) noK f h n = some res := by
      cases x
      exact hh
    obtain ⟨e1, f1, h3, n1, s1, z1, g1, r1⟩ := hx call hcall _ _ _ f h n res h1 hsz hfz
    cases e1 with
    | normal =>
      obtain ⟨f2, h4, n2, s2, z2, g2, r2⟩ := rnd_s hx hcall m f1 h3 n1 res g1 s1 z1
      exact ⟨f2, h4, n2, s2, z2, g2, fun st Q hQ => loop_step (st.go r1 fun a' w' st' => r2 st' Q hQ)⟩
    | exit id => cases g1
    | ret => cases g1
    | _ => exact g1.elim

/-- So many rounds of a loop. -/
theorem TopSt.rounds {w0 : World} {a : Act} {w : World} {c : Code} {x : X} {call : Call} (hx : CodeS P live nt c x) (hcall : CallS P call) {m : Nat} {fl fl' : List Value} {hl hl' : List LB} {sl : List Nat} (hfl : fl.length = live.length)
    (st : TopSt P live nt w0 (ofL fl) (heapOf hl) hl.length a w) (hk : roundsB call x m fl hl sl fl' hl' = true) {Q : Exit → Act → World → Prop} (hQ : ∀ a' w', TopSt P live nt w0 (ofL fl') (heapOf hl') hl'.length a' w' → LoopWp P c Q a' w') : LoopWp P c Q a w := by
  obtain ⟨res, h2⟩ := Option.isSome_iff_exists.1 (show (rndR call x (fun _ => noK) noK (outK fl.length sl fl' hl') m (ofL fl) (heapOf hl) hl.length).isSome = true from hk)
  have hz : Sz (ofL fl) live.length := by rw [← hfl]; exact (ofL_sz fl).1
  obtain ⟨f', h', n', s1, z1, g1, r1⟩ := rnd_s hx hcall m _ _ _ res h2 (heapOf_sz hl).1 hz
  obtain ⟨vs, v1, v2⟩ := outK_some g1
  rw [hfl] at v1
  exact r1 st Q fun a' w' st' => hQ a' w' (st'.told v1 s1 v2)
end
end Go.Proofs.YtccbdaffjkdpgaaGreatDoor.Vw
namespace Go.Proofs.YtccbdaffjkdpgaaGreatDoor.Vw
def qi (n : Nat) : Value := .int .i64 (.ofNat n)
def qb (n : Nat) : Value := .int .u8 (.ofNat n)
def qu (n : Nat) : Value := .int .u32 (.ofNat n)
def qk (k : IntKind) (n : Nat) : Value := .int k (.ofNat n)
def qn (k : IntKind) (n : Nat) : Value := .int k (.negSucc n)
def qt (b : Bool) : Value := .bool b
def qs (l : List Nat) : Value := .string ⟨⟨l.map UInt8.ofNat⟩⟩
def qp : Value := .pointer none
def qa (b off : Nat) : Value := .pointer (some ⟨b, off, none⟩)
def qz : Value := .slice none 0 0
def qy (l c : Nat) : Value := .slice none l c
def ql (b off l c : Nat) : Value := .slice (some ⟨b, off, none⟩) l c
def qo (b off l k : Nat) : Value := .slice (some ⟨b, off, none⟩) l (OPEN + k)
def qh (b off s l k : Nat) : Value := .slice (some ⟨b, off, some s⟩) l (OPEN + k)
def qH (b off s l c : Nat) : Value := .slice (some ⟨b, off, some s⟩) l c
def qm : Value := .map none
def qM (b : Nat) : Value := .map (some b)
def qf : Value := .nilFunc
def qF (g : Nat) (l : List Value) : Value := .func (.func g) #[] ⟨l⟩
def qg (l : List Value) : Value := .agg ⟨l⟩
def qv : Value := .tuple #[]
def qT (l : List Value) : Value := .tuple ⟨l⟩

/-- parts of code: of a sequence, of a block or a loop -/
def cl (c : Code) : Code := match c with
  | .seq a _ => a
  | .cond _ a _ => a
  | _ => .skip
def cr (c : Code) : Code := match c with
  | .seq _ b => b
  | .cond _ _ b => b
  | _ => .skip
def cb (c : Code) : Code := match c with
  | .block _ b => b
  | .loop b => b
  | _ => .skip
end Go.Proofs.YtccbdaffjkdpgaaGreatDoor.Vw
namespace Go.Proofs.YtccbdaffjkdpgaaGreatDoor.Vw

/-- a type of numbers alone, one behind the other: how many -/
def flatF (P : Program) (g : TypeId → Option Nat) : List Field → Nat → Option Nat
  | [], off => some off
  | f :: fs, off => match g f.type with
    | some m => match f.name != "_", Nat.beq f.offset off, Nat.beq (P.cellsOf f.type) m, (P.info? f.type).isSome with
      | true, true, true, true => flatF P g fs (off + m)
      | _, _, _, _ => none
    | none => none
def flatI (P : Program) : Nat → TypeId → Option Nat
  | 0, _ => none
  | d + 1, t => match P.underlying t with
    | some (.int _) => some 1
    | some (.array n e) => match flatI P d e with
      | some m => match Nat.beq (P.cellsOf e) m, (P.info? e).isSome with
        | true, true => some (n * m)
        | _, _ => none
      | none => none
    | some (.struct fs) => match P.stoodInHeld t with
      | true => none
      | false => flatF P (flatI P d) fs.toList 0
    | _ => none

theorem eqCells_nil (T : Tab) : eqCells T [] [] = some true := rfl
theorem eqCells_cons' (T : Tab) (x y : Value) (l r : List Value) : eqCells T (x :: l) (y :: r) = match eqCell T x y with | some true => eqCells T l r | some false => some false | none => none := by
  rw [eqCells]
  cases eqCell T x y with
  | none => rfl
  | some b => cases b <;> rfl
theorem eqCells_append (T : Tab) : ∀ (l r l' r' : List Value), l.length = r.length → eqCells T (l ++ l') (r ++ r') = match eqCells T l r with | some true => eqCells T l' r' | some false => some false | none => none
  | [], [], l', r', _ => rfl
  | [], _ :: _, _, _, h => by simp at h
  | _ :: _, [], _, _, h => by simp at h
  | x :: l, y :: r, l', r', h => by
    have ih := eqCells_append T l r l' r' (by simpa using h)
    rw [List.cons_append, List.cons_append, eqCells_cons', eqCells_cons', ih]
    cases eqCell T x y with
    | none => rfl
    | some b => cases b <;> rfl

section
variable {P : Program}

/-- a part of such a type -/
def seg (xs : Array Value) (off m : Nat) : List Value := (xs.toList.drop off).take m
theorem seg_split (xs : Array Value) (off m k : Nat) : seg xs off (m + k) = seg xs off m ++ seg xs (off + m) k := by
  unfold seg
  rw [List.take_add, List.drop_drop]
theorem seg_len {xs : Array Value} {off m : Nat} (h : off + m ≤ xs.size) : (seg xs off m).length = m := by
  unfold seg
  rw [List.length_take, List.length_drop, Array.length_toList]
  omega
theorem seg_sub {xs : Array Value} {off m o k : Nat} (h : o + k ≤ m) : seg (xs.extract off (off + m)) o k = seg xs (off + o) k := by
  unfold seg
  rw [Array.toList_extract]
  simp only [List.extract]
  rw [show off + m - off = m by omega, List.drop_take, List.take_take, List.drop_drop, show min k (m - o) = k by omega]

/-- what comparing does -/
def EqS (P : Program) (D : Nat) (t : TypeId) (m : Nat) : Prop := ∀ (w : World) (xs ys : Array Value) (off off' : Nat) (b : Bool), off + m ≤ xs.size → off' + m ≤ ys.size → eqCells .e (seg xs off m) (seg ys off' m) = some b →
  ∃ a c, (part t xs off).run P w = .ok a w ∧ (part t ys off').run P w = .ok c w ∧ (Op.equalIn D t a c).run P w = .ok b w
def KeyS (P : Program) (D : Nat) (t : TypeId) (m : Nat) : Prop := ∀ (w : World) (em : Bool) (xs : Array Value) (off : Nat), off + m ≤ xs.size → ∃ a, (part t xs off).run P w = .ok a w ∧ (Instr.checkKey em D t a).run P w = .ok () w

theorem flatF_le {g : TypeId → Option Nat} : ∀ (fs : List Field) (off tot : Nat), flatF P g fs off = some tot → off ≤ tot
  | [], off, tot, h => by cases h; exact Nat.le_refl _
  | f :: fs, off, tot, h => by
    unfold flatF at h
    split at h
    · split at h
      · have := flatF_le fs _ _ h; omega
      · cases h
    · cases h
theorem flatF_s {g : TypeId → Option Nat} {D : Nat} (hg : ∀ t m, g t = some m → P.cellsOf t = m → EqS P D t m) (w : World) (xs ys : Array Value) : ∀ (fs : List Field) (off tot : Nat) (b : Bool), flatF P g fs off = some tot → tot ≤ xs.size → tot ≤ ys.size →
    eqCells .e (seg xs off (tot - off)) (seg ys off (tot - off)) = some b → (Op.eqFields D xs ys fs).run P w = .ok b w
  | [], off, tot, b, h, h1, h2, he => by
    cases h
    rw [Nat.sub_self] at he
    have : b = true := by
      have h3 : eqCells .e [] [] = some b := by simpa [seg] using he
      exact (Option.some.inj h3).symm
    subst this
    simp [Op.eqFields]
  | f :: fs, off, tot, b, h, h1, h2, he => by
    unfold flatF at h
    cases hm : g f.type with
    | none => rw [hm] at h; cases h
    | some m =>
      rw [hm] at h
      simp only at h
      split at h
      · rename_i q1 q2 q3 q4
        have hoff := Nat.eq_of_beq_eq_true q2
        have hcell := Nat.eq_of_beq_eq_true q3
        have hle := flatF_le fs _ _ h
        rw [show tot - off = m + (tot - (off + m)) by omega, seg_split, seg_split, eqCells_append .e _ _ _ _ (by rw [seg_len (by omega), seg_len (by omega)])] at he
        have hne : f.name ≠ "_" := by simpa using q1
        cases hc : eqCells .e (seg xs off m) (seg ys off m) with
        | none => rw [hc] at he; cases he
        | some c =>
          rw [hc] at he
          obtain ⟨a, a', p1, p2, p3⟩ := hg f.type m hm hcell w xs ys off off c (by omega) (by omega) hc
          rw [← hoff] at p1 p2
          simp only [Op.eqFields, hne, ne_eq, not_false_eq_true, if_true, Sem.run_bind, p1, p2, p3, Result.andThen_ok]
          cases c with
          | false =>
            simp only [Bool.not_false, if_true] at he ⊢
            cases he
            rfl
          | true =>
            simp only [Bool.not_true, Bool.false_eq_true, if_false] at he ⊢
            exact flatF_s hg w xs ys fs _ _ b h h1 h2 he
      · cases h
theorem items_s {e : TypeId} {D m : Nat} (hg : EqS P D e m) (hm : P.cellsOf e = m) (w : World) (xs ys : Array Value) : ∀ (k i : Nat) (b : Bool), (i + k) * m ≤ xs.size → (i + k) * m ≤ ys.size →
    eqCells .e (seg xs (i * m) (k * m)) (seg ys (i * m) (k * m)) = some b → (Op.eqItems D e (P.cellsOf e) xs ys (List.range' i k)).run P w = .ok b w
  | 0, i, b, h1, h2, he => by
    rw [Nat.zero_mul] at he
    have : b = true := by
      have h3 : eqCells .e [] [] = some b := by simpa [seg] using he
      exact (Option.some.inj h3).symm
    subst this
    simp [Op.eqItems]
  | k + 1, i, b, h1, h2, he => by
    have h3 : (i + 1 + k) * m = (i + (k + 1)) * m := by congr 1; omega
    have h4 : i * m + m ≤ (i + (k + 1)) * m := by
      have : (i + 1) * m ≤ (i + (k + 1)) * m := Nat.mul_le_mul_right m (by omega)
      rw [Nat.succ_mul] at this
      exact this
    rw [Nat.succ_mul, Nat.add_comm (k * m) m, seg_split, seg_split, eqCells_append .e _ _ _ _ (by rw [seg_len (by omega), seg_len (by omega)])] at he
    cases hc : eqCells .e (seg xs (i * m) m) (seg ys (i * m) m) with
    | none => rw [hc] at he; cases he
    | some c =>
      rw [hc] at he
      obtain ⟨a, a', p1, p2, p3⟩ := hg w xs ys (i * m) (i * m) c (by omega) (by omega) hc
      rw [← hm] at p1 p2
      rw [List.range'_succ]
      simp only [Op.eqItems, Sem.run_bind, p1, p2, p3, Result.andThen_ok]
      cases c with
      | false =>
        simp only [Bool.not_false, if_true] at he ⊢
        cases he
        rfl
      | true =>
        simp only [Bool.not_true, Bool.false_eq_true, if_false] at he ⊢
        refine items_s hg hm w xs ys k (i + 1) b (by rw [h3]; exact h1) (by rw [h3]; exact h2) ?_
        rw [Nat.succ_mul]
        exact he

theorem part_agg {t : TypeId} {m : Nat} (hu : (∃ n e, P.underlying t = some (.array n e)) ∨ ∃ fs, P.underlying t = some (.struct fs)) (hm : P.cellsOf t = m) (w : World) (xs : Array Value) (off : Nat) : (part t xs off).run P w = .ok (.agg (xs.extract off (off + m))) w := by
  obtain ⟨i, hi⟩ : ∃ i, P.info? t = some i := by
    rcases hu with ⟨n, e, hu⟩ | ⟨fs, hu⟩ <;> exact info_of_underlying hu
  rcases hu with ⟨n, e, hu⟩ | ⟨fs, hu⟩ <;> simp [part, isAgg, run_underlying hu, run_sizeOf w hi, hm]
theorem eqCell_ints {x y : Value} {b : Bool} (h : eqCell .e x y = some b) : ∃ k m m', x = .int k (.ofNat m) ∧ y = .int k (.ofNat m') ∧ b = Nat.beq m m' := by
  unfold eqCell at h
  cases x with
  | int k m => cases y with
    | int k' m' =>
      simp only at h
      cases hk : kEq k k' with
      | false => rw [hk] at h; cases h
      | true =>
        rw [hk] at h
        have hkk : k = k' := by cases k <;> cases k' <;> first | rfl | cases hk
        subst hkk
        cases m with
        | negSucc m => cases h
        | ofNat m => cases m' with
          | negSucc m' => cases h
          | ofNat m' =>
            refine ⟨k, m, m', rfl, rfl, ?_⟩
            have h2 : @Bool.rec (fun _ => Option Bool) none (@Bool.rec (fun _ => Option Bool) none (some (Nat.beq m m')) (Nat.ble m' 18446744073709551615)) (Nat.ble m 18446744073709551615) = some b := h
            cases a1 : Nat.ble m 18446744073709551615 with
            | false => rw [a1] at h2; cases h2
            | true =>
              rw [a1] at h2
              cases a2 : Nat.ble m' 18446744073709551615 with
              | false => rw [a2] at h2; cases h2
              | true => rw [a2] at h2; exact (Option.some.inj h2).symm
    | _ => cases h
  | _ => cases h

theorem flat_s : ∀ (d : Nat) (t : TypeId) (m D : Nat), flatI P d t = some m → P.cellsOf t = m → d ≤ D → EqS P D t m
  | 0, t, m, D, h, _, _ => by cases h
  | d + 1, t, m, D, h, hm, hD => by
    obtain ⟨D, rfl⟩ : ∃ D', D = D' + 1 := ⟨D - 1, by omega⟩
    unfold flatI at h
    intro w xs ys off off' b h1 h2 he
    split at h
    · rename_i k hu
      cases h
      have hx : off < xs.size := by omega
      have hy : off' < ys.size := by omega
      have e1 : seg xs off 1 = [xs[off]] := by
        unfold seg
        rw [List.take_one]
        simp [List.head?_drop, hx]
      have e2 : seg ys off' 1 = [ys[off']] := by
        unfold seg
        rw [List.take_one]
        simp [List.head?_drop, hy]
      rw [e1, e2, eqCells_cons'] at he
      cases hc : eqCell .e xs[off] ys[off'] with
      | none => rw [hc] at he; cases he
      | some c =>
        rw [hc] at he
        have hb : b = c := by cases c <;> exact (Option.some.inj he).symm
        obtain ⟨k', q, q', e3, e4, e5⟩ := eqCell_ints hc
        refine ⟨xs[off], ys[off'], ?_, ?_, ?_⟩
        · simp [part, isAgg, run_underlying hu, hx]
        · simp [part, isAgg, run_underlying hu, hy]
        · rw [e3, e4, run_equalIn_int w D t k' k _ _ hu, hb, e5]
          congr 1
          rw [Bool.eq_iff_iff, Nat.beq_eq]
          simp
          omega
    · rename_i n e hu
      cases hf : flatI P d e with
      | none => rw [hf] at h; cases h
      | some q =>
        rw [hf] at h
        simp only at h
        split at h
        · rename_i q1 q2
          cases h
          have hce := Nat.eq_of_beq_eq_true q1
          obtain ⟨ie, hie⟩ := Option.isSome_iff_exists.1 q2
          refine ⟨_, _, part_agg (.inl ⟨n, e, hu⟩) hm w xs off, part_agg (.inl ⟨n, e, hu⟩) hm w ys off', ?_⟩
          rw [run_equalIn_array w D _ _ hu hie, List.range_eq_range']
          refine items_s (flat_s d e q D hf hce (by omega)) hce w _ _ n 0 b (by simp; omega) (by simp; omega) ?_
          rw [Nat.zero_mul, seg_sub (by omega), seg_sub (by omega)]
          exact he
        · cases h
    · rename_i fs hu
      cases hs : P.stoodInHeld t with
      | true => rw [hs] at h; cases h
      | false =>
        rw [hs] at h
        refine ⟨_, _, part_agg (.inr ⟨fs, hu⟩) hm w xs off, part_agg (.inr ⟨fs, hu⟩) hm w ys off', ?_⟩
        have hfs : P.fieldsOf t = fs := by simp [Program.fieldsOf, hu]
        rw [run_equalIn_struct w D t _ _ (by rw [hfs]; exact hu) hs, hfs]
        refine flatF_s (fun u q hq hc => flat_s d u q D hq hc (by omega)) w _ _ fs.toList 0 m b h (by simp; omega) (by simp; omega) ?_
        rw [Nat.sub_zero, seg_sub (by omega), seg_sub (by omega)]
        exact he
    · cases h
end
end Go.Proofs.YtccbdaffjkdpgaaGreatDoor.Vw
namespace Go.Proofs.YtccbdaffjkdpgaaGreatDoor.Vw

section
variable {P : Program}

theorem keyF_s {g : TypeId → Option Nat} {D : Nat} (hg : ∀ t m, g t = some m → P.cellsOf t = m → KeyS P D t m) (w : World) (em : Bool) (xs : Array Value) : ∀ (fs : List Field) (off tot : Nat), flatF P g fs off = some tot → tot ≤ xs.size →
    (forIn fs PUnit.unit (fun f _ => (do
      if f.name ≠ "_" then
        Instr.checkKey em D f.type (← part f.type xs f.offset)
        pure (ForInStep.yield PUnit.unit)
      else pure (ForInStep.yield PUnit.unit) : Sem (ForInStep PUnit))) : Sem PUnit).run P w = .ok () w
  | [], off, tot, h, h1 => by rfl
  | f :: fs, off, tot, h, h1 => by
    unfold flatF at h
    cases hm : g f.type with
    | none => rw [hm] at h; cases h
    | some m =>
      rw [hm] at h
      simp only at h
      split at h
      · rename_i q1 q2 q3 q4
        have hoff := Nat.eq_of_beq_eq_true q2
        have hcell := Nat.eq_of_beq_eq_true q3
        have hle := flatF_le fs _ _ h
        have hne : f.name ≠ "_" := by simpa using q1
        obtain ⟨a, p1, p2⟩ := hg f.type m hm hcell w em xs off (by omega)
        rw [← hoff] at p1
        have ih := keyF_s hg w em xs fs _ _ h h1
        simp only [List.forIn_cons, hne, ne_eq, not_false_eq_true, if_true, Sem.run_bind, p1, p2, Result.andThen_ok, Sem.run_pure]
        exact ih
      · cases h
theorem keyI_s {e : TypeId} {D m : Nat} (hg : KeyS P D e m) (hm : P.cellsOf e = m) {ie : TypeInfo} (hi : P.info? e = some ie) (w : World) (em : Bool) (xs : Array Value) : ∀ (k i : Nat), (i + k) * m ≤ xs.size →
    (forIn (List.range' i k) PUnit.unit (fun i _ => (do
      Instr.checkKey em D e (← part e xs (i * (← sizeOf e)))
      pure (ForInStep.yield PUnit.unit) : Sem (ForInStep PUnit))) : Sem PUnit).run P w = .ok () w
  | 0, i, h1 => by rfl
  | k + 1, i, h1 => by
    have h3 : (i + 1 + k) * m = (i + (k + 1)) * m := by congr 1; omega
    have h4 : i * m + m ≤ (i + (k + 1)) * m := by
      have : (i + 1) * m ≤ (i + (k + 1)) * m := Nat.mul_le_mul_right m (by omega)
      rw [Nat.succ_mul] at this
      exact this
    obtain ⟨a, p1, p2⟩ := hg w em xs (i * m) (by omega)
    have ih := keyI_s hg hm hi w em xs k (i + 1) (by rw [h3]; exact h1)
    rw [List.range'_succ]
    simp only [List.forIn_cons, Sem.run_bind, run_sizeOf w hi, hm, p1, p2, Result.andThen_ok, Sem.run_pure]
    exact ih

theorem key_s : ∀ (d : Nat) (t : TypeId) (m D : Nat), flatI P d t = some m → P.cellsOf t = m → d ≤ D → KeyS P D t m
  | 0, t, m, D, h, _, _ => by cases h
  | d + 1, t, m, D, h, hm, hD => by
    obtain ⟨D, rfl⟩ : ∃ D', D = D' + 1 := ⟨D - 1, by omega⟩
    unfold flatI at h
    intro w em xs off h1
    split at h
    · rename_i k hu
      cases h
      have hx : off < xs.size := by omega
      exact ⟨xs[off], by simp [part, isAgg, run_underlying hu, hx], by simp [Instr.checkKey, run_underlying hu]⟩
    · rename_i n e hu
      cases hf : flatI P d e with
      | none => rw [hf] at h; cases h
      | some q =>
        rw [hf] at h
        simp only at h
        split at h
        · rename_i q1 q2
          cases h
          have hce := Nat.eq_of_beq_eq_true q1
          obtain ⟨ie, hie⟩ := Option.isSome_iff_exists.1 q2
          refine ⟨_, part_agg (.inl ⟨n, e, hu⟩) hm w xs off, ?_⟩
          have := keyI_s (key_s d e q D hf hce (by omega)) hce hie w em (xs.extract off (off + n * q)) n 0 (by simp; omega)
          simp only [Instr.checkKey, Sem.run_bind, run_underlying hu, Result.andThen_ok]
          simp only [Std.Legacy.Range.forIn_eq_forIn_range', Std.Legacy.Range.size, Nat.sub_zero, Nat.add_one_sub_one, Nat.div_one]
          rw [this]
          rfl
        · cases h
    · rename_i fs hu
      cases hs : P.stoodInHeld t with
      | true => rw [hs] at h; cases h
      | false =>
        rw [hs] at h
        refine ⟨_, part_agg (.inr ⟨fs, hu⟩) hm w xs off, ?_⟩
        have := keyF_s (fun u q hq hc => key_s d u q D hq hc (by omega)) w em (xs.extract off (off + m)) fs.toList 0 m h (by simp; omega)
        simp only [Instr.checkKey, Sem.run_bind, run_underlying hu, Result.andThen_ok]
        rw [← Array.forIn_toList, this]
        rfl
    · cases h

/-- A type of numbers alone. -/
def flatB (P : Program) (p : TypeId × Nat) : Bool := match flatI P 20 p.1 with
  | some m => match Nat.beq m p.2, Nat.beq (P.cellsOf p.1) p.2, P.eqGuardType P.depth p.1 with
    | true, true, false => match P.underlying p.1 with
      | some (.array _ _) => true
      | some (.struct _) => true
      | _ => false
    | _, _, _ => false
  | none => false
theorem eqOk_of {t : TypeId} {m : Nat} (h : flatB P (t, m) = true) : EqOk P t m := by
  unfold flatB at h
  cases hf : flatI P 20 t with
  | none => rw [hf] at h; cases h
  | some q =>
    rw [hf] at h
    simp only at h
    split at h
    · rename_i h1 h2 h3
      cases Nat.eq_of_beq_eq_true h1
      have hc := Nat.eq_of_beq_eq_true h2
      have hu : (∃ n e, P.underlying t = some (.array n e)) ∨ ∃ fs, P.underlying t = some (.struct fs) := by
        split at h
        · rename_i hu; exact .inl ⟨_, _, hu⟩
        · rename_i hu; exact .inr ⟨_, hu⟩
        · cases h
      have ex : ∀ xs : List Value, xs.length = m → (⟨xs⟩ : Array Value).extract 0 (0 + m) = ⟨xs⟩ := fun xs hx => by
        apply Array.ext'
        rw [Array.toList_extract]
        simp [List.extract, ← hx]
      have sg : ∀ xs : List Value, xs.length = m → seg ⟨xs⟩ 0 m = xs := fun xs hx => by
        simp [seg, ← hx]
      refine ⟨h3, fun xs ys b hx hy he w => ?_, fun em xs hx w => ?_⟩
      · obtain ⟨a, c, p1, p2, p3⟩ := flat_s 20 t m 10000 hf hc (by omega) w ⟨xs⟩ ⟨ys⟩ 0 0 b (by simp [hx]) (by simp [hy]) (by rw [sg xs hx, sg ys hy]; exact he)
        rw [part_agg hu hc w, ex xs hx] at p1
        rw [part_agg hu hc w, ex ys hy] at p2
        cases p1
        cases p2
        exact p3
      · obtain ⟨a, p1, p2⟩ := key_s 20 t m 10000 hf hc (by omega) w em ⟨xs⟩ 0 (by simp [hx])
        rw [part_agg hu hc w, ex xs hx] at p1
        cases p1
        exact p2
    · cases h
theorem eqT_of {eq : List (TypeId × Nat)} {tb : Tab} (h : eq.all (flatB P) = true) : EqT P (tyOf P eq tb) := fun t m hm => by
  have key : ∀ l : List (TypeId × Nat), (List.rec none (fun p _ ih => Prod.rec (fun u m => Bool.rec ih (some m) (Nat.beq u t)) p) l : Option Nat) = some m → (t, m) ∈ l := by
    intro l
    induction l with
    | nil => intro h; cases h
    | cons p l ih =>
      obtain ⟨u, q⟩ := p
      intro h
      have h1 : @Bool.rec (fun _ => Option Nat) (List.rec none (fun p _ ih => Prod.rec (fun u m => Bool.rec ih (some m) (Nat.beq u t)) p) l) (some q) (Nat.beq u t) = some m := h
      cases hb : Nat.beq u t with
      | true =>
        rw [hb] at h1
        rw [Nat.eq_of_beq_eq_true hb, Option.some.inj h1]
        exact List.mem_cons_self ..
      | false =>
        rw [hb] at h1
        exact List.mem_cons_of_mem _ (ih h1)
  exact eqOk_of (List.all_eq_true.1 h _ (key eq hm))
end
end Go.Proofs.YtccbdaffjkdpgaaGreatDoor.Vw
namespace Go.Proofs.YtccbdaffjkdpgaaGreatDoor.Vw
variable [Val]

section
variable {P : Program} {live : List Nat} {nt : Nat}

/-- a renaming of nothing -/
def ren00 : Ren := ⟨fun _ => 0, fun _ => 0⟩

/-- A frame whose temporaries are told; no memory is. -/
theorem TopSt.begin {w0 w : World} {fl : List Value} {a : Act} (hfl : fl.length = live.length) (hb : RowKit.Below w0.heap.size w0 w) (hs : a.tmps.size = nt) (hd : a.defers = [])
    (h : ∀ t i v, idxOf t live 0 = some i → fl[i]? = some v → wf 0 ren00 v ∧ a.tmps[t]? = some (ren ren00 v)) : TopSt P live nt w0 (ofL fl) (heapOf []) ([] : List LB).length a w := by
  refine ⟨ren00, fun t i v hi hv => ?_, ⟨fun b x hx => ?_, fun b b' x x' hx => ?_, fun b x hx => ?_⟩, hs, hd, hb, fun b hb => ?_⟩
  · have hlt := idxOf_lt hi
    rw [(ofL_sz fl).2 i (by omega)] at hv
    exact h t i v hi hv
  · rw [(heapOf_sz []).2] at hx; simp at hx
  · rw [(heapOf_sz []).2] at hx; simp at hx
  · rw [(heapOf_sz []).2] at hx; simp at hx
  · simp at hb

/-- what a slot holds -/
theorem TopSt.slot {w0 w : World} {fl : List Value} {hl : List LB} {a : Act} (st : TopSt P live nt w0 (ofL fl) (heapOf hl) hl.length a w) (hfl : fl.length = live.length) {t i : Nat} {v : Value} (hi : idxOf t live 0 = some i) (hv : fl[i]? = some v) :
    ∃ r, a.tmps[t]? = some (ren r v) ∧ RowKit.Below w0.heap.size w0 w ∧ a.defers = [] := by
  obtain ⟨r, h1, h2, h3, h4, h5, h6⟩ := st
  have hlt := idxOf_lt hi
  obtain ⟨_, e⟩ := h1 t i v hi (by rw [(ofL_sz fl).2 i (by omega)]; exact hv)
  exact ⟨r, e, h5, h4⟩
/-- The end: a truth is given back. -/
theorem TopSt.gives {w0 w : World} {fl : List Value} {hl : List LB} {a : Act} (st : TopSt P live nt w0 (ofL fl) (heapOf hl) hl.length a w) (hfl : fl.length = live.length) {fn : Func} {t i : Nat} {b : Bool} (hr : fn.results = #[.tmp t]) (hi : idxOf t live 0 = some i) (hv : fl[i]? = some (.bool b))
    {R : Ending → World → Prop} (hR : RowKit.Below w0.heap.size w0 w → R (.returned (.bool b)) w) : bodyPost P fn R .ret a w := by
  obtain ⟨r, e, hb, hd⟩ := st.slot hfl hi hv
  refine ⟨hd, _, results_tmp hr _ _ _, ?_⟩
  have : a.tmps.getD t undef = .bool b := by rw [Array.getD_eq_getD_getElem?, e]; rfl
  rw [this]
  exact hR hb
end
end Go.Proofs.YtccbdaffjkdpgaaGreatDoor.Vw
namespace Go.Proofs.YtccbdaffjkdpgaaGreatDoor.Vw
variable [Val]

def shA (n : Nat) (a : Addr) : Addr := ⟨n + a.block, a.off, a.spot⟩
def shV (n : Nat) (v : Value) : Value := match v with
  | .pointer (some a) => .pointer (some (shA n a))
  | .slice (some a) l c => .slice (some (shA n a)) l c
  | .map (some b) => .map (some (n + b))
  | v => v
def noF (v : Value) : Bool := match v with
  | .func _ _ _ => false
  | _ => true
noncomputable def shL (n : Nat) (l : List Value) : List Value := List.rec [] (fun v _ ih => shV n v :: ih) l
def noFL (l : List Value) : Bool := match l with
  | [] => true
  | v :: l => match noF v with
    | true => noFL l
    | false => false
noncomputable def shB (n : Nat) (b : LB) : LB := match b with
  | .row e op l => .row e op (shL n l)
  | .map0 => .map0
def noFB (b : LB) : Bool := match b with
  | .row _ _ l => noFL l
  | .map0 => true
noncomputable def shH (n : Nat) (l : List LB) : List LB := List.rec [] (fun b _ ih => shB n b :: ih) l
def noFH (l : List LB) : Bool := match l with
  | [] => true
  | b :: l => match noFB b with
    | true => noFH l
    | false => false
/-- the told blocks behind the heap -/
noncomputable def addH (h : H) (n : Nat) (l : List LB) : H := Tr.putL h n (mapB (shH n l))

section
variable {P : Program} {r r' r2 : Ren} {n m n' : Nat}

omit [Val] in
theorem shL_eq (n : Nat) : ∀ l : List Value, shL n l = l.map (shV n)
  | [] => rfl
  | v :: l => by
    show shV n v :: shL n l = _
    rw [shL_eq n l]
    rfl
omit [Val] in
theorem shH_eq (n : Nat) : ∀ l : List LB, shH n l = l.map (shB n)
  | [] => rfl
  | v :: l => by
    show shB n v :: shH n l = _
    rw [shH_eq n l]
    rfl
omit [Val] in
theorem noFL_mem : ∀ {l : List Value}, noFL l = true → ∀ v ∈ l, noF v = true
  | [], _, v, hv => by simp at hv
  | a :: l, h, v, hv => by
    unfold noFL at h
    split at h
    · rename_i h1
      rcases List.mem_cons.1 hv with rfl | hv
      · exact h1
      · exact noFL_mem h v hv
    · cases h
omit [Val] in
theorem noFH_mem : ∀ {l : List LB}, noFH l = true → ∀ v ∈ l, noFB v = true
  | [], _, v, hv => by simp at hv
  | a :: l, h, v, hv => by
    unfold noFH at h
    split at h
    · rename_i h1
      rcases List.mem_cons.1 hv with rfl | hv
      · exact h1
      · exact noFH_mem h v hv
    · cases h

/-- the numbers from 'n' on stand for what the told ones stand for -/
def Moved (n m : Nat) (r2 r' : Ren) : Prop := ∀ j, j < m → r'.blk (n + j) = r2.blk j ∧ r'.cap (n + j) = r2.cap j

theorem shV_s (hA : Moved n m r2 r') (hn : n + m ≤ n') {v : Value} (hf : noF v = true) (hw : wf0 m r2 v) : wf0 n' r' (shV n v) ∧ ren0 r' (shV n v) = ren0 r2 v := by
  cases v with
  | pointer a => cases a with
    | none => exact ⟨trivial, rfl⟩
    | some a =>
      have hw' : a.block < m ∧ a.spot = none := hw
      obtain ⟨h1, _⟩ := hA _ hw'.1
      refine ⟨⟨show n + a.block < n' by have := hw'.1; omega, hw'.2⟩, ?_⟩
      show Value.pointer (some (ra _ _)) = Value.pointer (some (ra _ _))
      unfold ra shA
      rw [h1]
  | slice a l c => cases a with
    | none => exact ⟨trivial, rfl⟩
    | some a =>
      have hw' : a.block < m ∧ (c < OPEN → a.spot ≠ none → c = 0) ∧ (a.spot ≠ none → l = 0) ∧ (OPEN ≤ c → l + (c - OPEN) ≤ r2.cap a.block) := hw
      obtain ⟨h1, h2⟩ := hA _ hw'.1
      refine ⟨⟨show n + a.block < n' by have := hw'.1; omega, hw'.2.1, hw'.2.2.1, ?_⟩, ?_⟩
      · show OPEN ≤ c → l + (c - OPEN) ≤ r'.cap (n + a.block)
        rw [h2]
        exact hw'.2.2.2
      · show rsl _ _ _ _ = rsl _ _ _ _
        unfold rsl ra shA
        rw [h1, h2]
  | map a => cases a with
    | none => exact ⟨trivial, rfl⟩
    | some b =>
      have hw' : b < m := hw
      obtain ⟨h1, _⟩ := hA _ hw'
      refine ⟨show n + b < n' by omega, ?_⟩
      show Value.map (some _) = Value.map (some _)
      rw [h1]
  | func _ _ _ => cases hf
  | agg _ => exact hw.elim
  | tuple _ => exact hw.elim
  | _ => exact ⟨trivial, rfl⟩

/-- what the two together stand for -/
noncomputable def joinR (n m : Nat) (r r2 : Ren) : Ren := ⟨fun b => if n ≤ b ∧ b < n + m then r2.blk (b - n) else r.blk b, fun b => if n ≤ b ∧ b < n + m then r2.cap (b - n) else r.cap b⟩
omit [Val] in
theorem joinR_moved : Moved n m r2 (joinR n m r r2) := fun j hj => by
  constructor
  · show (if n ≤ n + j ∧ n + j < n + m then r2.blk (n + j - n) else r.blk (n + j)) = _
    rw [if_pos ⟨by omega, by omega⟩, Nat.add_sub_cancel_left]
  · show (if n ≤ n + j ∧ n + j < n + m then r2.cap (n + j - n) else r.cap (n + j)) = _
    rw [if_pos ⟨by omega, by omega⟩, Nat.add_sub_cancel_left]
omit [Val] in
theorem joinR_old {b : Nat} (hb : b < n ∨ n + m ≤ b) : (joinR n m r r2).blk b = r.blk b ∧ (joinR n m r r2).cap b = r.cap b := by
  constructor
  · show (if n ≤ b ∧ b < n + m then r2.blk (b - n) else r.blk b) = _
    rw [if_neg (by omega)]
  · show (if n ≤ b ∧ b < n + m then r2.cap (b - n) else r.cap b) = _
    rw [if_neg (by omega)]

omit [Val] in
theorem mapB_len (l : List LB) : (mapB l).length = l.length := (heapOf_at l).1
omit [Val] in
theorem addH_s {h : H} (hz : Sz h n) (hl : List LB) : Sz (addH h n hl) (n + hl.length) ∧ (∀ b, b < n → (addH h n hl).at b = h.at b) ∧ (∀ j, j < hl.length → (addH h n hl).at (n + j) = (hl[j]?).map fun y => toBlk (shB n y)) := by
  have hlen : (mapB (shH n hl)).length = hl.length := by rw [mapB_len, shH_eq, List.length_map]
  obtain ⟨h1, h2⟩ := Sz.putL (mapB (shH n hl)) hz n (Nat.le_refl _)
  rw [hlen] at h1 h2
  refine ⟨?_, fun b hb => ?_, fun j hj => ?_⟩
  · have e : max n (n + hl.length) = n + hl.length := Nat.max_eq_right (Nat.le_add_right _ _)
    rw [e] at h1
    exact h1
  · show (Tr.putL h n (mapB (shH n hl))).at b = _
    rw [h2, if_neg (by omega)]
  · show (Tr.putL h n (mapB (shH n hl))).at (n + j) = _
    rw [h2, if_pos ⟨by omega, by omega⟩, Nat.add_sub_cancel_left, (heapOf_at _).2, shH_eq, List.getElem?_map]
    cases hl[j]? <;> rfl

theorem told_ev {h : H} {w w' : World} (hr : Rep P r h.at n w) (hz : Sz h n) (hb : RowKit.Below w.heap.size w w') {hl : List LB} (h2 : Rep P r2 (heapOf hl).at hl.length w') (h6 : ∀ b, b < hl.length → w.heap.size ≤ r2.blk b) (hf : noFH hl = true) :
    Ev P r h.at n w (joinR n hl.length r r2) (addH h n hl).at (n + hl.length) w' := by
  obtain ⟨z1, z2, z3⟩ := addH_s hz hl
  have hin : ∀ b x, (addH h n hl).at b = some x → (b < n ∧ h.at b = some x) ∨ ∃ j y, j < hl.length ∧ b = n + j ∧ hl[j]? = some y ∧ x = toBlk (shB n y) ∧ (heapOf hl).at j = some (toBlk y) := fun b x hx => by
    rcases Nat.lt_or_ge b n with hlt | hge
    · rw [z2 b hlt] at hx
      exact .inl ⟨hlt, hx⟩
    · have hbl : b < n + hl.length := (z1 b).1 (by rw [hx]; rfl)
      obtain ⟨j, rfl⟩ := Nat.exists_eq_add_of_le hge
      have hj : j < hl.length := by omega
      rw [z3 j hj] at hx
      have hy := List.getElem?_eq_getElem hj
      rw [hy] at hx
      refine .inr ⟨j, _, hj, rfl, hy, (Option.some.inj hx).symm, ?_⟩
      rw [(heapOf_sz hl).2, hy]
      rfl
  have hlvo : ∀ {b x}, h.at b = some x → x.live → r.blk b < w.heap.size := fun {b x} hx hlx => by
    obtain ⟨o, ho⟩ := (hr.blk b x hx).there hlx
    exact (Array.getElem?_eq_some_iff.1 ho).1
  refine ⟨Nat.le_add_right _ _, fun b hb' => joinR_old hb', hb.size, fun k o ho _ => ⟨o, by rw [hb.block k (Array.getElem?_eq_some_iff.1 ho).1]; exact ho, .inl rfl⟩, fun b x hx hlx => ?_, ⟨fun b x hx => ?_, fun b b' x x' hx hx' hlx hlx' he => ?_, fun b x hx => (z1 b).1 (by rw [hx]; rfl)⟩, ⟨hb.os, hb.tape, hb.output⟩, fun b g1 g2 => ?_, fun k hk _ => hb.block k hk⟩
  · rcases hin b x hx with ⟨g1, g2⟩ | ⟨j, y, g1, rfl, g3, rfl, g5⟩
    · exact .inr ⟨b, x, g2, hlx, (joinR_old (.inl g1)).1.symm⟩
    · left
      rw [(joinR_moved j g1).1]
      exact h6 j g1
  · rcases hin b x hx with ⟨g1, g2⟩ | ⟨j, y, g1, rfl, g3, rfl, g5⟩
    · by_cases hlx : x.live
      · obtain ⟨o, ho⟩ := (hr.blk b x g2).there hlx
        have hk := (Array.getElem?_eq_some_iff.1 ho).1
        exact BlkRep.move g1 (Nat.le_add_right _ _) (fun b hb => joinR_old (.inl hb)) ho (by rw [hb.block _ hk]; exact ho) (.inl rfl) (hr.blk b x g2)
      · have : x = .dead := Classical.byContradiction hlx
        subst this
        trivial
    · have hby := h2.blk j _ g5
      obtain ⟨k1, k2⟩ := joinR_moved (r := r) (r2 := r2) (n := n) (m := hl.length) j g1
      have hno := noFH_mem hf y (List.mem_of_getElem? g3)
      cases y with
      | row e op l =>
        obtain ⟨c, frz, q, p1, p2, p3, p4, p5, p6, p7, p8⟩ := hby
        have hlen : (shL n l).length = l.length := by rw [shL_eq, List.length_map]
        obtain ⟨s1, s2⟩ := ofL_sz (shL n l)
        obtain ⟨_, s3⟩ := ofL_sz l
        refine ⟨c, frz, (shL n l).length, by rw [k1]; exact p1, by rw [hlen]; exact p2, by rw [hlen]; exact p3, by rw [k2]; exact p4, p5, by omega, s1, fun i hi => ?_⟩
        rw [hlen] at hi
        obtain ⟨v, v1, v2, v3⟩ := p8 i hi
        rw [Nat.zero_add, s3 i hi] at v1
        obtain ⟨y1, y2⟩ := shV_s joinR_moved (Nat.le_refl _) (noFL_mem hno v (List.mem_of_getElem? v1)) v2
        refine ⟨shV n v, ?_, y1, by rw [y2]; exact v3⟩
        rw [Nat.zero_add, s2 i (by omega), shL_eq, List.getElem?_map, v1]
        rfl
      | map0 =>
        obtain ⟨clk, hc⟩ := hby
        exact ⟨clk, by rw [k1]; exact hc⟩
  · rcases hin b x hx with ⟨g1, g2⟩ | ⟨j, y, g1, rfl, g3, rfl, g5⟩
    · rcases hin b' x' hx' with ⟨g1', g2'⟩ | ⟨j', y', g1', rfl, g3', rfl, g5'⟩
      · rw [(joinR_old (.inl g1)).1, (joinR_old (.inl g1')).1] at he
        exact hr.inj b b' x x' g2 g2' hlx hlx' he
      · rw [(joinR_old (.inl g1)).1, (joinR_moved j' g1').1] at he
        have := hlvo g2 hlx
        have := h6 j' g1'
        omega
    · rcases hin b' x' hx' with ⟨g1', g2'⟩ | ⟨j', y', g1', rfl, g3', rfl, g5'⟩
      · rw [(joinR_old (.inl g1')).1, (joinR_moved j g1).1] at he
        have := hlvo g2' hlx'
        have := h6 j g1
        omega
      · rw [(joinR_moved j g1).1, (joinR_moved j' g1').1] at he
        have lv : ∀ y : LB, (toBlk y).live := fun y e => by cases y <;> cases e
        rw [h2.inj j j' _ _ g5 g5' (lv y) (lv y') he]
  · obtain ⟨j, rfl⟩ := Nat.exists_eq_add_of_le g1
    left
    rw [(joinR_moved j (by omega)).1]
    exact h6 j (by omega)
end
end Go.Proofs.YtccbdaffjkdpgaaGreatDoor.Vw
namespace Go.Proofs.YtccbdaffjkdpgaaGreatDoor.Vw
variable [Val]

/-- a value that is one cell, and no function -/
def plainV (v : Value) : Bool := match v with
  | .func _ _ _ => false
  | .agg _ => false
  | .tuple _ => false
  | _ => true
/-- the summary -/
noncomputable def toldSum (v : Value) (hl : List LB) (args : List Value) (h : H) (n : Nat) (k : KV) : R := match args with
  | [] => forceN (Nat.add n hl.length) fun n' => k (shV n v) (addH h n hl) n'
  | _ :: _ => none
/-- what a call hands back that read nothing of its world -/
def Handed (P : Program) (v : Value) (hl : List LB) (w0 : World) (e : Ending) (w : World) : Prop :=
  ∃ r2, e = .returned (ren r2 v) ∧ wf hl.length r2 v ∧ Rep P r2 (heapOf hl).at hl.length w ∧ RowKit.Below w0.heap.size w0 w ∧ ∀ b, b < hl.length → w0.heap.size ≤ r2.blk b

section
variable {P : Program} {live : List Nat} {nt : Nat}

theorem TopSt.hands {w0 w : World} {fl : List Value} {hl : List LB} {a : Act} (st : TopSt P live nt w0 (ofL fl) (heapOf hl) hl.length a w) (hfl : fl.length = live.length) {fn : Func} {t i : Nat} {v : Value} (hr : fn.results = #[.tmp t]) (hi : idxOf t live 0 = some i) (hv : fl[i]? = some v) :
    bodyPost P fn (Handed P v hl w0) .ret a w := by
  obtain ⟨r, h1, h2, h3, h4, h5, h6⟩ := st
  have hlt := idxOf_lt hi
  obtain ⟨g1, e⟩ := h1 t i v hi (by rw [(ofL_sz fl).2 i (by omega)]; exact hv)
  refine ⟨h4, _, results_tmp hr _ _ _, ?_⟩
  have : a.tmps.getD t undef = ren r v := by rw [Array.getD_eq_getD_getElem?, e]; rfl
  rw [this]
  exact ⟨r, rfl, g1, h2, h5, h6⟩

theorem plain_wf {n : Nat} {r : Ren} {v : Value} (hp : plainV v = true) : noF v = true ∧ (wf n r v = wf0 n r v) ∧ (ren r v = ren0 r v) ∧ ∀ m, plainV (shV m v) = true := by
  cases v with
  | pointer a => cases a <;> exact ⟨rfl, rfl, rfl, fun _ => rfl⟩
  | slice a l c => cases a <;> exact ⟨rfl, rfl, rfl, fun _ => rfl⟩
  | map a => cases a <;> exact ⟨rfl, rfl, rfl, fun _ => rfl⟩
  | func _ _ _ => cases hp
  | agg _ => cases hp
  | tuple _ => cases hp
  | _ => exact ⟨rfl, rfl, rfl, fun _ => rfl⟩

theorem sum_told {g : FuncId} (hg : FnOk P g) {v : Value} {hl : List LB} (hf : noFH hl = true) (hp : plainV v = true) (hc : ∀ w0, Calls P g #[] w0 (Handed P v hl w0)) : CallAt P g (toldSum v hl) := fun args h n k res hh hsz => by
  cases args with
  | cons _ _ => cases hh
  | nil =>
    have hh' : forceN (n + hl.length) (fun n' => k (shV n v) (addH h n hl) n') = some res := hh
    rw [forceN_eq] at hh'
    obtain ⟨z1, _, _⟩ := addH_s hsz hl
    refine ⟨hg, _, _, _, z1, hh', fun r w _ hr R hR => ?_⟩
    refine (hc w).mono ?_
    rintro e w' ⟨r2, rfl, g1, g2, g3, g4⟩
    have hev := told_ev hr hsz g3 g2 g4 hf
    obtain ⟨p1, p2, p3, p4⟩ := plain_wf (n := hl.length) (r := r2) hp
    rw [p2] at g1
    obtain ⟨y1, y2⟩ := shV_s (joinR_moved (r := r) (n := n)) (Nat.le_refl _) p1 g1
    have := hR _ w' (wf_of_wf0 y1) hev
    rw [ren_of_wf0 y1, y2, ← p3] at this
    exact this
end
end Go.Proofs.YtccbdaffjkdpgaaGreatDoor.Vw
namespace Go.Proofs.YtccbdaffjkdpgaaGreatDoor.Vw
variable [Val]

def isSeq (c : Code) : Bool := match c with
  | .seq _ _ => true
  | _ => false
def isBlk (id : Nat) (c : Code) : Bool := match c with
  | .block i _ => Nat.beq i id
  | _ => false
def isLoop (c : Code) : Bool := match c with
  | .loop _ => true
  | _ => false

section
variable {P : Program} {Q : Exit → Act → World → Prop} {a : Act} {w : World}
omit [Val] in
theorem go_seq {c : Code} (h : isSeq c = true) (h1 : (cl c).wp P (Exit.then ((cr c).wp P Q) Q) a w) : c.wp P Q a w := by
  cases c <;> first | exact wp_seq h1 | cases h
omit [Val] in
theorem go_blk {c : Code} {id : Nat} (h : isBlk id c = true) (h1 : (cb c).wp P (Exit.inBlock id Q) a w) : c.wp P Q a w := by
  cases c with
  | block i b =>
    cases Nat.eq_of_beq_eq_true h
    exact wp_block h1
  | _ => cases h
omit [Val] in
theorem go_loop {c : Code} (h : isLoop c = true) (h1 : LoopWp P (cb c) Q a w) : c.wp P Q a w := by
  cases c with
  | loop b => exact fun fr k cs => let ⟨e, a', w', q, r⟩ := h1 fr k cs; ⟨e, a', w', q, .of_steps (.one step_loop) r⟩
  | _ => cases h
end

/-- what the pieces of a function rest on -/
structure Top (P : Program) (ty : Ty) (E : Env) : Prop where
  ok : TyOk P ty
  eq : EqT P ty
  mixed : P.follows .mixedOrders = true
  env : ∀ g fx, E.at g = some fx → FxOk P g fx

section
variable {P : Program} {ty : Ty} {E : Env} {live : List Nat} {nt : Nat} {Q : Exit → Act → World → Prop} {w0 w : World} {a : Act} {c : Code} {fl fl' : List Value} {hl hl' : List LB} {sl : List Nat} {d : Nat}
theorem Top.piece (t : Top P ty E) (hfl : fl.length = live.length) (st : TopSt P live nt w0 (ofL fl) (heapOf hl) hl.length a w) {e : En} (hk : pieceB (callR E d) (ccode ty live nt c) e fl hl sl fl' hl' = true)
    (hQ : ∀ a' w', TopSt P live nt w0 (ofL fl') (heapOf hl') hl'.length a' w' → Q e.exit a' w') : c.wp P Q a w :=
  st.piece (code_s t.ok t.eq t.mixed c) (call_ok t.env d) hfl hk hQ
theorem Top.rounds (t : Top P ty E) (hfl : fl.length = live.length) (st : TopSt P live nt w0 (ofL fl) (heapOf hl) hl.length a w) {m : Nat} (hk : roundsB (callR E d) (ccode ty live nt c) m fl hl sl fl' hl' = true)
    (hQ : ∀ a' w', TopSt P live nt w0 (ofL fl') (heapOf hl') hl'.length a' w' → LoopWp P c Q a' w') : LoopWp P c Q a w :=
  st.rounds (code_s t.ok t.eq t.mixed c) (call_ok t.env d) hfl hk hQ
/-- the round that leaves the loop -/
theorem Top.leave (t : Top P ty E) (hfl : fl.length = live.length) (st : TopSt P live nt w0 (ofL fl) (heapOf hl) hl.length a w) {e : En} (hn : e ≠ .n) (hk : pieceB (callR E d) (ccode ty live nt c) e fl hl sl fl' hl' = true)
    (hQ : ∀ a' w', TopSt P live nt w0 (ofL fl') (heapOf hl') hl'.length a' w' → Q e.exit a' w') : LoopWp P c Q a w :=
  loop_step (t.piece hfl st hk fun a' w' h => by
    cases e with
    | n => exact absurd rfl hn
    | x id => exact hQ a' w' h
    | r => exact hQ a' w' h)
end
end Go.Proofs.YtccbdaffjkdpgaaGreatDoor.Vw
namespace Go.Proofs.YtccbdaffjkdpgaaGreatDoor.Vw
variable [Val]

def allLt (l : List Nat) (m : Nat) : Bool := match l with
  | [] => true
  | t :: l => match Nat.blt t m with
    | true => allLt l m
    | false => false
omit [Val] in
theorem allLt_mem {m : Nat} : ∀ {l : List Nat}, allLt l m = true → ∀ t ∈ l, t < m
  | [], _, t, ht => by simp at ht
  | a :: l, h, t, ht => by
    unfold allLt at h
    split at h
    · rename_i h1
      rcases List.mem_cons.1 ht with rfl | ht
      · exact Nat.le_of_ble_eq_true h1
      · exact allLt_mem h t ht
    · cases h
/-- empty slots -/
def slots0 (l : List Nat) : List Value := match l with
  | [] => []
  | _ :: l => .tuple #[] :: slots0 l
omit [Val] in
theorem slots0_eq : ∀ l : List Nat, slots0 l = l.map fun _ => Value.tuple #[]
  | [] => rfl
  | _ :: l => by
    unfold slots0
    rw [slots0_eq l]
    rfl

section
variable {P : Program} {live : List Nat} {nt : Nat} {g : FuncId} {fn : Func} {c : Code}
theorem TopSt.enter0 (hf : P.funcs[g]? = some fn) (hb : fn.body = some c) (hnt : fn.ntmps = nt) (hl : allLt live nt = true) {w0 : World} {R : Ending → World → Prop}
    (h : ∀ a, TopSt P live nt w0 (ofL (slots0 live)) (heapOf []) ([] : List LB).length a w0 → c.wp P (bodyPost P fn R) a w0) : Calls P g #[] w0 R := by
  refine calls_of_wp hf hb (h _ (TopSt.begin (by rw [slots0_eq, List.length_map]) (RowKit.Below.refl _ _) ?_ rfl fun t i v hi hv => ?_))
  · simp [hnt]
  · obtain ⟨_, hit⟩ := idxOf_some t live 0 i hi
    rw [Nat.sub_zero] at hit
    rw [slots0_eq, List.getElem?_map, hit] at hv
    cases hv
    refine ⟨wf_undef 0 ren00, ?_⟩
    have hlt := allLt_mem hl t (List.mem_of_getElem? hit)
    have e : (#[] ++ Array.replicate (fn.ntmps - (#[] : Array Value).size) undef : Array Value)[t]? = some undef := by
      rw [Array.empty_append, Array.getElem?_replicate, if_pos (by simp only [hnt]; simpa using hlt)]
    rw [show (#[] ++ Array.replicate (fn.ntmps - (#[] : Array Value).size) undef : Array Value)[t]? = some undef from e]
    exact congrArg some (ren_undef ren00).symm
end
end Go.Proofs.YtccbdaffjkdpgaaGreatDoor.Vw
namespace Go.Proofs.YtccbdaffjkdpgaaGreatDoor.Vw
variable [Val]

/-- a value of plain cells -/
def flat0 (v : Value) : Bool := match v with
  | .int _ _ => true
  | .bool _ => true
  | .string _ => true
  | _ => false
def flatL (l : List Value) : Bool := match l with
  | [] => true
  | v :: l => match flat0 v with
    | true => flatL l
    | false => false
def flat1 (v : Value) : Bool := match v with
  | .agg cs => flatL cs.toList
  | v => flat0 v
/-- the summary -/
def pureSum (fv : List Value → Option Value) (args : List Value) (h : H) (n : Nat) (k : KV) : R := match fv args with
  | some v => k v h n
  | none => none

section
variable {P : Program}
omit [Val] in
theorem flatL_mem : ∀ {l : List Value}, flatL l = true → ∀ v ∈ l, flat0 v = true
  | [], _, v, hv => by simp at hv
  | a :: l, h, v, hv => by
    unfold flatL at h
    split at h
    · rename_i h1
      rcases List.mem_cons.1 hv with rfl | hv
      · exact h1
      · exact flatL_mem h v hv
    · cases h
/-- The heap, and what it stands for, are as they were, though blocks were made. -/
theorem Ev.grown {r : Ren} {h : Hf} {n : Nat} {w w' : World} (hr : Rep P r h n w) (hb : RowKit.Below w.heap.size w w') : Ev P r h n w r h n w' := by
  have hlv : ∀ {b x}, h b = some x → x.live → ∃ o, w.heap[r.blk b]? = some o ∧ w'.heap[r.blk b]? = some o := fun {b x} hx hlx => by
    obtain ⟨o, ho⟩ := (hr.blk b x hx).there hlx
    exact ⟨o, ho, by rw [hb.block _ (Array.getElem?_eq_some_iff.1 ho).1]; exact ho⟩
  refine ⟨Nat.le_refl _, fun _ _ => ⟨rfl, rfl⟩, hb.size, fun k o ho _ => ⟨o, by rw [hb.block k (Array.getElem?_eq_some_iff.1 ho).1]; exact ho, .inl rfl⟩, fun b x hx hlx => .inr ⟨b, x, hx, hlx, rfl⟩, ⟨fun b x hx => ?_, hr.inj, hr.lt⟩, ⟨hb.os, hb.tape, hb.output⟩, fun b h1 h2 => by omega, fun k hk _ => hb.block k hk⟩
  by_cases hlx : x.live
  · obtain ⟨o, h1, h2⟩ := hlv hx hlx
    exact BlkRep.move (hr.lt b x hx) (Nat.le_refl _) (fun _ _ => ⟨rfl, rfl⟩) h1 h2 (.inl rfl) (hr.blk b x hx)
  · have : x = .dead := Classical.byContradiction hlx
    subst this
    trivial
/-- The summary of such a function: for what it is called upon, as the world has it, and what it gives. -/
theorem sum_pure {g : FuncId} (hg : FnOk P g) {fv : List Value → Option Value}
    (hc : ∀ args v, fv args = some v → ∀ (r : Ren) (n : Nat) (w : World), (∀ x ∈ args, wf n r x) → wf n r v ∧ Calls P g (args.map (ren r)).toArray w fun e w' => e = .returned (ren r v) ∧ RowKit.Below w.heap.size w w') : CallAt P g (pureSum fv) := fun args h n k res hh hsz => by
  unfold pureSum at hh
  cases hv : fv args with
  | none => rw [hv] at hh; cases hh
  | some v =>
    rw [hv] at hh
    refine ⟨hg, v, h, n, hsz, hh, fun r w hwf hr R hR => ?_⟩
    obtain ⟨h1, h2⟩ := hc args v hv r n w hwf
    refine h2.mono ?_
    rintro e w' ⟨rfl, hb⟩
    exact hR r w' h1 (Ev.grown hr hb)
end
end Go.Proofs.YtccbdaffjkdpgaaGreatDoor.Vw
