/-
  What byte slices read as, said so that a region's walk may use it in every later world; append and copy at one operation.
-/
import Derived.Test.YtnmdiageigbphaaDoorOctet5
import Derived.Test.YtnmdiageigbphaaDoorRegion
import Derived.Laws.CopyOwn
namespace Go.Proofs.YtnmdiageigbphaaDoor
open Go.RowKit

theorem grown_of_below {w w' : World} (row : Option Nat) (hb : Below w.heap.size w w') : w.grownBy w' row :=
  ⟨hb.os, hb.tape, hb.output, hb.size, fun k hk _ => hb.block k hk⟩
theorem BS.ext {w w' : World} {B n c : Nat} {A : Option Addr} {l : List UInt8} {M : Nat → Prop} (h : BS w B A n c l) (hx : Ext M w w') (hB : B ≤ w.heap.size) (hM : ∀ k, k < B → ¬ M k) : BS w' B A n c l :=
  h.below (hx.below hB hM)
theorem OB.ext {w w' : World} {H n c : Nat} {A : Option Addr} {l : List UInt8} {M : Nat → Prop} (h : OB w H A n c l) (hx : Ext M w w') (hM : ∀ k, H ≤ k → k < w.heap.size → ¬ M k) : OB w' H A n c l :=
  ⟨h.1, h.2.1, by
    rcases h.2.2 with h0 | ⟨g, cap, cur, hv, hb, hg, rest⟩
    · exact .inl h0
    · exact .inr ⟨g, cap, cur, hv, hb, (hx.block g (heap_lt hg) (hM g hb (heap_lt hg))).trans hg, rest⟩⟩
theorem BS.reads {w : World} {B n c : Nat} {A : Option Addr} {l : List UInt8} {M : Nat → Prop} (h : BS w B A n c l) (hB : B ≤ w.heap.size) (hM : ∀ k, k < B → ¬ M k) :
    ∀ x, Ext M w x → (convert 70 9 (.slice A n c)).run Tryd.prog x = .ok (.string (str l)) x :=
  fun _ hx => run_str (h.ext hx hB hM)
theorem OB.reads {w : World} {H n c : Nat} {A : Option Addr} {l : List UInt8} {M : Nat → Prop} (h : OB w H A n c l) (hM : ∀ k, H ≤ k → k < w.heap.size → ¬ M k) :
    ∀ x, Ext M w x → (convert 70 9 (.slice A n c)).run Tryd.prog x = .ok (.string (str l)) x :=
  fun _ hx => run_str (h.ext hx hM).bs

theorem BS.part {w : World} {g o : Nat} {cs : Array Value} {t : TypeId} {fr : Nat × Nat} (l : List UInt8) (c : Nat) (h : w.heap[g]? = some (.cells cs t fr)) (hc : (cs.toList.drop o).take l.length = bv l) (hl : l.length ≤ c) (hm : c ≤ maxLen) :
    BS w (g + 1) (some ⟨g, o, none⟩) l.length c l := by
  refine ⟨rfl, hl, hm, .inr ⟨g, o, rfl, by omega, fun j u hu => ?_⟩⟩
  rw [cell_of_row w g (o + j) _ t fr h]
  rw [← hc, List.getElem?_take] at hu
  split at hu
  · rw [List.getElem?_drop] at hu
    simpa using hu
  · cases hu
theorem Ext.cells {w : World} {M : Nat → Prop} {g : Nat} {cs : Array Value} {t : TypeId} (h : w.heap[g]? = some (.cells cs t (0, 0))) (hM : ¬ M g) :
    ∀ x, Ext M w x → ∀ j, x.cell? ⟨g, j, none⟩ = cs[j]? := by
  intro x hx j
  have h1 := (hx.block g (heap_lt h) hM).trans h
  simp [World.cell?, h1]
theorem infoU8s : (Tryd.prog.info? 5).map (·.size) = some 1 := by kernel_rfl

/-- append(own row of bytes, bytes...), at one operation. -/
theorem wp_app8 {w : World} {o : Oper} {a : Act} {K : Act → World → Prop} {Q : Exit → Act → World → Prop} (s x : Operand) (_T1 _T2 : TypeId)
    (ho : o.op = .call { callee := .builtin .append, args := #[s, x], argTypes := #[70, 70] })
    (H : Nat) (A : Option Addr) (n c : Nat) (l : List UInt8) (hs : a.eval s = .slice A n c) (hown : OB w H A n c l)
    (B : Nat) (A2 : Option Addr) (n2 c2 : Nat) (l2 : List UInt8) (hx : a.eval x = .slice A2 n2 c2) (hr : BS w B A2 n2 c2 l2)
    (hlen : l.length + l2.length ≤ 140737488355328) (hbase : H ≤ w.heap.size)
    (h : ∀ A' n' c' w', OB w' H A' n' c' (l ++ l2) → Below H w w' → w.grownBy w' (Value.slice A n c).ownBlock → K (a.put o.dst (.slice A' n' c')) w') : o.wp Tryd.prog a w K Q := by
  obtain ⟨i0, hi, hz0, hz1, hz2⟩ := info_parts infoU8
  obtain ⟨rfl, hown⟩ := hown
  obtain ⟨rfl, hnc, hcm, hr⟩ := hr
  refine wp_app w s x 70 ho 5 i0 (.int .u8 0) 1 Tryd.underlying70 hi hz0 hz1 hz2 rfl H _ _ _ hs hown B A2 _ c2 (bv l2) hx hr (bv_length l2) (bv_one l2) (by unfold maxLen; omega) (by omega) hbase ?_
  intro A' c' w' ho' hg _
  exact h A' (l.length + l2.length) c' w' ⟨by simp, by rw [bv_append]; exact ho'⟩ ((Below.refl H w).grown hg hbase fun k hk => (hown.lt k hk).1) hg

/-- What a block holds behind a copy of l into it from cell off on. -/
def splice8 (cur : Array Value) (off : Nat) (l : List UInt8) : Array Value := (cur.toList.take off ++ (bv l ++ cur.toList.drop (off + l.length))).toArray

/-- copy(a row of cells, bytes), at one operation. -/
theorem run_copy8 {w : World} {ty : TypeId} {g off dLen dCap : Nat} {cur : Array Value} {t : TypeId} (hg : w.heap[g]? = some (.cells cur t (0, 0)))
    {B n c : Nat} {A : Option Addr} {l : List UInt8} (h : BS w B A n c l) (hn : n ≤ dLen) (hfit : off + n ≤ cur.size) :
    ∃ w', (Builtin.copy_ #[70, 70] ty #[.slice (some ⟨g, off, none⟩) dLen dCap, .slice A n c]).run Tryd.prog w = .ok (goInt n) w' ∧
      w'.heap[g]? = some (.cells (splice8 cur off l) t (0, 0)) ∧ w.grownBy w' (some g) := by
  obtain ⟨rfl, hnc, hcm, hr⟩ := h
  rcases A with _ | ad
  · have h0 : bv l = [] := by
      rcases hr with hr | ⟨_, _, hA, _⟩
      · exact hr
      · cases hA
    obtain rfl : l = [] := by
      have := congrArg List.length h0
      rw [bv_length] at this
      exact List.eq_nil_of_length_eq_zero this
    refine ⟨w, ?_, ?_, World.grownBy.refl w _⟩
    · cases hq : Tryd.prog.info? 5 with
      | none => have := infoU8s; rw [hq] at this; cases this
      | some i => simp [Builtin.copy_, run_underlying Tryd.underlying70, Builtin.lenOf, Builtin.firstCells, sizeOf, typeInfo, hq, storeCells]
    · rw [hg]; simp [splice8, bv]
  · have hm : Nat.min l.length dLen = l.length := Nat.min_eq_left hn
    have hrun := run_copy_row (P := Tryd.prog) w 70 70 ty 5 g off dLen dCap ad l.length c cur t (bv l) Tryd.underlying70 infoU8s hg
      (by rw [bv_length, hm]) (hr.cells ad rfl) (by rw [bv_length]; exact hfit) (bv_one l)
    rw [bv_length] at hrun
    refine ⟨_, hrun, ?_, ⟨rfl, rfl, rfl, by simp [World.setRow], fun k hk hne => setRow_other w g k _ (fun e => hne (by rw [e]))⟩⟩
    rw [setRow_heap w g cur _ t (0, 0) hg]
    simp [splice8, List.append_assoc]

theorem wp_copy8 {w : World} {o : Oper} {a : Act} {K : Act → World → Prop} {Q : Exit → Act → World → Prop} (d s : Operand)
    (ho : o.op = .call { callee := .builtin .copy, args := #[d, s], argTypes := #[70, 70] })
    (g off dLen dCap : Nat) (cur : Array Value) (t : TypeId) (hd : a.eval d = .slice (some ⟨g, off, none⟩) dLen dCap) (hg : w.heap[g]? = some (.cells cur t (0, 0)))
    (B n c : Nat) (A : Option Addr) (l : List UInt8) (hs : a.eval s = .slice A n c) (hb : BS w B A n c l) (hn : n ≤ dLen) (hfit : off + n ≤ cur.size)
    (h : ∀ w', w'.heap[g]? = some (.cells (splice8 cur off l) t (0, 0)) → w.grownBy w' (some g) → K (a.put o.dst (goInt n)) w') : o.wp Tryd.prog a w K Q := by
  obtain ⟨w', hrun, h1, h2⟩ := run_copy8 (ty := o.type) (dCap := dCap) hg hb hn hfit
  unfold Oper.wp execOp
  simp only [ho, resolve, invoke, builtin, Sem.run_bind, Sem.run_pure, Result.andThen_ok, List.map_toArray, List.map_cons, List.map_nil, hd, hs, hrun]
  exact h w' h1 h2
theorem wpList_copy8 {w : World} {ops : Array Oper} {rest : List Oper} {o : Oper} {a : Act} {Q : Exit → Act → World → Prop} (hgd : o.guard = none) (d s : Operand)
    (ho : o.op = .call { callee := .builtin .copy, args := #[d, s], argTypes := #[70, 70] })
    (g off dLen dCap : Nat) (cur : Array Value) (t : TypeId) (hd : a.eval d = .slice (some ⟨g, off, none⟩) dLen dCap) (hg : w.heap[g]? = some (.cells cur t (0, 0)))
    (B n c : Nat) (A : Option Addr) (l : List UInt8) (hs : a.eval s = .slice A n c) (hb : BS w B A n c l) (hn : n ≤ dLen) (hfit : off + n ≤ cur.size)
    (h : ∀ w', w'.heap[g]? = some (.cells (splice8 cur off l) t (0, 0)) → w.grownBy w' (some g) → wpList Tryd.prog ops Q rest (a.put o.dst (goInt n)) w') : wpList Tryd.prog ops Q (o :: rest) a w :=
  wpList_plain hgd fun _ hK => wp_copy8 d s ho g off dLen dCap cur t hd hg B n c A l hs hb hn hfit fun w' h1 h2 => hK _ _ (h w' h1 h2)
end Go.Proofs.YtnmdiageigbphaaDoor
