/-
  Laws for structs of many cells by value: stored whole into a new variable, stored into a part of one, loaded whole, handed back out of one.
-/
import Derived.Test.YtccbdaffjkdpgaaGreatDoorOctet6
import Derived.Deep.MidRow
import Derived.Deep.WholeRow
import Derived.Laws.ResultCell
import Derived.Test.YtccbdaffjkdpgaaGreatDoorRegion
namespace Go.Proofs.YtccbdaffjkdpgaaGreatDoor
section
open Go.RowKit
variable {P : Program}

/-- What a row is behind a store of some cells from cell o on. -/
def putAt (cur : Array Value) : Nat → List Value → Array Value
  | _, [] => cur
  | o, v :: r => putAt (cur.setIfInBounds o v) (o + 1) r

def spliceAt (cur : Array Value) (o : Nat) (vs : List Value) : Array Value := (cur.toList.take o ++ (vs ++ cur.toList.drop (o + vs.length))).toArray
theorem putAt_eq : ∀ (vs : List Value) (o : Nat) (cur : Array Value), o + vs.length ≤ cur.size → putAt cur o vs = spliceAt cur o vs
  | [], o, cur, _ => by simp [putAt, spliceAt]
  | v :: r, o, cur, h => by
    have h' : o < cur.toList.length := by simp at h ⊢; omega
    rw [putAt, putAt_eq r (o + 1) _ (by simp at h ⊢; omega)]
    unfold spliceAt
    rw [Array.toList_setIfInBounds, List.take_add_one, List.take_set_of_le (Nat.le_refl o), List.getElem?_set_self h', List.drop_set_of_lt (by omega)]
    simp only [Option.toList_some, List.append_assoc, List.length_cons, List.cons_append]
    rw [show o + 1 + r.length = o + (r.length + 1) by omega, List.nil_append]

theorem heap_setCells {g : Nat} {t : TypeId} {fr : Nat × Nat} : ∀ (vs : List Value) (o : Nat) (cur : Array Value) (w : World), w.heap[g]? = some (.cells cur t fr) → (w.setCells g o vs).heap[g]? = some (.cells (putAt cur o vs) t fr)
  | [], _, _, _, h => h
  | v :: r, o, _, _, h => heap_setCells r (o + 1) _ _ (heap_set_cells h v)
theorem grown_setCells {a : World} {g : Nat} : ∀ (vs : List Value) (o : Nat) (w : World), a.grownBy w (some g) → a.grownBy (w.setCells g o vs) (some g)
  | [], _, _, h => h
  | v :: r, o, _, h => grown_setCells r (o + 1) _ (grown_setCell h o v)

theorem wp_store_part {op : Oper} {a : Act} {w : World} {K : Act → World → Prop} {Q : Exit → Act → World → Prop} (ty : TypeId) (x y : Operand) (ho : op.op = .store ty x y)
    (b o : Nat) (cells : Array Value) (hx : a.eval x = .pointer (some ⟨b, o, none⟩)) (hy : a.eval y = .agg cells)
    (t : TypeId) (cur : Array Value) (hg : w.heap[b]? = some (.cells cur t (0, 0))) (hle : o + cells.size ≤ cur.size) (hi : (P.info? ty).map (·.size) = some cells.size) (h1 : cells.all (·.oneCell') = true)
    (h : ∀ w', w.grownBy w' (some b) → w'.heap[b]? = some (.cells (spliceAt cur o cells.toList) t (0, 0)) → K (a.put op.dst undef) w') : op.wp P a w K Q := by
  refine wp_store_mid ty x y ho b o cells hx hy (fun j hj => ⟨?_, frozen_of_row w b (o + j) cur t hg⟩) hi h1 (h _ (grown_setCells _ _ _ (World.grownBy.refl w _)) ((heap_setCells _ _ _ _ hg).trans (by rw [putAt_eq _ _ _ (by simpa using hle)])))
  rw [cell_of_row w b (o + j) cur t _ hg, Array.getElem?_eq_getElem (by omega)]
  rfl
theorem wpList_store_part {ops : Array Oper} {rest : List Oper} {op : Oper} {a : Act} {w : World} {Q : Exit → Act → World → Prop} (hgd : op.guard = none) (ty : TypeId) (x y : Operand) (ho : op.op = .store ty x y)
    (b o : Nat) (cells : Array Value) (hx : a.eval x = .pointer (some ⟨b, o, none⟩)) (hy : a.eval y = .agg cells)
    (t : TypeId) (cur : Array Value) (hg : w.heap[b]? = some (.cells cur t (0, 0))) (hle : o + cells.size ≤ cur.size) (hi : (P.info? ty).map (·.size) = some cells.size) (h1 : cells.all (·.oneCell') = true)
    (h : ∀ w', w.grownBy w' (some b) → w'.heap[b]? = some (.cells (spliceAt cur o cells.toList) t (0, 0)) → wpList P ops Q rest (a.put op.dst undef) w') : wpList P ops Q (op :: rest) a w :=
  wpList_plain hgd fun _ hK => wp_store_part ty x y ho b o cells hx hy t cur hg hle hi h1 fun w' h1 h2 => hK _ _ (h w' h1 h2)

theorem wp_store_new {op : Oper} {a : Act} {w : World} {K : Act → World → Prop} {Q : Exit → Act → World → Prop} (ty : TypeId) (x y : Operand) (ho : op.op = .store ty x y)
    (g : Nat) (cells : Array Value) (hx : a.eval x = .pointer (some ⟨g, 0, none⟩)) (hy : a.eval y = .agg cells)
    (t : TypeId) (old : Array Value) (hg : w.heap.size = g) (hi : (P.info? ty).map (·.size) = some cells.size) (hold : old.size = cells.size) (h1 : cells.all (·.oneCell') = true)
    (h : K (a.put op.dst undef) (w.alloc (.cells cells t))) : op.wp P a (w.alloc (.cells old t)) K Q := by
  subst hg
  refine wp_store_row ty x y ho w.heap.size cells hx hy t old (heap_alloc_new w _) hi hold h1 ?_
  rw [World.setRow_alloc_new]
  exact h
theorem wpList_store_new {ops : Array Oper} {rest : List Oper} {op : Oper} {a : Act} {w : World} {Q : Exit → Act → World → Prop} (hgd : op.guard = none) (ty : TypeId) (x y : Operand) (ho : op.op = .store ty x y)
    (g : Nat) (cells : Array Value) (hx : a.eval x = .pointer (some ⟨g, 0, none⟩)) (hy : a.eval y = .agg cells)
    (t : TypeId) (old : Array Value) (hg : w.heap.size = g) (hi : (P.info? ty).map (·.size) = some cells.size) (hold : old.size = cells.size) (h1 : cells.all (·.oneCell') = true)
    (h : wpList P ops Q rest (a.put op.dst undef) (w.alloc (.cells cells t))) : wpList P ops Q (op :: rest) a (w.alloc (.cells old t)) :=
  wpList_plain hgd fun _ hK => wp_store_new ty x y ho g cells hx hy t old hg hi hold h1 (hK _ _ h)

theorem bodyPost_cell_tmp {fn : Func} {R : Ending → World → Prop} {a : Act} {w : World} {p u : Tmp} {ty : TypeId} (g : Nat) (t : TypeId) (cs : Array Value) (d : TypeDesc) (h : fn.results = #[.cell p ty, .tmp u])
    (hp : a.tmps.getD p undef = .pointer (some ⟨g, 0, none⟩)) (hg : w.heap[g]? = some (.cells cs t (0, 0)))
    (hu : P.underlying ty = some d) (hd : (match d with | .struct _ | .array _ _ => true | _ => false) = true) (hi : (P.info? ty).map (·.size) = some cs.size)
    (hf : a.defers = []) (hR : R (.returned (.tuple #[.agg cs, a.tmps.getD u undef])) w) : bodyPost P fn R .ret a w := by
  refine bodyPost_ret ?_ hf hR
  rw [results_cell_tmp h, hp]
  simp [asAddr, run_loadVar_row w g t ty cs (0, 0) d hg hu hd hi]
theorem bodyPost_cell {fn : Func} {R : Ending → World → Prop} {a : Act} {w : World} {p : Tmp} {ty : TypeId} (g : Nat) (t : TypeId) (cs : Array Value) (d : TypeDesc) (h : fn.results = #[.cell p ty])
    (hp : a.tmps.getD p undef = .pointer (some ⟨g, 0, none⟩)) (hg : w.heap[g]? = some (.cells cs t (0, 0)))
    (hu : P.underlying ty = some d) (hd : (match d with | .struct _ | .array _ _ => true | _ => false) = true) (hi : (P.info? ty).map (·.size) = some cs.size)
    (hf : a.defers = []) (hR : R (.returned (.agg cs)) w) : bodyPost P fn R .ret a w :=
  bodyPost_ret (results_cell_row h a.tmps w g t cs (0, 0) d hp hg hu hd hi) hf hR

theorem at_store_part {ops : Array Oper} {rest : List Oper} {a : Act} {w : World} {Q : Exit → Act → World → Prop} (ty : TypeId) {d : Option Tmp} {T : TypeId} {pos : String} {aft : Array Edge} {x y : Operand}
    (b o : Nat) (cells : Array Value) (hx : a.eval x = .pointer (some ⟨b, o, none⟩)) (hy : a.eval y = .agg cells)
    (t : TypeId) (cur : Array Value) (hg : w.heap[b]? = some (.cells cur t (0, 0))) (hle : o + cells.size ≤ cur.size) (hi : (P.info? ty).map (·.size) = some cells.size) (h1 : cells.all (·.oneCell') = true)
    (h : ∀ w', w.grownBy w' (some b) → w'.heap[b]? = some (.cells (spliceAt cur o cells.toList) t (0, 0)) → wpList P ops Q rest (a.put d undef) w') : wpList P ops Q (⟨d, .store ty x y, T, pos, aft, none⟩ :: rest) a w :=
  wpList_store_part rfl ty x y rfl b o cells hx hy t cur hg hle hi h1 h
theorem at_store_new {ops : Array Oper} {rest : List Oper} {a : Act} {w : World} {Q : Exit → Act → World → Prop} (ty : TypeId) {d : Option Tmp} {T : TypeId} {pos : String} {aft : Array Edge} {x y : Operand}
    (g : Nat) (cells : Array Value) (hx : a.eval x = .pointer (some ⟨g, 0, none⟩)) (hy : a.eval y = .agg cells)
    (t : TypeId) (old : Array Value) (hg : w.heap.size = g) (hi : (P.info? ty).map (·.size) = some cells.size) (hold : old.size = cells.size) (h1 : cells.all (·.oneCell') = true)
    (h : wpList P ops Q rest (a.put d undef) (w.alloc (.cells cells t))) : wpList P ops Q (⟨d, .store ty x y, T, pos, aft, none⟩ :: rest) a (w.alloc (.cells old t)) :=
  wpList_store_new rfl ty x y rfl g cells hx hy t old hg hi hold h1 h
theorem at_load_row {ops : Array Oper} {rest : List Oper} {a : Act} {w : World} {Q : Exit → Act → World → Prop} (ty : TypeId) {d : Option Tmp} {T : TypeId} {pos : String} {aft : Array Edge} {x : Operand}
    (g : Nat) (hx : a.eval x = .pointer (some ⟨g, 0, none⟩)) (t : TypeId) (cs : Array Value) (fr : Nat × Nat) (e : TypeDesc) (hg : w.heap[g]? = some (.cells cs t fr))
    (hu : P.underlying ty = some e) (hd : (match e with | .struct _ | .array _ _ => true | _ => false) = true) (hi : (P.info? ty).map (·.size) = some cs.size)
    (h : wpList P ops Q rest (a.put d (.agg cs)) w) : wpList P ops Q (⟨d, .load ty x, T, pos, aft, none⟩ :: rest) a w :=
  wpList_load_row rfl ty x rfl g hx t cs fr e hg hu hd hi h

theorem at_load_guard {ops : Array Oper} {rest : List Oper} {a : Act} {w : World} {Q : Exit → Act → World → Prop} (ty : TypeId) {d : Option Tmp} {T : TypeId} {pos : String} {aft : Array Edge} {x : Operand} {gd : Nat × Bool}
    (hw : Region.wanted ⟨d, .load ty x, T, pos, aft, some gd⟩ (yielded ops a.tmps) = true)
    (g : Nat) (hx : a.eval x = .pointer (some ⟨g, 0, none⟩)) (t : TypeId) (cs : Array Value) (fr : Nat × Nat) (e : TypeDesc) (hg : w.heap[g]? = some (.cells cs t fr))
    (hu : P.underlying ty = some e) (hd : (match e with | .struct _ | .array _ _ => true | _ => false) = true) (hi : (P.info? ty).map (·.size) = some cs.size)
    (h : wpList P ops Q rest (a.put d (.agg cs)) w) : wpList P ops Q (⟨d, .load ty x, T, pos, aft, some gd⟩ :: rest) a w :=
  wpList_step fun _ hK => by rw [if_pos hw]; exact wp_load_row ty x rfl g hx t cs fr e hg hu hd hi (hK _ _ h)

theorem grown_at {w w' : World} {g k : Nat} {o : Obj} (h : w.grownBy w' (some g)) (hk : w.heap[k]? = some o) (hne : k ≠ g) : w'.heap[k]? = some o :=
  (h.block k (heap_lt hk) (by intro e; injection e with e; omega)).trans hk
theorem below_at {w w' : World} {H k : Nat} {o : Obj} (h : Below H w w') (hk : w.heap[k]? = some o) (hlt : k < H) : w'.heap[k]? = some o :=
  (h.block k hlt).trans hk
end
section
open Go.RowKit

section
variable {P : Program}
theorem results_cell_tmp2 {fn : Func} {p u v : Tmp} {ty : TypeId} (h : fn.results = #[.cell p ty, .tmp u, .tmp v]) (tmps : Array Value) (w : World) :
    (results fn tmps).run P w =
      ((asAddr (tmps.getD p undef)).run P w).andThen fun a w₁ => ((loadVar ty a).run P w₁).andThen fun x w₂ => .ok (.tuple #[x, tmps.getD u undef, tmps.getD v undef]) w₂ := by
  simp only [results, h]
  simp [Sem.run_bind, Result.andThen]
theorem bodyPost_cell_tmp2 {fn : Func} {R : Ending → World → Prop} {a : Act} {w : World} {p u v : Tmp} {ty : TypeId} (g : Nat) (t : TypeId) (cs : Array Value) (d : TypeDesc) (h : fn.results = #[.cell p ty, .tmp u, .tmp v])
    (hp : a.tmps.getD p undef = .pointer (some ⟨g, 0, none⟩)) (hg : w.heap[g]? = some (.cells cs t (0, 0)))
    (hu : P.underlying ty = some d) (hd : (match d with | .struct _ | .array _ _ => true | _ => false) = true) (hi : (P.info? ty).map (·.size) = some cs.size)
    (hf : a.defers = []) (hR : R (.returned (.tuple #[.agg cs, a.tmps.getD u undef, a.tmps.getD v undef])) w) : bodyPost P fn R .ret a w := by
  refine bodyPost_ret ?_ hf hR
  rw [results_cell_tmp2 h, hp]
  simp [asAddr, run_loadVar_row w g t ty cs (0, 0) d hg hu hd hi]
theorem at_load_mid {ops : Array Oper} {rest : List Oper} {a : Act} {w : World} {Q : Exit → Act → World → Prop} (ty : TypeId) {d : Option Tmp} {T : TypeId} {pos : String} {aft : Array Edge} {x : Operand}
    (b o : Nat) (hx : a.eval x = .pointer (some ⟨b, o, none⟩)) (cs : Array Value) (e : TypeDesc) (hc : w.rangeAt b o cs.toList)
    (hu : P.underlying ty = some e) (hd : e.isRow = true) (hi : (P.info? ty).map (·.size) = some cs.toList.length)
    (h : wpList P ops Q rest (a.put d (.agg cs)) w) : wpList P ops Q (⟨d, .load ty x, T, pos, aft, none⟩ :: rest) a w :=
  wpList_load_mid rfl ty x rfl b o hx cs.toList e hc hu hd hi (by simpa using h)
end
end
section
open Go.RowKit
variable {P : Program}

theorem run_load_big {ev : Operand → Value} {oi : Oper} {x : World} {ty : TypeId} {o : Operand} {g : Nat} {t : TypeId} {cs : Array Value} {fr : Nat × Nat} {e : TypeDesc} (ho : oi.op = .load ty o)
    (hv : ev o = .pointer (some ⟨g, 0, none⟩)) (hg : x.heap[g]? = some (.cells cs t fr))
    (hu : P.underlying ty = some e) (hd : (match e with | .struct _ | .array _ _ => true | _ => false) = true) (hi : (P.info? ty).map (·.size) = some cs.size) :
    (execOp ev oi).run P x = .ok (.value (.agg cs)) x := by
  unfold execOp
  simp only [ho, hv, Instr.loadAt, Instr.sureAddr, Sem.run_bind, Sem.run_pure, Result.andThen_ok, run_loadVar_row x g t ty cs fr e hg hu hd hi]
/-- What a block holds that a region does not touch. -/
theorem Ext.at_ {M : Nat → Prop} {w : World} {g : Nat} {o : Obj} (h : w.heap[g]? = some o) (hM : ¬ M g) : ∀ x, Ext M w x → x.heap[g]? = some o :=
  fun _ hx => (hx.block g (heap_lt h) hM).trans h
end
end Go.Proofs.YtccbdaffjkdpgaaGreatDoor
