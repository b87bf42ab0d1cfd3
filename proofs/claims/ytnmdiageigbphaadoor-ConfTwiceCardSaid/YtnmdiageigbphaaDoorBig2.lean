/-
  A struct's load that is taken first in a region that draws its order.
-/
import Derived.Test.YtnmdiageigbphaaDoorBig
import Derived.Test.YtnmdiageigbphaaDoorRegion
namespace Go.Proofs.YtnmdiageigbphaaDoor
open Go.RowKit
variable {P : Program}

theorem run_load_big {ev : Operand → Value} {oi : Oper} {x : World} {ty : TypeId} {o : Operand} {g : Nat} {t : TypeId} {cs : Array Value} {fr : Nat × Nat} {e : TypeDesc} (ho : oi.op = .load ty o)
    (hv : ev o = .pointer (some ⟨g, 0, none⟩)) (hg : x.heap[g]? = some (.cells cs t fr))
    (hu : P.underlying ty = some e) (hd : (match e with | .struct _ | .array _ _ => true | _ => false) = true) (hi : (P.info? ty).map (·.size) = some cs.size) :
    (execOp ev oi).run P x = .ok (.value (.agg cs)) x := by
  unfold execOp
  simp only [ho, hv, Instr.loadAt, Instr.sureAddr, Sem.run_bind, Sem.run_pure, Result.andThen_ok, run_loadVar_row x g t ty cs fr e hg hu hd hi]
/-- What a block holds that a region does not touch. -/
theorem Ext.at_ {M : Nat → Prop} {w : World} {g : Nat} {o : Obj} (h : w.heap[g]? = some o) (hM : ¬ M g) : ∀ x, Ext M w x → x.heap[g]? = some o :=
  fun _ hx => (hx.block g (heap_lt h) hM).trans h
end Go.Proofs.YtnmdiageigbphaaDoor
