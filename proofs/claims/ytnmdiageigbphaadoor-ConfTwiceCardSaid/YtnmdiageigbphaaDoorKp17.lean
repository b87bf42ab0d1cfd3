/-
  conf: ends: the pool of a net that is told.
-/
import Derived.Test.YtnmdiageigbphaaDoorKp16
namespace Go.Proofs.YtnmdiageigbphaaDoor
open Go.RowKit

def w32 (x : Int) : Int := x % 4294967296
theorem wrapU (x : Int) : IntKind.u32.wrap x = w32 x := by simp [IntKind.wrap, IntKind.bits, IntKind.signed, w32]
theorem w32_in (x : Int) : 0 ≤ w32 x ∧ w32 x < 4294967296 := by unfold w32; omega
def endF (c : Cf) : Int := if 24 < c.lanB then w32 ((numA (firstA c.lanA c.lanB) : Int) + 2) else w32 ((numA (firstA c.lanA c.lanB) : Int) + 100)
def endL (c : Cf) : Int := if 24 < c.lanB then (if 31 < w32 (w32 ((numA (lastA c.lanA c.lanB) : Int) - 1) - w32 ((numA (firstA c.lanA c.lanB) : Int) + 2)) then w32 (w32 ((numA (firstA c.lanA c.lanB) : Int) + 2) + 31) else w32 ((numA (lastA c.lanA c.lanB) : Int) - 1))
  else w32 ((numA (firstA c.lanA c.lanB) : Int) + 131)
def endsV (c : Cf) (S : List (List UInt8)) : Cf :=
  if nLan ∈ S then { c with fst := if nFirst ∈ S then c.fst else of4 (endF c), lst := if nLast ∈ S then c.lst else of4 (endL c) } else c
def EndsOk (c : Cf) (S : List (List UInt8)) (c' : Cf) : Prop :=
  ∀ (w : World) (g sb N : Nat) (vf vo : Value), RB w g c vf vo (.map (some sb)) → MB w sb N S → sb ≠ g → Calls Tryd.prog 23 #[.pointer (some ⟨g, 0, none⟩)] w (SetP w g c' vf vo (.map (some sb)))
section
variable {w : World} {b N : Nat} {S : List (List UInt8)} (h : MB w b N S)
include h
theorem MB.lan : (Instr.lookup 60 (.map (some b)) (.string ⟨#[108, 97, 110]⟩) false).run Tryd.prog w = .ok (.bool (decide (nLan ∈ S))) w := h.look nLan (by decide)
theorem MB.first : (Instr.lookup 60 (.map (some b)) (.string ⟨#[102, 105, 114, 115, 116]⟩) false).run Tryd.prog w = .ok (.bool (decide (nFirst ∈ S))) w := h.look nFirst (by decide)
theorem MB.last : (Instr.lookup 60 (.map (some b)) (.string ⟨#[108, 97, 115, 116]⟩) false).run Tryd.prog w = .ok (.bool (decide (nLast ∈ S))) w := h.look nLast (by decide)
end
set_option maxRecDepth 100000 in
set_option maxHeartbeats 4000000 in
theorem ends_no (c : Cf) (S : List (List UInt8)) (h : nLan ∉ S) : EndsOk c S c := by
  intro w g sb N vf vo P M hne
  have hlk := M.lan
  rw [show decide (nLan ∈ S) = false from decide_eq_false h] at hlk
  have hsc := (cells_of P).1 40
  go_enter Tryd.func23, Tryd.ntmps23
  go_wp2_with fail
  refine bodyPost_ret (v := .tuple #[]) (by simp [results, Tryd.results23]) rfl ?_
  exact ⟨rfl, P, World.grownBy.refl _ _⟩

end Go.Proofs.YtnmdiageigbphaaDoor