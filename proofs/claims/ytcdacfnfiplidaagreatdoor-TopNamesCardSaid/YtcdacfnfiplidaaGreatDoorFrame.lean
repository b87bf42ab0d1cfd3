/-
  From the reading of a statement's arguments to the words of the walks: byte slices.
-/
import Derived.Test.YtcdacfnfiplidaaGreatDoorOctet3
import Derived.ProofKit
import Derived.OpenShut
import Derived.ShutString
import Derived.ChangeOld
namespace Go.Proofs.YtcdacfnfiplidaaGreatDoor
open Go.ChangeShapes Go.WideShapes Go.ChangeAt Go.RowKit
open Go.ChangeMaps (open_string shut_string)

theorem and_mk {a b : Bool} (ha : a = true) (hb : b = true) : (a && b) = true := by rw [ha, hb]; rfl

theorem frameOwn : ownKnob Tryz.prog.godebug = none := by kernel_rfl
theorem frameLaid : laidOutB Tryz.prog = true := by kernel_rfl

set_option maxRecDepth 100000 in
/-- A byte slice that came in, by its cells. -/
theorem open_bytes_at {H : Type} {enc : TypeId × Value → H} {W : World} {fuel : Nat} {cs : List Value} {y : DataW H × List MemPlace}
    (hf : DataW.trod enc Tryz.prog W 0 (fun _ => true) true fuel 48 cs = some y) :
    ∃ A n c l, cs = [.slice A n c] ∧ BS W W.heap.size A n c l := by
  rcases open_ints Tryz.underlying48 Tryz.underlying5 (by kernel_rfl) hf with ⟨hcs, _⟩ | ⟨x, l, c, zs, hcs, _, hl, hm, hz, _, hcell, hwz⟩
  · exact ⟨none, 0, 0, [], hcs, rfl, Nat.le_refl _, by simp [maxLen], .inl rfl⟩
  · have hzc : zs.length = c := by simpa using hz
    have hb : ∀ i, i < zs.length → 0 ≤ zs.getD i 0 ∧ zs.getD i 0 ≤ 255 := by
      intro i hi
      have h1 : zs.getD i 0 = zs[i] := by simp [List.getD, hi]
      have h2 := hwz zs[i] (List.getElem_mem hi)
      rw [h1]
      simp [Lit.wf, IntKind.min, IntKind.max, IntKind.bits, IntKind.signed] at h2
      omega
    refine ⟨some x, l, c, (zs.take l).map fun n => UInt8.ofNat n.toNat, hcs, by simp; omega, hl, hm, ?_⟩
    by_cases h0 : l = 0
    · exact .inl (by simp [h0, bv])
    · have hx := hcell 0 (by omega)
      have hspot : x.spot = none := by
        rcases hxs : x.spot with _ | s
        · rfl
        · simp [Addr.add, World.cell?, hxs] at hx
          split at hx <;> simp at hx
      obtain ⟨b, o, s⟩ := x
      simp only at hspot
      subst hspot
      refine .inr ⟨b, o, rfl, ?_, fun j u hu => ?_⟩
      · have := World.block_lt_of_cell? W _ hx
        simpa [Addr.add] using this
      · have hj : j < l := by
          have := (List.getElem?_eq_some_iff.1 hu).1
          simp [bv] at this
          omega
        have h1 := hcell j (by omega)
        rw [Addr.add_lit] at h1
        rw [h1]
        have h2 := hb j (by omega)
        simp [bv, hj, show j < zs.length by omega] at hu
        rw [← hu]
        have h3 : zs.getD j 0 = zs[j]'(by omega) := by simp [List.getD, show j < zs.length by omega]
        rw [h3] at h2 ⊢
        congr 2
        omega
set_option maxRecDepth 100000 in
/-- A byte slice that came in. -/
theorem open_bytes {H : Type} {enc : TypeId × Value → H} {W : World} {base : Nat} {v : Value} {d : DataW H} {p : List MemPlace}
    (hv : Value.okWide Tryz.prog W .any base 48 v) (h : DataW.Trod enc Tryz.prog W 0 (fun _ => true) true 48 v d p) :
    ∃ A n c l, v = .slice A n c ∧ BS W W.heap.size A n c l := by
  obtain ⟨a0, len0, cap0, rfl⟩ := okWide_slice Tryz.underlying48 hv
  obtain ⟨fuel, hf⟩ := h
  obtain ⟨A, n, c, l, hcs, hb⟩ := open_bytes_at hf
  simp [Value.cells] at hcs
  obtain ⟨rfl, rfl, rfl⟩ := hcs
  exact ⟨_, _, _, l, rfl, hb⟩
end Go.Proofs.YtcdacfnfiplidaaGreatDoor
