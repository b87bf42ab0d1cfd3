/-
  From the reading of a statement's arguments to the words of the walks: byte slices.
-/
import Derived.Test.YtccbdaffjkdpgaaGreatDoorOctet3
import Derived.ProofKit
import Derived.OpenShut
import Derived.ShutString
import Derived.ChangeOld
namespace Go.Proofs.YtccbdaffjkdpgaaGreatDoor
open Go.ChangeShapes Go.WideShapes Go.ChangeAt Go.RowKit
open Go.ChangeMaps (open_string shut_string)

theorem and_mk {a b : Bool} (ha : a = true) (hb : b = true) : (a && b) = true := by rw [ha, hb]; rfl

theorem frameOwn : ownKnob Tryz.prog.godebug = none := by kernel_rfl
theorem laidC (k : Nat) (h : (List.range' k 100).all (rowFine Tryz.prog) = true) (t : Nat) (h1 : k ≤ t) (h2 : t < k + 100) : rowFine Tryz.prog t = true := List.all_eq_true.1 h t (List.mem_range'_1.2 ⟨h1, h2⟩)
theorem laid0 : (List.range' 0 100).all (rowFine Tryz.prog) = true := by kernel_rfl
theorem laid1 : (List.range' 100 100).all (rowFine Tryz.prog) = true := by kernel_rfl
theorem laid2 : (List.range' 200 100).all (rowFine Tryz.prog) = true := by kernel_rfl
theorem laid3 : (List.range' 300 100).all (rowFine Tryz.prog) = true := by kernel_rfl
theorem laid4 : (List.range' 400 100).all (rowFine Tryz.prog) = true := by kernel_rfl
theorem laid5 : (List.range' 500 100).all (rowFine Tryz.prog) = true := by kernel_rfl
theorem laid6 : (List.range' 600 100).all (rowFine Tryz.prog) = true := by kernel_rfl
theorem laid7r : (List.range' 700 100).all (rowFine Tryz.prog) = true := by kernel_rfl
theorem laidS : Nat.ble Tryz.prog.types.size 800 = true := by kernel_rfl
theorem laidG : Tryz.prog.globals.all (fun g => decide (g.type < Tryz.prog.types.size)) = true := by kernel_rfl
theorem laidF : Tryz.prog.funcs.all (fun f => f.params.all fun t => decide (t < Tryz.prog.types.size)) = true := by kernel_rfl
theorem frameLaid : laidOutB Tryz.prog = true := by
  unfold laidOutB
  rw [laidG, laidF, Bool.and_true, Bool.and_true]
  refine List.all_eq_true.2 fun t ht => ?_
  have h1 : t < Tryz.prog.types.size := List.mem_range.1 ht
  have h2 := Nat.le_of_ble_eq_true laidS
  have h3 : (t : Nat) < 800 := Nat.lt_of_lt_of_le h1 h2
  rcases Nat.lt_or_ge t 100 with h | h0
  · exact laidC 0 laid0 t (Nat.zero_le _) h
  rcases Nat.lt_or_ge t 200 with h | h0
  · exact laidC 100 laid1 t h0 h
  rcases Nat.lt_or_ge t 300 with h | h0
  · exact laidC 200 laid2 t h0 h
  rcases Nat.lt_or_ge t 400 with h | h0
  · exact laidC 300 laid3 t h0 h
  rcases Nat.lt_or_ge t 500 with h | h0
  · exact laidC 400 laid4 t h0 h
  rcases Nat.lt_or_ge t 600 with h | h0
  · exact laidC 500 laid5 t h0 h
  rcases Nat.lt_or_ge t 700 with h | h0
  · exact laidC 600 laid6 t h0 h
  · exact laidC 700 laid7r t h0 h3

set_option maxRecDepth 100000 in
/-- A byte slice that came in, by its cells. -/
theorem open_bytes_at {H : Type} {enc : TypeId × Value → H} {W : World} {fuel : Nat} {cs : List Value} {y : DataW H × List MemPlace}
    (hf : DataW.trod enc Tryz.prog W 0 (fun _ => true) true fuel 27 cs = some y) :
    ∃ A n c l, cs = [.slice A n c] ∧ BS W W.heap.size A n c l := by
  rcases open_ints Tryz.underlying27 Tryz.underlying5 (by kernel_rfl) hf with ⟨hcs, _⟩ | ⟨x, l, c, zs, hcs, _, hl, hm, hz, _, hcell, hwz⟩
  · exact ⟨none, 0, 0, [], hcs, rfl, Nat.le_refl _, by simp [maxLen], .inl rfl⟩
  · have hzc : zs.length = c := by simpa using hz
    have hb : ∀ i, i < zs.length → 0 ≤ zs.getD i 0 ∧ zs.getD i 0 ≤ 255 := by
      intro i hi
      have h1 : zs.getD i 0 = zs[i] := by simp [List.getD, hi]
      have h2 := hwz zs[i] (List.getElem_mem hi)
      rw [h1]
      simp [Lit.wf, IntKind.min, IntKind.max, IntKind.bits, IntKind.signed] at h2
      omega
    refine ⟨some x, l, c, (zs.take l).map fun n => UInt8.ofNat n.toNat, hcs, by simp; omega, hl, hm, ?_⟩
    by_cases h0 : l = 0
    · exact .inl (by simp [h0, bv])
    · have hx := hcell 0 (by omega)
      have hspot : x.spot = none := by
        rcases hxs : x.spot with _ | s
        · rfl
        · simp [Addr.add, World.cell?, hxs] at hx
          split at hx <;> simp at hx
      obtain ⟨b, o, s⟩ := x
      simp only at hspot
      subst hspot
      refine .inr ⟨b, o, rfl, ?_, fun j u hu => ?_⟩
      · have := World.block_lt_of_cell? W _ hx
        simpa [Addr.add] using this
      · have hj : j < l := by
          have := (List.getElem?_eq_some_iff.1 hu).1
          simp [bv] at this
          omega
        have h1 := hcell j (by omega)
        rw [Addr.add_lit] at h1
        rw [h1]
        have h2 := hb j (by omega)
        simp [bv, hj, show j < zs.length by omega] at hu
        rw [← hu]
        have h3 : zs.getD j 0 = zs[j]'(by omega) := by simp [List.getD, show j < zs.length by omega]
        rw [h3] at h2 ⊢
        congr 2
        omega
set_option maxRecDepth 100000 in
/-- A byte slice that came in. -/
theorem open_bytes {H : Type} {enc : TypeId × Value → H} {W : World} {base : Nat} {v : Value} {d : DataW H} {p : List MemPlace}
    (hv : Value.okWide Tryz.prog W .any base 27 v) (h : DataW.Trod enc Tryz.prog W 0 (fun _ => true) true 27 v d p) :
    ∃ A n c l, v = .slice A n c ∧ BS W W.heap.size A n c l := by
  obtain ⟨a0, len0, cap0, rfl⟩ := okWide_slice Tryz.underlying27 hv
  obtain ⟨fuel, hf⟩ := h
  obtain ⟨A, n, c, l, hcs, hb⟩ := open_bytes_at hf
  simp [Value.cells] at hcs
  obtain ⟨rfl, rfl, rfl⟩ := hcs
  exact ⟨_, _, _, l, rfl, hb⟩
end Go.Proofs.YtccbdaffjkdpgaaGreatDoor
