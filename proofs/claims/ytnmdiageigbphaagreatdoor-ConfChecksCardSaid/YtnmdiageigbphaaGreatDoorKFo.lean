/-
  The frame of the statements' proofs: the listed tables as the row's condition gives them; a world that meets it.
-/
import Derived.Test.YtnmdiageigbphaaGreatDoorKF5
import Derived.Lib.LaidTab
import Derived.LaidMore
import Derived.Stop.Joined
import Derived.Stop.LaidErr
import Derived.Lib.ItoaNum
import Derived.MakeChecks
namespace Go.Proofs.YtnmdiageigbphaaGreatDoor
open Go.ChangeShapes Go.WideShapes Go.ChangeAt Go.RowKit

theorem bytes_of_cells : ∀ (cs : List Value), (∀ i, i < cs.length → ∃ b : UInt8, cs[i]? = some (.int .u8 (b.toNat : Int))) → ∃ l : List UInt8, l.length = cs.length ∧ cs = bv l
  | [], _ => ⟨[], rfl, rfl⟩
  | c :: r, key => by
    obtain ⟨b, hb⟩ := key 0 (by simp)
    simp at hb
    obtain ⟨l, hll, hr⟩ := bytes_of_cells r (fun i hi => by simpa using key (i + 1) (by simp; omega))
    exact ⟨b :: l, by simp; omega, by rw [hb, hr]; rfl⟩

set_option maxRecDepth 100000 in
theorem cellsU8 : Tryz.prog.cellsOf 5 = 1 := by kernel_rfl
set_option maxRecDepth 100000 in
theorem cellsMac : Tryz.prog.cellsOf 28 = 6 := by kernel_rfl
set_option maxRecDepth 100000 in
theorem cellsInt : Tryz.prog.cellsOf 3 = 1 := by kernel_rfl
set_option maxRecDepth 100000 in
/-- Cells that read as an array of n bytes are n bytes. -/
theorem bytes_of_trod {H : Type} {enc : TypeId × Value → H} {W : World} {base fuel n : Nat} {spare : Nat → Bool} {held : Bool} {t : TypeId} {cs : List Value} {x : DataW H × List MemPlace}
    (ht : Tryz.prog.underlying t = some (.array n 5)) (hc : Tryz.prog.cellsOf t = n) (h : DataW.trod enc Tryz.prog W base spare held fuel t cs = some x) : ∃ l : List UInt8, l.length = n ∧ cs = bv l := by
  obtain ⟨xs, m, _, _, hl, hxl, hg⟩ := DataW.trod_array ht h
  rw [cellsU8] at hg
  rw [hc] at hl
  obtain ⟨l, h1, h2⟩ := bytes_of_cells cs (fun i hi => by
    have h1 := hg i (by omega)
    rw [Nat.mul_one, List.drop_eq_getElem_cons hi, List.take_succ_cons, List.take_zero, List.getElem?_eq_getElem (show i < xs.length by omega)] at h1
    obtain ⟨k, e0, e1, wf⟩ := DataW.trod_int Tryz.underlying5 h1
    obtain ⟨k0, k1⟩ := wf_u8 wf
    refine ⟨UInt8.ofNat k.toNat, ?_⟩
    simp at e0
    rw [List.getElem?_eq_getElem hi, e0, UInt8.toNat_ofNat']
    congr 2
    omega)
  exact ⟨l, h1.trans hl, h2⟩

theorem mac_of (l : List UInt8) (h : l.length = 6) : ∃ m : Mac6, bv l = bv m.bytes := by
  match l, h with
  | [a, b, c, d, e, f], _ => exact ⟨⟨a, b, c, d, e, f⟩, rfl⟩

set_option maxRecDepth 100000 in
theorem cellsAd : Tryz.prog.cellsOf 24 = 4 := by kernel_rfl
theorem ad_of (l : List UInt8) (h : l.length = 4) : ∃ m : Ad4, bv l = bv m.bytes := by
  match l, h with
  | [a, b, c, d], _ => exact ⟨⟨a, b, c, d⟩, rfl⟩

set_option maxRecDepth 100000 in
theorem open_mac {H : Type} {enc : TypeId × Value → H} {W : World} {base : Nat} {v : Value} {d : DataW H} {p : List MemPlace}
    (hv : Value.okWide Tryz.prog W .any base 28 v) (h : DataW.Trod enc Tryz.prog W 0 (fun _ => true) true 28 v d p) : ∃ m : Mac6, v = macV m ∧ True := by
  unfold Value.okWide at hv
  rw [Tryz.underlying28] at hv
  obtain ⟨cs, rfl, hsz, _⟩ := hv
  obtain ⟨fuel, hf⟩ := h
  obtain ⟨l, hl, hc⟩ := bytes_of_trod Tryz.underlying28 cellsMac hf
  obtain ⟨m, hm⟩ := mac_of l hl
  refine ⟨m, ?_, trivial⟩
  have : cs.toList = bv m.bytes := by rw [← hm, ← hc]; rfl
  rw [show cs = cs.toList.toArray by simp, this]
  rfl

set_option maxRecDepth 100000 in
theorem open_addr {H : Type} {enc : TypeId × Value → H} {W : World} {base : Nat} {v : Value} {d : DataW H} {p : List MemPlace}
    (hv : Value.okWide Tryz.prog W .any base 24 v) (h : DataW.Trod enc Tryz.prog W 0 (fun _ => true) true 24 v d p) : ∃ m : Ad4, v = adV m ∧ True := by
  unfold Value.okWide at hv
  rw [Tryz.underlying24] at hv
  obtain ⟨cs, rfl, hsz, _⟩ := hv
  obtain ⟨fuel, hf⟩ := h
  obtain ⟨l, hl, hc⟩ := bytes_of_trod Tryz.underlying24 cellsAd hf
  obtain ⟨m, hm⟩ := ad_of l hl
  refine ⟨m, ?_, trivial⟩
  have : cs.toList = bv m.bytes := by rw [← hm, ← hc]; rfl
  rw [show cs = cs.toList.toArray by simp, this]
  rfl
end Go.Proofs.YtnmdiageigbphaaGreatDoor
