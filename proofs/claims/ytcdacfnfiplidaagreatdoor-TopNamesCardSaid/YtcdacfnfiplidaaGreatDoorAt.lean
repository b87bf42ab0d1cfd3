/-
  The references' At16 and At32: numbers that are there.
-/
import Derived.Test.YtcdacfnfiplidaaGreatDoorOctet6
namespace Go.Proofs.YtcdacfnfiplidaaGreatDoor
open Go.RowKit

/-- A byte of a slice, in every later world. -/
theorem BS.byte {w : World} {B n c : Nat} {A : Option Addr} {l : List UInt8} (h : BS w B A n c l) {k : Nat} (hk : k < n) :
    ∃ b o, A = some ⟨b, o, none⟩ ∧ b < B ∧ ∀ j (hj : j < l.length), w.cell? ⟨b, o + j, none⟩ = some (.int .u8 (l[j].toNat : Int)) := by
  have hl := h.1
  rcases h.2.2.2 with h0 | ⟨b, o, hA, hb, hc⟩
  · have := congrArg List.length h0
    rw [bv_length] at this
    simp at this
    rw [this] at hl
    simp at hl
    omega
  · exact ⟨b, o, hA, hb, fun j hj => hc j _ (bv_get l j hj)⟩
theorem Ext.cell {w : World} {M : Nat → Prop} {b o : Nat} {v : Value} (h : w.cell? ⟨b, o, none⟩ = some v) (hM : ¬ M b) :
    ∀ x, Ext M w x → x.cell? ⟨b, o, none⟩ = some v := by
  intro x hx
  have hlt := World.block_lt_of_cell? w _ h
  exact (World.cell?_of_block (w := w) (a := ⟨b, o, none⟩) (hx.block b hlt hM)).trans h

theorem u32_or_join (a b : Nat) (i : Nat) (ha : a % 2 ^ i = 0) (hb : b < 2 ^ i) (hab : a + b < 4294967296) : bits BinOp.or IntKind.u32 (a : Int) (b : Int) = (a : Int) + b := by
  rw [u32_or_nat a b (by omega) (by omega), nat_join i a b ha hb]
  omega

end Go.Proofs.YtcdacfnfiplidaaGreatDoor
