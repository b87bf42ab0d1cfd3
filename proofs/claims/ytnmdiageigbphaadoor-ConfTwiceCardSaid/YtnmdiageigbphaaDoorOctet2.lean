/-
  Contracts of package octet: Bytes.
-/
import Derived.Test.YtnmdiageigbphaaDoorOctet1
namespace Go.Proofs.YtnmdiageigbphaaDoor
open Go.RowKit

theorem BS.take {w : World} {B n c k : Nat} {A : Option Addr} {l : List UInt8} (h : BS w B A n c l) (hk : k ≤ n) (c' : Nat) (hkc : k ≤ c') (hc : c' ≤ maxLen) : BS w B A k c' (l.take k) :=
  ⟨by have := h.1; simp; omega, hkc, hc, by have := h.2.2.2.take k; rwa [bv_take] at this⟩
theorem BS.drop {w : World} {B n c k : Nat} {A : Option Addr} {l : List UInt8} (h : BS w B A n c l) (hk : k ≤ n) : BS w B (if c = k then A else A.map (·.add k)) (n - k) (c - k) (l.drop k) :=
  ⟨by have := h.1; simp; omega, by have := h.2.1; omega, by have := h.2.2.1; omega, by have := h.2.2.2.drop (k := k) (c := c) (by rw [bv_length]; have := h.1; have := h.2.1; omega); rwa [bv_drop] at this⟩
theorem BS.setCell {w : World} {B n c : Nat} {A : Option Addr} {l : List UInt8} (h : BS w B A n c l) {p : Addr} (hp : B ≤ p.block) (u : Value) : BS (w.setCell p u) B A n c l :=
  ⟨h.1, h.2.1, h.2.2.1, h.2.2.2.setCell hp u⟩

def TruePost (w : World) (e : Ending) (w' : World) : Prop := e = .returned (.bool true) ∧ Below w.heap.size w w'

theorem BS.block {w : World} {g : Nat} {cs : Array Value} {t : TypeId} {fr : Nat × Nat} (l : List UInt8) (h : w.heap[g]? = some (.cells cs t fr)) (hc : cs = (bv l).toArray) (hl : l.length ≤ maxLen) :
    BS w w.heap.size (some ⟨g, 0, none⟩) l.length l.length l := by
  refine ⟨rfl, Nat.le_refl _, hl, .inr ⟨g, 0, rfl, (Array.getElem?_eq_some_iff.1 h).1, fun j u hu => ?_⟩⟩
  subst hc
  rw [Nat.zero_add, cell_of_row w g j _ t fr h]
  simpa using hu

theorem below_grown {a w w' : World} {g H : Nat} (h : Below H a w) (hg : w.grownBy w' (some g)) (hH : H ≤ w.heap.size) (hgH : H ≤ g) : Below H a w' :=
  h.grown hg hH fun k hk => by injection hk with e; omega

theorem OB.grown {w w' : World} {H n c g : Nat} {A : Option Addr} {l : List UInt8} (h : OB w H A n c l) (hg : w.grownBy w' (some g)) (hH : g < H) : OB w' H A n c l :=
  ⟨h.1, h.2.kept hg (by
    rcases ho : (Value.slice A n c).ownBlock with _ | k
    · exact .inl rfl
    · have := (h.2.lt k ho).1
      exact .inr (by intro e; injection e with e; omega))⟩
theorem OB.setLow {w : World} {H n c : Nat} {A : Option Addr} {l : List UInt8} (h : OB w H A n c l) {p : Addr} (hp : p.block < H) (u : Value) : OB (w.setCell p u) H A n c l :=
  ⟨h.1, ownsRow_setCell_below h.2 hp u⟩
theorem OB.lower {w : World} {H H' n c : Nat} {A : Option Addr} {l : List UInt8} (h : OB w H A n c l) (hH : H' ≤ H) : OB w H' A n c l :=
  ⟨h.1, h.2.1, by
    rcases h.2.2 with h0 | ⟨g, cap, cur, hv, hb, rest⟩
    · exact .inl h0
    · exact .inr ⟨g, cap, cur, hv, Nat.le_trans hH hb, rest⟩⟩
theorem OB.below {w w' : World} {H n c : Nat} {A : Option Addr} {l : List UInt8} (h : OB w H A n c l) (hb : Below w.heap.size w w') : OB w' H A n c l :=
  ⟨h.1, h.2.kept (row := none) ⟨hb.os, hb.tape, hb.output, hb.size, fun k hk _ => hb.block k hk⟩ (by
    rcases ho : (Value.slice A n c).ownBlock with _ | k
    · exact .inl rfl
    · exact .inr (by simp))⟩
theorem heap_set_cells {w : World} {g k : Nat} {cs : Array Value} {t : TypeId} {fr : Nat × Nat} (h : w.heap[g]? = some (.cells cs t fr)) (v : Value) :
    (w.setCell ⟨g, k, none⟩ v).heap[g]? = some (.cells (cs.setIfInBounds k v) t fr) := by
  simp [World.setCell, Array.getElem?_modify, h]
theorem heap_lt {w : World} {g : Nat} {o : Obj} (h : w.heap[g]? = some o) : g < w.heap.size := (Array.getElem?_eq_some_iff.1 h).1
theorem grown_setCell {a w : World} {g : Nat} (h : a.grownBy w (some g)) (k : Nat) (u : Value) : a.grownBy (w.setCell ⟨g, k, none⟩ u) (some g) :=
  ⟨h.os, h.tape, h.output, by simpa [World.setCell] using h.size, fun i hi hne => (Below.heap_setCell w _ u i (by rintro rfl; exact hne rfl)).trans (h.block i hi hne)⟩
theorem grown_alloc {a w : World} {row : Option Nat} (h : a.grownBy w row) (o : Obj) : a.grownBy (w.alloc o) row :=
  ⟨h.os, h.tape, h.output, Nat.le_trans h.size (by simp), fun i hi hne => (Below.heap_alloc w o i (Nat.lt_of_lt_of_le hi h.size)).trans (h.block i hi hne)⟩
theorem grown_drew {a w : World} {row : Option Nat} (h : a.grownBy w row) : a.grownBy w.drew row := ⟨h.os, h.tape, h.output, h.size, h.block⟩
theorem grown_drewN {a w : World} {row : Option Nat} (h : a.grownBy w row) (k : Nat) : a.grownBy (w.drewN k) row := ⟨h.os, h.tape, h.output, h.size, h.block⟩
theorem grown_below {a w w' : World} {row : Option Nat} {H : Nat} (h : a.grownBy w row) (hb : Below H w w') (hH : a.heap.size ≤ H) : a.grownBy w' row :=
  ⟨hb.os.trans h.os, hb.tape.trans h.tape, hb.output.trans h.output, Nat.le_trans h.size hb.size, fun i hi hne => (hb.block i (by omega)).trans (h.block i hi hne)⟩

end Go.Proofs.YtnmdiageigbphaaDoor
