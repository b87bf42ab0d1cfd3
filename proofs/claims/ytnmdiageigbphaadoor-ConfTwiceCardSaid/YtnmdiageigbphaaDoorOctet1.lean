/-
  Contracts of package octet: Read, Bytes, number, U8, U16, U32, Left, Short (readers) and the writers.
-/
import Derived.Test.YtnmdiageigbphaaDoorChecked
import Derived.Test.YtnmdiageigbphaaDoorBase
namespace Go.Proofs.YtnmdiageigbphaaDoor
open Go.RowKit

theorem infoU8 : (Tryd.prog.info? 5).map (fun i => (i.zero, i.size, i.bytes)) = some (some (.int .u8 0), 1, 1) := by kernel_rfl

/-- A byte slice that reads as the list l, below block B. -/
def BS (w : World) (B : Nat) (A : Option Addr) (n c : Nat) (l : List UInt8) : Prop := n = l.length ∧ n ≤ c ∧ c ≤ maxLen ∧ Row w B A (bv l)
/-- A byte slice of the call's own: its row lies in a block from H on. -/
def OB (w : World) (H : Nat) (A : Option Addr) (n c : Nat) (l : List UInt8) : Prop := n = l.length ∧ w.ownsRow H 5 1 (.slice A n c) n (bv l)
section
variable {w w' : World} {B B' H n c : Nat} {A : Option Addr} {l : List UInt8}
theorem OB.bs (h : OB w H A n c l) : BS w w.heap.size A n c l := by
  obtain ⟨hn, ho⟩ := h
  refine ⟨hn, ?_, ?_, Row.of_own ho⟩
  · rcases ho.2 with ⟨hv, h0⟩ | ⟨g, cap, cur, hv, _, _, hnc, _⟩
    · omega
    · injection hv with _ _ e; omega
  · rcases ho.2 with ⟨hv, h0⟩ | ⟨g, cap, cur, hv, _, _, _, hcm, _⟩
    · injection hv with _ _ e; subst e; unfold maxLen; omega
    · injection hv with _ _ e; omega
theorem OB.empty (w : World) (o : Array Value) (H g : Nat) (hg : w.heap.size = g) (hH : H ≤ g) (ho : o = #[]) : OB (w.alloc (.cells o 5)) H (some ⟨g, 0, none⟩) 0 0 [] := by
  subst ho; subst hg
  exact ⟨rfl, World.ownsRow_made w #[] 0 hH (by simp [maxLen]) rfl⟩
theorem OB.alloc (h : OB w H A n c l) (o : Obj) : OB (w.alloc o) H A n c l := ⟨h.1, h.2.alloc o⟩
theorem OB.drew (h : OB w H A n c l) : OB w.drew H A n c l := h
theorem BS.below (h : BS w B A n c l) (hb : Below B w w') : BS w' B A n c l := ⟨h.1, h.2.1, h.2.2.1, h.2.2.2.below hb⟩
theorem BS.more (h : BS w B A n c l) (hB : B ≤ B') : BS w B' A n c l := ⟨h.1, h.2.1, h.2.2.1, h.2.2.2.more hB⟩
theorem BS.alloc (h : BS w B A n c l) (hB : B ≤ w.heap.size) (o : Obj) : BS (w.alloc o) B A n c l := ⟨h.1, h.2.1, h.2.2.1, h.2.2.2.alloc hB o⟩
theorem BS.drew (h : BS w B A n c l) : BS w.drew B A n c l := h
theorem BS.grown (h : BS w B A n c l) {g : Option Nat} (hg : w.grownBy w' g) (hB : B ≤ w.heap.size) (hr : ∀ k, g = some k → B ≤ k) : BS w' B A n c l := ⟨h.1, h.2.1, h.2.2.1, h.2.2.2.grown hg hB hr⟩
end

/-- append(own row of bytes, bytes...). -/
theorem app8 {w : World} {ops : Array Oper} {rest : List Oper} {o : Oper} {a : Act} {Q : Exit → Act → World → Prop} (hgd : o.guard = none) (s x : Operand)
    (ho : o.op = .call { callee := .builtin .append, args := #[s, x], argTypes := #[70, 70] })
    (H : Nat) (A : Option Addr) (n c : Nat) (l : List UInt8) (hs : a.eval s = .slice A n c) (hown : OB w H A n c l)
    (B : Nat) (A2 : Option Addr) (n2 c2 : Nat) (l2 : List UInt8) (hx : a.eval x = .slice A2 n2 c2) (hr : BS w B A2 n2 c2 l2)
    (hlen : l.length + l2.length ≤ 140737488355328) (hbase : H ≤ w.heap.size)
    (h : ∀ A' n' c' w', OB w' H A' n' c' (l ++ l2) → Below H w w' → w.grownBy w' (Value.slice A n c).ownBlock → wpList Tryd.prog ops Q rest (a.put o.dst (.slice A' n' c')) w') : wpList Tryd.prog ops Q (o :: rest) a w := by
  obtain ⟨i0, hi, hz0, hz1, hz2⟩ := info_parts infoU8
  obtain ⟨rfl, hown⟩ := hown
  obtain ⟨rfl, hnc, hcm, hr⟩ := hr
  refine wpList_app w hgd s x 70 ho 5 i0 (.int .u8 0) 1 Tryd.underlying70 hi hz0 hz1 hz2 rfl H _ _ _ hs hown B A2 _ c2 (bv l2) hx hr (bv_length l2) (bv_one l2) (by unfold maxLen; omega) (by omega) hbase ?_
  intro A' c' w' ho' hg _
  exact h A' (l.length + l2.length) c' w' ⟨by simp, by rw [bv_append]; exact ho'⟩ ((Below.refl H w).grown hg hbase fun k hk => (hown.lt k hk).1) hg

end Go.Proofs.YtnmdiageigbphaaDoor
