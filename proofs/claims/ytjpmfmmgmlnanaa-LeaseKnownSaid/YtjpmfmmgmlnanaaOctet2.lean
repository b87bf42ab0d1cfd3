/-
  Contracts of package octet: Bytes.
-/
import Derived.Test.YtjpmfmmgmlnanaaOctet1
namespace Go.Proofs.Ytjpmfmmgmlnanaa
open Go.RowKit

def BytesPost (w : World) (g : Nat) (l m : List UInt8) (sh : Bool) (e : Ending) (w' : World) : Prop :=
  ∃ A n c, e = .returned (.slice A n c) ∧ OB w' w.heap.size A n c m ∧ Rd w' g l sh ∧ w.grownBy w' (some g)

theorem BS.take {w : World} {B n c k : Nat} {A : Option Addr} {l : List UInt8} (h : BS w B A n c l) (hk : k ≤ n) (c' : Nat) (hkc : k ≤ c') (hc : c' ≤ maxLen) : BS w B A k c' (l.take k) :=
  ⟨by have := h.1; simp; omega, hkc, hc, by have := h.2.2.2.take k; rwa [bv_take] at this⟩
theorem BS.drop {w : World} {B n c k : Nat} {A : Option Addr} {l : List UInt8} (h : BS w B A n c l) (hk : k ≤ n) : BS w B (if c = k then A else A.map (·.add k)) (n - k) (c - k) (l.drop k) :=
  ⟨by have := h.1; simp; omega, by have := h.2.1; omega, by have := h.2.2.1; omega, by have := h.2.2.2.drop (k := k) (c := c) (by rw [bv_length]; have := h.1; have := h.2.1; omega); rwa [bv_drop] at this⟩
theorem BS.setCell {w : World} {B n c : Nat} {A : Option Addr} {l : List UInt8} (h : BS w B A n c l) {p : Addr} (hp : B ≤ p.block) (u : Value) : BS (w.setCell p u) B A n c l :=
  ⟨h.1, h.2.1, h.2.2.1, h.2.2.2.setCell hp u⟩

def TruePost (w : World) (e : Ending) (w' : World) : Prop := e = .returned (.bool true) ∧ Below w.heap.size w w'

theorem BS.block {w : World} {g : Nat} {cs : Array Value} {t : TypeId} {fr : Nat × Nat} (l : List UInt8) (h : w.heap[g]? = some (.cells cs t fr)) (hc : cs = (bv l).toArray) (hl : l.length ≤ maxLen) :
    BS w w.heap.size (some ⟨g, 0, none⟩) l.length l.length l := by
  refine ⟨rfl, Nat.le_refl _, hl, .inr ⟨g, 0, rfl, (Array.getElem?_eq_some_iff.1 h).1, fun j u hu => ?_⟩⟩
  subst hc
  rw [Nat.zero_add, cell_of_row w g j _ t fr h]
  simpa using hu

theorem below_grown {a w w' : World} {g H : Nat} (h : Below H a w) (hg : w.grownBy w' (some g)) (hH : H ≤ w.heap.size) (hgH : H ≤ g) : Below H a w' :=
  h.grown hg hH fun k hk => by injection hk with e; omega

theorem OB.grown {w w' : World} {H n c g : Nat} {A : Option Addr} {l : List UInt8} (h : OB w H A n c l) (hg : w.grownBy w' (some g)) (hH : g < H) : OB w' H A n c l :=
  ⟨h.1, h.2.kept hg (by
    rcases ho : (Value.slice A n c).ownBlock with _ | k
    · exact .inl rfl
    · have := (h.2.lt k ho).1
      exact .inr (by intro e; injection e with e; omega))⟩
theorem OB.setLow {w : World} {H n c : Nat} {A : Option Addr} {l : List UInt8} (h : OB w H A n c l) {p : Addr} (hp : p.block < H) (u : Value) : OB (w.setCell p u) H A n c l :=
  ⟨h.1, ownsRow_setCell_below h.2 hp u⟩
theorem OB.lower {w : World} {H H' n c : Nat} {A : Option Addr} {l : List UInt8} (h : OB w H A n c l) (hH : H' ≤ H) : OB w H' A n c l :=
  ⟨h.1, h.2.1, by
    rcases h.2.2 with h0 | ⟨g, cap, cur, hv, hb, rest⟩
    · exact .inl h0
    · exact .inr ⟨g, cap, cur, hv, Nat.le_trans hH hb, rest⟩⟩
theorem OB.below {w w' : World} {H n c : Nat} {A : Option Addr} {l : List UInt8} (h : OB w H A n c l) (hb : Below w.heap.size w w') : OB w' H A n c l :=
  ⟨h.1, h.2.kept (row := none) ⟨hb.os, hb.tape, hb.output, hb.size, fun k hk _ => hb.block k hk⟩ (by
    rcases ho : (Value.slice A n c).ownBlock with _ | k
    · exact .inl rfl
    · exact .inr (by simp))⟩
theorem heap_set_cells {w : World} {g k : Nat} {cs : Array Value} {t : TypeId} {fr : Nat × Nat} (h : w.heap[g]? = some (.cells cs t fr)) (v : Value) :
    (w.setCell ⟨g, k, none⟩ v).heap[g]? = some (.cells (cs.setIfInBounds k v) t fr) := by
  simp [World.setCell, Array.getElem?_modify, h]
theorem heap_lt {w : World} {g : Nat} {o : Obj} (h : w.heap[g]? = some o) : g < w.heap.size := (Array.getElem?_eq_some_iff.1 h).1
theorem grown_setCell {a w : World} {g : Nat} (h : a.grownBy w (some g)) (k : Nat) (u : Value) : a.grownBy (w.setCell ⟨g, k, none⟩ u) (some g) :=
  ⟨h.os, h.tape, h.output, by simpa [World.setCell] using h.size, fun i hi hne => (Below.heap_setCell w _ u i (by rintro rfl; exact hne rfl)).trans (h.block i hi hne)⟩
theorem grown_alloc {a w : World} {row : Option Nat} (h : a.grownBy w row) (o : Obj) : a.grownBy (w.alloc o) row :=
  ⟨h.os, h.tape, h.output, Nat.le_trans h.size (by simp), fun i hi hne => (Below.heap_alloc w o i (Nat.lt_of_lt_of_le hi h.size)).trans (h.block i hi hne)⟩
theorem grown_drew {a w : World} {row : Option Nat} (h : a.grownBy w row) : a.grownBy w.drew row := ⟨h.os, h.tape, h.output, h.size, h.block⟩
theorem grown_drewN {a w : World} {row : Option Nat} (h : a.grownBy w row) (k : Nat) : a.grownBy (w.drewN k) row := ⟨h.os, h.tape, h.output, h.size, h.block⟩
theorem grown_below {a w w' : World} {row : Option Nat} {H : Nat} (h : a.grownBy w row) (hb : Below H w w') (hH : a.heap.size ≤ H) : a.grownBy w' row :=
  ⟨hb.os.trans h.os, hb.tape.trans h.tape, hb.output.trans h.output, Nat.le_trans h.size hb.size, fun i hi hne => (hb.block i (by omega)).trans (h.block i hi hne)⟩

theorem Rd.lt {w : World} {g : Nat} {l : List UInt8} {sh : Bool} (h : Rd w g l sh) : g < w.heap.size := by
  obtain ⟨A, n, c, hg, _⟩ := h
  exact heap_lt hg
theorem Rd.below {w w' : World} {g H : Nat} {l : List UInt8} {sh : Bool} (h : Rd w g l sh) (hb : Below H w w') (hH : g < H) : Rd w' g l sh := by
  obtain ⟨A, n, c, hg, hs⟩ := h
  exact ⟨A, n, c, (hb.block g hH).trans hg, hs.below (hb.mono (by omega))⟩
theorem Rd.drew {w : World} {g : Nat} {l : List UInt8} {sh : Bool} (h : Rd w g l sh) : Rd w.drew g l sh := h
theorem Rd.alloc {w : World} {g : Nat} {l : List UInt8} {sh : Bool} (h : Rd w g l sh) (o : Obj) : Rd (w.alloc o) g l sh :=
  h.below ((Below.refl _ w).alloc (Nat.le_refl _) o) h.lt
theorem Rd.grown {w w' : World} {g g' : Nat} {l : List UInt8} {sh : Bool} (h : Rd w g l sh) (hb : w.grownBy w' (some g')) (hH : g < g') : Rd w' g l sh := by
  have hlt := h.lt
  obtain ⟨A, n, c, hg, hs⟩ := h
  exact ⟨A, n, c, (hb.block g (heap_lt hg) (by intro e; injection e with e; omega)).trans hg, hs.grown hb (by omega) (fun k hk => by injection hk with e; omega)⟩

set_option maxHeartbeats 400000 in
theorem bytes_ok (w : World) (g k : Nat) (l : List UInt8) (sh : Bool) (h : Rd w g l sh) (hl : l.length ≤ 1099511627776) (hk : k ≤ l.length) :
    Calls Try.prog 41 #[.pointer (some ⟨g, 0, none⟩), .int .i64 k] w (BytesPost w g (l.drop k) (l.take k) sh) := by
  obtain ⟨A, n, c, hg, hb⟩ := h
  have hn := hb.1
  have hkn : k ≤ n := by omega
  have hnl : n ≤ 1099511627776 := by omega
  have hnc : n ≤ c := hb.2.1
  have hd := hb.drop hkn
  clear hn hk
  have c0 : w.cell? ⟨g, 0, none⟩ = some (.slice A n c) := by simp [World.cell?, hg]
  have f0 : ∀ o, w.frozen? ⟨g, o, none⟩ = false := by intro o; simp [World.frozen?, hg]
  have HG := Lib.hid hg
  clear hg
  obtain ⟨Ak, hAk⟩ : ∃ Ak, (if c = k then A else Option.map (fun x => x.add k) A) = Ak := ⟨_, rfl⟩
  rw [hAk] at hd
  go_enter Try.func41, Try.ntmps41
  go_wp2_with (at_builtin; refine app8 rfl _ _ rfl w.heap.size _ 0 0 [] rfl (OB.empty _ _ _ _ ?h0 (Nat.le_refl _) rfl) g _ k _ (l.take k) rfl ?h1 ?h2 ?h3 ?_)
  case h0 => simp [World.setCell]
  case h1 => exact ((hb.take hkn k (Nat.le_refl _) (by have := hb.2.2.1; omega)).setCell (p := ⟨g, 0, none⟩) (Nat.le_refl _) _).alloc (by have := heap_lt HG.out; simp [World.setCell]; omega) _
  case h2 => simp; omega
  case h3 => simp [World.setCell]
  intro A' n' c' w1 ho hb1 _
  go_wp2
  go_ret
  have hgl := heap_lt HG.out
  have hgr : w.grownBy w1 (some g) := grown_below (grown_alloc (grown_setCell (World.grownBy.refl w (some g)) 0 _) _) hb1 (Nat.le_refl _)
  refine ⟨A', n', c', rfl, ho, ⟨Ak, n - k, c - k, ?_, ?_⟩, hgr⟩
  · rw [hb1.block g hgl, Below.heap_alloc _ _ _ (by simpa [World.setCell] using hgl), heap_set_cells HG.out]
    rfl
  · exact (((hd.setCell (p := ⟨g, 0, none⟩) (Nat.le_refl _) _).alloc (by simp [World.setCell]; omega) _).below (hb1.mono (by omega)))

set_option maxHeartbeats 400000 in
theorem bytes_short (w : World) (g : Nat) (k : Int) (l : List UInt8) (sh : Bool) (h : Rd w g l sh) (_hl : l.length ≤ 1099511627776) (hk : k < 0 ∨ l.length < k) :
    Calls Try.prog 41 #[.pointer (some ⟨g, 0, none⟩), .int .i64 k] w (BytesPost w g [] [] true) := by
  obtain ⟨A, n, c, hg, hb⟩ := h
  have hn := hb.1
  have c0 : w.cell? ⟨g, 0, none⟩ = some (.slice A n c) := by simp [World.cell?, hg]
  have c1 : w.cell? ⟨g, 1, none⟩ = some (.bool sh) := by simp [World.cell?, hg]
  have f0 : ∀ o, w.frozen? ⟨g, o, none⟩ = false := by intro o; simp [World.frozen?, hg]
  have HG := Lib.hid hg
  have fin : BytesPost w g [] [] true (.returned (.slice none 0 0)) ((w.setCell ⟨g, 0, none⟩ (.slice none 0 0)).setCell ⟨g, 1, none⟩ (.bool true)) := by
    refine ⟨none, 0, 0, rfl, ⟨rfl, World.ownsRow_nil _ _ _ _⟩, ⟨none, 0, 0, ?_, ⟨rfl, Nat.le_refl _, by simp [maxLen], .inl rfl⟩⟩, grown_setCell (grown_setCell (World.grownBy.refl w (some g)) 0 _) 1 _⟩
    rw [heap_set_cells (heap_set_cells hg _)]
    rfl
  clear hg
  have FIN := Lib.hid fin
  clear fin
  rcases hk with hk | hk
  · clear hn
    go_enter Try.func41, Try.ntmps41
    go_wp2
    go_ret
    exact FIN.out
  · have hk2 : (n : Int) < k := by omega
    clear hn hk
    by_cases hk0 : k < 0
    · omega
    go_enter Try.func41, Try.ntmps41
    go_wp2
    go_ret
    exact FIN.out
end Go.Proofs.Ytjpmfmmgmlnanaa
