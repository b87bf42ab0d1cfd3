/-
  Package opt: options as data; the contracts of at's test, of slices.IndexFunc over options, of at.
-/
import Derived.Test.YtjpmfmmgmlnanaaOctet6
import Derived.Test.YtjpmfmmgmlnanaaAt
import Derived.Test.YtjpmfmmgmlnanaaBig
import Derived.Handy
namespace Go.Proofs.Ytjpmfmmgmlnanaa
open Go.RowKit

def ValPost (w : World) (v : Value) (e : Ending) (w' : World) : Prop := e = .returned v ∧ Below w.heap.size w w'

/-- An option as data, and where its bytes lie. -/
structure Op1 where
  code : Int
  A : Option Addr
  n : Nat
  c : Nat
  body : List UInt8
def opCells (l : List Op1) : List Value := l.flatMap fun o => [.int .i64 o.code, .slice o.A o.n o.c]
/-- A slice of options that reads as l, below block B. -/
def OS (w : World) (B : Nat) (A : Option Addr) (n c : Nat) (l : List Op1) : Prop :=
  n = l.length ∧ n ≤ c ∧ c ≤ maxLen ∧ Row w B A (opCells l) ∧ ∀ o ∈ l, BS w B o.A o.n o.c o.body
theorem OS.below {w w' : World} {B n c : Nat} {A : Option Addr} {l : List Op1} (h : OS w B A n c l) (hb : Below B w w') : OS w' B A n c l :=
  ⟨h.1, h.2.1, h.2.2.1, h.2.2.2.1.below hb, fun o ho => (h.2.2.2.2 o ho).below hb⟩
theorem OS.more {w : World} {B B' n c : Nat} {A : Option Addr} {l : List Op1} (h : OS w B A n c l) (hB : B ≤ B') : OS w B' A n c l :=
  ⟨h.1, h.2.1, h.2.2.1, h.2.2.2.1.more hB, fun o ho => (h.2.2.2.2 o ho).more hB⟩
theorem opCells_get : ∀ (l : List Op1) (j : Nat) (h : j < l.length), (opCells l)[j * 2]? = some (.int .i64 l[j].code) ∧ (opCells l)[j * 2 + 1]? = some (.slice l[j].A l[j].n l[j].c)
  | o :: r, 0, _ => by simp [opCells]
  | o :: r, j + 1, h => by
    have := opCells_get r j (by simpa using h)
    rw [show (j + 1) * 2 = j * 2 + 2 by omega, show j * 2 + 2 + 1 = j * 2 + 1 + 2 by omega]
    simpa [opCells] using this
theorem OS.at_ {w : World} {B n c j : Nat} {A : Option Addr} {l : List Op1} (h : OS w B A n c l) (hj : j < n) :
    ∃ b o x, A = some ⟨b, o, none⟩ ∧ b < B ∧ l[j]? = some x ∧ w.cell? ⟨b, o + j * 2, none⟩ = some (.int .i64 x.code) ∧ w.cell? ⟨b, o + j * 2 + 1, none⟩ = some (.slice x.A x.n x.c) ∧ BS w B x.A x.n x.c x.body := by
  have hl : j < l.length := by have := h.1; omega
  obtain ⟨h0, h1⟩ := opCells_get l j hl
  obtain ⟨b, o, rfl, hb, hc⟩ := h.2.2.2.1.at_ h0
  obtain ⟨b', o', he, _, hc'⟩ := h.2.2.2.1.at_ h1
  injection he with he
  injection he with he1 he2
  subst he1 he2
  exact ⟨b, o, l[j], rfl, hb, List.getElem?_eq_getElem hl, hc, hc', h.2.2.2.2 _ (List.getElem_mem hl)⟩

/-- The first option of a code. -/
def opAt (l : List Op1) (code : Int) : Int := match l.findIdx? (fun o => o.code == code) with
  | some i => i
  | none => -1

set_option maxHeartbeats 400000 in
theorem at1_any (w : World) (v code : Int) (A : Option Addr) (n m g : Nat) (hg : w.cell? ⟨g, 0, none⟩ = some (.int .i64 code)) :
    Calls Try.prog 38 #[.agg #[.int .i64 v, .slice A n m], .pointer (some ⟨g, 0, none⟩)] w (ValPost w (.bool (v == code))) := by
  have hgl := World.block_lt_of_cell? w _ hg
  go_enter Try.func38, Try.ntmps38
  go_wp2_with fail
  go_ret
  exact ⟨rfl, by go_grown⟩

set_option maxRecDepth 100000 in
set_option maxHeartbeats 1000000 in
theorem index_any (w : World) (A : Option Addr) (n c : Nat) (l : List Op1) (code : Int) (g : Nat) (h : OS w w.heap.size A n c l) (hg : w.cell? ⟨g, 0, none⟩ = some (.int .i64 code)) :
    Calls Try.prog 37 #[.slice A n c, .func (.func 38) #[] #[.pointer (some ⟨g, 0, none⟩)]] w (ValPost w (.int .i64 (opAt l code))) := by
  have hgl := World.block_lt_of_cell? w _ hg
  have hnc : n ≤ 9223372036854775807 := by have h1 := h.2.1; have h2 := h.2.2.1; unfold maxLen at h2; omega
  go_enter Try.func37, Try.ntmps37
  go_wp2_with fail
  go_loopw [8] (fun i wr => ∃ j : Nat, j ≤ n ∧ i = .int .i64 j ∧ (∀ k (hk : k < l.length), k < j → (l[k].code == code) = false) ∧ Below w.heap.size w wr) (fun i _ => n - (intOf i).toNat)
  case atStart => exact ⟨0, Nat.zero_le _, rfl, fun k _ hk => by omega, Below.refl _ _⟩
  case round =>
    obtain ⟨j, hj, rfl, ht, hq⟩ := hrel
    by_cases hlt : j < n
    · have hl : j < l.length := by have := h.1; omega
      obtain ⟨b, o, x, rfl, hb, hx, h0, h1, _⟩ := (h.below hq).at_ hlt
      have hgr : wr.cell? ⟨g, 0, none⟩ = some (.int .i64 code) := by rw [← hg]; simp [World.cell?, hq.block g hgl]
      have hx' : l[j] = x := by rw [List.getElem?_eq_getElem hl] at hx; injection hx
      have hjn : (0 : Int) ≤ (j : Int) ∧ (j : Int) < (n : Int) := ⟨by omega, by omega⟩
      have HT := Lib.hid ht
      have HX := Lib.hid hx'
      clear ht hx hx'
      go_wp2_with fail
      refine (at1_any _ x.code code x.A x.n x.c g hgr).mono ?_
      rintro e wf ⟨rfl, hbf⟩
      have hqf := hq.trans (hbf.mono hq.size)
      cases hv : (x.code == code)
      · have HV := Lib.hid hv
        clear hv
        go_wp2_with fail
        go_roundw
        case rel =>
          refine ⟨j + 1, by omega, by go_num, fun k hk hkj => ?_, hqf⟩
          by_cases e : k = j
          · subst e
            rw [HX.out, HV.out]
          · exact HT.out k hk (by omega)
        case measure => simp [intOf]; omega
      · have HV := Lib.hid hv
        clear hv
        go_wp2_with fail
        go_ret
        have : opAt l code = j := by
          unfold opAt
          rw [List.findIdx?_eq_some_iff_getElem.2 ⟨hl, by rw [HX.out, HV.out], fun k hk => by rw [HT.out k (by omega) hk]; simp⟩]
        exact ⟨by rw [this]; rfl, hqf⟩
    · go_wp2_with fail
      go_ret
      have : opAt l code = -1 := by
        unfold opAt
        rw [List.findIdx?_eq_none_iff.2 fun x hx => by
          obtain ⟨k, hk, rfl⟩ := List.mem_iff_getElem.1 hx
          exact ht k hk (by have := h.1; omega)]
      exact ⟨by rw [this]; rfl, hq⟩

set_option maxHeartbeats 400000 in
theorem at_any (w : World) (A : Option Addr) (n c : Nat) (l : List Op1) (code : Int) (h : OS w w.heap.size A n c l) :
    Calls Try.prog 34 #[.slice A n c, .int .i64 code] w (ValPost w (.int .i64 (opAt l code))) := by
  go_enter Try.func34, Try.ntmps34
  go_wp2_with fail
  have b1 : Below w.heap.size w (w.alloc (.cells #[.int .i64 code] 3)) := (Below.refl _ w).alloc (Nat.le_refl _) _
  refine (index_any _ A n c l code w.heap.size ((h.below b1).more (by simp)) (cell_of_row _ _ 0 _ _ _ (heap_alloc_at rfl))).mono ?_
  rintro e w1 ⟨rfl, hb1⟩
  go_wp2_with fail
  go_ret
  exact ⟨rfl, b1.trans (hb1.mono (by simp))⟩
end Go.Proofs.Ytjpmfmmgmlnanaa
