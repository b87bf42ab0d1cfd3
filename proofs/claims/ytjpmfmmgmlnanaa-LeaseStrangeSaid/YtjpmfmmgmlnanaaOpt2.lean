/-
  Package opt: contracts of Find, Secs.
-/
import Derived.Test.YtjpmfmmgmlnanaaOpt1
namespace Go.Proofs.Ytjpmfmmgmlnanaa
open Go.RowKit

def opFind (l : List Op1) (code : Int) : Option Op1 := l.find? (fun o => o.code == code)
theorem opAt_cases (l : List Op1) (code : Int) : (opFind l code = none ∧ opAt l code = -1) ∨ ∃ (k : Nat) (x : Op1), opFind l code = some x ∧ opAt l code = (k : Int) ∧ l[k]? = some x ∧ k < l.length := by
  unfold opFind opAt
  rcases h : l.findIdx? (fun o => o.code == code) with _ | k
  · left
    refine ⟨List.find?_eq_none.2 fun x hx => ?_, by rw [h]⟩
    rw [List.findIdx?_eq_none_iff.1 h x hx]
    simp
  · right
    obtain ⟨hk, hp, hlt⟩ := List.findIdx?_eq_some_iff_getElem.1 h
    exact ⟨k, l[k], List.find?_eq_some_iff_getElem.2 ⟨hp, k, hk, rfl, fun j hj => by simpa using hlt j hj⟩, by rw [h], List.getElem?_eq_getElem hk, hk⟩

/-- What Find tells: the bytes, and whether there are any. -/
def fdB (l : List Op1) (code : Int) : List UInt8 := match opFind l code with | some x => x.body | none => []
def fdK (l : List Op1) (code : Int) : Bool := (opFind l code).isSome
def FindPost (w : World) (b : List UInt8) (ok : Bool) (e : Ending) (w' : World) : Prop :=
  ∃ A n c, e = .returned (.tuple #[.slice A n c, .bool ok]) ∧ OB w' w.heap.size A n c b ∧ Below w.heap.size w w'

set_option maxRecDepth 100000 in
set_option maxHeartbeats 1000000 in
theorem find_any (w : World) (A : Option Addr) (n c : Nat) (l : List Op1) (code : Int) (h : OS w w.heap.size A n c l) (hB : ∀ o ∈ l, o.body.length ≤ 1099511627776) :
    Calls Try.prog 30 #[.slice A n c, .int .i64 code] w (FindPost w (fdB l code) (fdK l code)) := by
  have hnc : n ≤ 9223372036854775807 := by have h1 := h.2.1; have h2 := h.2.2.1; unfold maxLen at h2; omega
  rcases opAt_cases l code with ⟨h0, h1⟩ | ⟨k, x, h0, h1, h2, h3⟩
  · have e1 : fdB l code = [] := by rw [fdB, h0]
    have e2 : fdK l code = false := by rw [fdK, h0]; rfl
    rw [e1, e2]
    have H1 := Lib.hid h1
    clear h0 h1 e1 e2
    go_enter Try.func30, Try.ntmps30
    go_wp2_with fail
    refine (at_any w A n c l code h).mono ?_
    rw [H1.out]
    rintro e w1 ⟨rfl, hb1⟩
    go_wp2_with fail
    go_ret2
    exact ⟨none, 0, 0, rfl, ⟨rfl, World.ownsRow_nil _ _ _ _⟩, hb1⟩
  · have e1 : fdB l code = x.body := by rw [fdB, h0]
    have e2 : fdK l code = true := by rw [fdK, h0]; rfl
    rw [e1, e2]
    have hxl : x.body.length ≤ 1099511627776 := hB x (List.mem_of_getElem? h2)
    have hkn : k < n := by have := h.1; omega
    have hkk : (0 : Int) ≤ (k : Int) ∧ (k : Int) < (n : Int) := ⟨by omega, by omega⟩
    have H1 := Lib.hid h1
    have H2 := Lib.hid h2
    clear h0 h1 e1 e2 h2 h3
    go_enter Try.func30, Try.ntmps30
    go_wp2_with fail
    refine (at_any w A n c l code h).mono ?_
    rw [H1.out]
    rintro e w1 ⟨rfl, hb1⟩
    obtain ⟨b, o, x', rfl, hb, hx', hc0, hc1, hbs⟩ := (h.below hb1).at_ hkn
    have hxx : x' = x := by rw [H2.out] at hx'; injection hx' with hx'; exact hx'.symm
    subst hxx
    have z1 := hb1.size
    have D1 := (World.cell?_alloc_lt w1 (.cells #[] 5) ⟨b, o + k * 2 + 1, none⟩ (by show b < _; omega)).trans hc1
    clear hc0
    go_wp2_with (at_builtin; go_must (refine app8 rfl _ _ rfl w1.heap.size _ 0 0 [] rfl (OB.empty w1 _ _ _ rfl (Nat.le_refl _) rfl) w.heap.size x'.A x'.n x'.c x'.body rfl (hbs.alloc z1 _) (by simp; omega) (by simp) ?_))
    intro A2 n2 c2 w2 ho2 hb2 _
    go_wp2_with fail
    go_ret2
    exact ⟨A2, n2, c2, rfl, ho2.lower z1, (hb1.alloc z1 _).trans (hb2.mono z1)⟩

/-- What Secs tells. -/
def scN (l : List Op1) (code : Int) : Nat := if fdK l code = true ∧ (fdB l code).length = 4 then beN (fdB l code) else 0
def scK (l : List Op1) (code : Int) : Bool := fdK l code && (fdB l code).length == 4
def NumOkPost (w : World) (v : Nat) (ok : Bool) (e : Ending) (w' : World) : Prop := e = .returned (.tuple #[.int .u32 v, .bool ok]) ∧ Below w.heap.size w w'

set_option maxRecDepth 100000 in
set_option maxHeartbeats 1000000 in
theorem secs_any (w : World) (A : Option Addr) (n c : Nat) (l : List Op1) (code : Int) (h : OS w w.heap.size A n c l) (hB : ∀ o ∈ l, o.body.length ≤ 1099511627776) :
    Calls Try.prog 25 #[.slice A n c, .int .i64 code] w (NumOkPost w (scN l code) (scK l code)) := by
  unfold scN scK
  have hbl : (fdB l code).length ≤ 1099511627776 := by
    rcases opAt_cases l code with ⟨h0, h1⟩ | ⟨k, x, h0, h1, h2, h3⟩
    · rw [fdB, h0]; simp
    · rw [fdB, h0]; exact hB x (List.mem_of_getElem? h2)
  obtain ⟨bd, hbd⟩ : ∃ x, fdB l code = x := ⟨_, rfl⟩
  obtain ⟨ok, hok⟩ : ∃ x, fdK l code = x := ⟨_, rfl⟩
  rw [hbd] at hbl
  rw [hbd, hok]
  have HB := Lib.hid hbd
  have HO := Lib.hid hok
  clear hbd hok
  cases ok
  · rw [if_neg (by simp), Bool.false_and]
    go_enter Try.func25, Try.ntmps25
    go_wp2_with fail
    refine (find_any w A n c l code h hB).mono ?_
    rw [HB.out, HO.out]
    rintro e w1 ⟨A1, n1, c1, rfl, ho1, hb1⟩
    go_wp2_with fail
    go_ret2
    exact ⟨rfl, hb1⟩
  · by_cases h4 : bd.length = 4
    · have e1 : rdTake bd 4 = bd := by rw [rdTake, if_pos (by omega)]; exact List.take_of_length_le (by omega)
      have hlt : beN bd < 4294967296 := by have := beN_lt bd; rw [h4] at this; omega
      rw [if_pos ⟨rfl, h4⟩, show (true && bd.length == 4) = true by simp [h4]]
      go_enter Try.func25, Try.ntmps25
      go_wp2_with fail
      refine (find_any w A n c l code h hB).mono ?_
      rw [HB.out, HO.out]
      rintro e w1 ⟨A1, n1, c1, rfl, ho1, hb1⟩
      have hn1 : n1 = 4 := by have := ho1.1; omega
      subst hn1
      have z1 := hb1.size
      have HE := Lib.hid e1
      clear e1 h4
      go_wp2_with fail
      refine (read_any w1 A1 4 c1 bd ho1.bs hbl).mono ?_
      rintro e w2 ⟨g, rfl, hg, hr2, hb2⟩
      go_wp2_with fail
      refine (ru32_any w2 g bd false hr2 hbl).mono ?_
      rw [HE.out]
      rintro e w3 ⟨rfl, hr3, hg3⟩
      go_wp2_with fail
      go_ret2
      exact ⟨rfl, below_grown (hb1.trans (hb2.mono z1)) hg3 (Nat.le_trans z1 hb2.size) (by omega)⟩
    · rw [if_neg (fun e => h4 e.2), show (true && bd.length == 4) = false by simp [h4]]
      go_enter Try.func25, Try.ntmps25
      go_wp2_with fail
      refine (find_any w A n c l code h hB).mono ?_
      rw [HB.out, HO.out]
      rintro e w1 ⟨A1, n1, c1, rfl, ho1, hb1⟩
      have hn1 : n1 ≠ 4 := by have := ho1.1; omega
      have hnb : ((n1 : Int) != 4) = true := bne_iff_ne.2 (by omega)
      go_wp2_with fail
      go_ret2
      exact ⟨rfl, hb1⟩
end Go.Proofs.Ytjpmfmmgmlnanaa
