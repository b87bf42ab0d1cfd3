/-
  The reference's Find, Secs over options; an address as data; opt.Addr.
-/
import Derived.Test.YtidohmcneoldcaaOpt2
namespace Go.Proofs.Ytidohmcneoldcaa
open Go.RowKit

def RFindPost (w : World) (b : List UInt8) (ok : Bool) (e : Ending) (w' : World) : Prop :=
  ∃ A n c, e = .returned (.tuple #[.slice A n c, .bool ok]) ∧ BS w' w.heap.size A n c b ∧ Below w.heap.size w w'

set_option maxRecDepth 100000 in
set_option maxHeartbeats 1000000 in
theorem rfind_any (w : World) (A : Option Addr) (n c : Nat) (l : List Op1) (code : Int) (h : OS w w.heap.size A n c l) :
    Calls Try.prog 21 #[.slice A n c, .int .i64 code] w (RFindPost w (fdB l code) (fdK l code)) := by
  have hnc : n ≤ 9223372036854775807 := by have h1 := h.2.1; have h2 := h.2.2.1; unfold maxLen at h2; omega
  go_enter Try.func21, Try.ntmps21
  go_wp2_with fail
  go_loopw [6] (fun i wr => ∃ j : Nat, j ≤ n ∧ i = .int .i64 j ∧ (∀ k (hk : k < l.length), k < j → (l[k].code == code) = false) ∧ Below w.heap.size w wr) (fun i _ => n - (intOf i).toNat)
  case atStart => exact ⟨0, Nat.zero_le _, rfl, fun k _ hk => by omega, Below.refl _ _⟩
  case round =>
    obtain ⟨j, hj, rfl, ht, hq⟩ := hrel
    by_cases hlt : j < n
    · have hl : j < l.length := by have := h.1; omega
      obtain ⟨b, o, x, rfl, hb, hx, h0, h1, hbs⟩ := (h.below hq).at_ hlt
      have hx' : l[j] = x := by rw [List.getElem?_eq_getElem hl] at hx; injection hx
      have hjn : (0 : Int) ≤ (j : Int) ∧ (j : Int) < (n : Int) := ⟨by omega, by omega⟩
      have HT := Lib.hid ht
      have HX := Lib.hid hx'
      clear ht hx hx'
      cases hv : (x.code == code)
      · have HV := Lib.hid hv
        have hv' : ¬ x.code = code := fun e => by rw [e, beq_self_eq_true] at hv; cases hv
        clear hv
        go_wp2_with fail
        go_roundw
        case rel =>
          refine ⟨j + 1, by omega, by go_num, fun k hk hkj => ?_, hq⟩
          by_cases e : k = j
          · subst e
            rw [HX.out, HV.out]
          · exact HT.out k hk (by omega)
        case measure => simp [intOf]; omega
      · have HV := Lib.hid hv
        have hv' : x.code = code := LawfulBEq.eq_of_beq hv
        clear hv
        go_wp2_with fail
        go_ret2
        have e1 : opFind l code = some x := List.find?_eq_some_iff_getElem.2 ⟨HV.out, j, hl, HX.out, fun k hk => by rw [HT.out k (by omega) hk]; rfl⟩
        exact ⟨x.A, x.n, x.c, by rw [fdK, e1]; rfl, by rw [fdB, e1]; exact hbs, hq⟩
    · go_wp2_with fail
      go_ret2
      have e1 : opFind l code = none := List.find?_eq_none.2 fun x hx => by
        obtain ⟨k, hk, rfl⟩ := List.mem_iff_getElem.1 hx
        rw [ht k hk (by have := h.1; omega)]
        simp
      exact ⟨none, 0, 0, by rw [fdK, e1]; rfl, by rw [fdB, e1]; exact BS.nil_ _ _, hq⟩

set_option maxRecDepth 100000 in
set_option maxHeartbeats 1000000 in
theorem rsecs_any (w : World) (A : Option Addr) (n c : Nat) (l : List Op1) (code : Int) (h : OS w w.heap.size A n c l) :
    Calls Try.prog 23 #[.slice A n c, .int .i64 code] w (NumOkPost w (scN l code) (scK l code)) := by
  have hk0 : fdK l code = false → fdB l code = [] := by
    intro e
    rw [fdK] at e
    rw [fdB]
    cases ho : opFind l code
    · rfl
    · rw [ho] at e; cases e
  unfold scN scK
  obtain ⟨bd, hbd⟩ : ∃ x, fdB l code = x := ⟨_, rfl⟩
  obtain ⟨ok, hok⟩ : ∃ x, fdK l code = x := ⟨_, rfl⟩
  rw [hbd, hok] at hk0
  rw [hbd, hok]
  have HB := Lib.hid hbd
  have HO := Lib.hid hok
  have H0 := Lib.hid hk0
  clear hbd hok hk0
  by_cases h4 : bd.length = 4
  · have hok : ok = true := by
      cases ok
      · rw [H0.out rfl] at h4; cases h4
      · rfl
    subst hok
    rw [if_pos ⟨rfl, h4⟩, show (true && bd.length == 4) = true by simp [h4]]
    obtain ⟨x, y, z, u, rfl⟩ : ∃ x y z u, bd = [x, y, z, u] := by
      match bd, h4 with
      | [x, y, z, u], _ => exact ⟨x, y, z, u, rfl⟩
    have HV := Lib.hid (show (beN [x, y, z, u] : Int) = (((x.toNat : Int) * 256 + y.toNat) * 256 + z.toNat) * 256 + u.toNat by simp [beN])
    clear h4
    go_enter Try.func23, Try.ntmps23
    go_wp2_with fail
    refine (rfind_any w A n c l code h).mono ?_
    rw [HB.out, HO.out]
    rintro e w1 ⟨A1, n1, c1, rfl, hb1, hq1⟩
    have hn1 : n1 = 4 := hb1.1
    subst hn1
    go_wp2_with fail
    refine (at32_any w1 A1 4 c1 _ 0 x y z u (hb1.more hq1.size) (by omega) (by omega) (by omega) rfl rfl rfl rfl).mono ?_
    rintro e w2 ⟨rfl, hq2⟩
    go_wp2_with fail
    go_ret2
    exact ⟨by rw [HV.out]; rfl, hq1.trans (hq2.mono hq1.size)⟩
  · rw [if_neg (fun e => h4 e.2), show (ok && bd.length == 4) = false by simp [h4]]
    go_enter Try.func23, Try.ntmps23
    go_wp2_with fail
    refine (rfind_any w A n c l code h).mono ?_
    rw [HB.out, HO.out]
    rintro e w1 ⟨A1, n1, c1, rfl, hb1, hq1⟩
    have hn1 : n1 ≠ 4 := by have := hb1.1; omega
    have hnb : ((n1 : Int) != 4) = true := bne_iff_ne.2 (by omega)
    go_wp2_with fail
    go_ret2
    exact ⟨rfl, hq1⟩
end Go.Proofs.Ytidohmcneoldcaa
