/-
  Contracts: slices.Equal over bytes, dhcp's cookie, within, good, Type, addr.Of.
-/
import Derived.Test.YtjpmfmmgmlnanaaDh1
namespace Go.Proofs.Ytjpmfmmgmlnanaa
open Go.RowKit

theorem OB.made (w : World) (g : Nat) (l : List UInt8) (H : Nat) (hg : w.heap.size = g) (hH : H ≤ g) (hl : l.length ≤ maxLen) (cs : Array Value) (hc : cs = (bv l).toArray) :
    OB (w.alloc (.cells cs 5)) H (some ⟨g, 0, none⟩) l.length l.length l := by
  subst hc hg
  refine ⟨rfl, by simp [bv_length], .inr ⟨w.heap.size, l.length, (bv l).toArray, rfl, hH, heap_alloc_new w _, Nat.le_refl _, hl, ?_, ?_⟩⟩
  · simp [bv_length]
  · simp [← bv_length]

theorem take_step {α : Type} (l l' : List α) (j : Nat) (x : α) (h : l.take j = l'.take j) (hx : l[j]? = some x) (hy : l'[j]? = some x) : l.take (j + 1) = l'.take (j + 1) := by
  rw [List.take_add_one, List.take_add_one, h, hx, hy]

theorem one_of (b : List UInt8) (h : b.length = 1) : ∃ x, b = [x] := by
  match b, h with
  | [x], _ => exact ⟨x, rfl⟩

set_option maxRecDepth 100000 in
set_option maxHeartbeats 1000000 in
theorem type_any (w : World) (h : Hd) (A : Option Addr) (n c : Nat) (l : List Op1) (ho : OS w w.heap.size A n c l) (hB : ∀ o ∈ l, o.body.length ≤ 1099511627776) :
    Calls Try.prog 17 #[msV h A n c] w (ValPost w (.int .i64 (typeO (obs l)))) := by
  have et : typeO (obs l) = typeB (fdB l 53) := by rw [typeO, ← fdB_obs]
  rw [et]
  clear et
  obtain ⟨r, hr⟩ : ∃ r, typeB (fdB l 53) = r := ⟨_, rfl⟩
  rw [hr]
  have HR := Lib.hid hr
  clear hr
  have b0 : Below w.heap.size w (w.alloc (.cells (msC h A n c) 37)) := (Below.refl _ w).alloc (Nat.le_refl _) _
  have os1 := (ho.below b0).more b0.size
  go_enter Try.func17, Try.ntmps17
  go_wp2_with fail
  refine (find_any _ A n c l 53 os1 hB).mono ?_
  rintro e w1 ⟨A1, n1, c1, rfl, ho1, hb1⟩
  have q1 := b0.trans (hb1.mono (by simp))
  have hn1 := ho1.1
  by_cases h1 : n1 = 1
  · subst h1
    obtain ⟨x, hx⟩ := one_of _ hn1.symm
    rw [hx] at ho1
    have HX := Lib.hid (show typeB [x] = r by rw [← hx]; exact HR.out)
    obtain ⟨b, o, rfl, hb, hc⟩ := ho1.bs.byte (k := 0) (by omega)
    have g0 : w1.cell? ⟨b, o, none⟩ = some (.int .u8 (x.toNat : Int)) := hc 0 (by simp)
    have hx8 := x.toNat_lt
    have hxx : 0 ≤ (x.toNat : Int) ∧ (x.toNat : Int) < 256 := by omega
    clear hc ho1 hb1 hx hn1 os1 b0 HR
    by_cases h2 : 1 ≤ x.toNat
    · by_cases h3 : x.toNat ≤ 8
      · have d2 : decide ((x.toNat : Int) < 1) = false := decide_eq_false (by omega)
        have d3 : decide ((8 : Int) < (x.toNat : Int)) = false := decide_eq_false (by omega)
        go_wp2_with fail
        go_ret
        have hr := HX.out
        rw [typeB_one, if_pos (show 1 ≤ x.toNat ∧ x.toNat ≤ 8 from ⟨h2, h3⟩)] at hr
        exact ⟨by rw [← hr]; rfl, q1⟩
      · go_wp2_with fail
        go_ret
        have hr := HX.out
        rw [typeB_one, if_neg (fun hh => h3 hh.2)] at hr
        exact ⟨by rw [← hr]; rfl, q1⟩
    · go_wp2_with fail
      go_ret
      have hr := HX.out
      rw [typeB_one, if_neg (fun hh => h2 hh.1)] at hr
      exact ⟨by rw [← hr]; rfl, q1⟩
  · have HX := Lib.hid (show 0 = r by rw [← HR.out, typeB_len _ (by omega)])
    clear hn1 ho1 HR
    go_wp2_with fail
    go_ret
    exact ⟨by rw [← HX.out]; rfl, q1⟩
end Go.Proofs.Ytjpmfmmgmlnanaa
