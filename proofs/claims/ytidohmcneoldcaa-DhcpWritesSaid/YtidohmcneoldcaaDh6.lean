/-
  Contracts of the reference's Type, addr; numbers that are there, by their places.
-/
import Derived.Test.YtidohmcneoldcaaDh4
namespace Go.Proofs.Ytidohmcneoldcaa
open Go.RowKit

theorem two_at (l : List UInt8) (i : Nat) (h : i + 2 ≤ l.length) : ∃ x y, l[i]? = some x ∧ l[i + 1]? = some y ∧ (l.drop i).take 2 = [x, y] := by
  refine ⟨l[i], l[i + 1], List.getElem?_eq_getElem (by omega), List.getElem?_eq_getElem (by omega), ?_⟩
  rw [List.drop_eq_getElem_cons (show i < l.length by omega), List.drop_eq_getElem_cons (show i + 1 < l.length by omega)]
  rfl
theorem four_at (l : List UInt8) (i : Nat) (h : i + 4 ≤ l.length) : ∃ x y z u, l[i]? = some x ∧ l[i + 1]? = some y ∧ l[i + 2]? = some z ∧ l[i + 3]? = some u ∧ (l.drop i).take 4 = [x, y, z, u] := by
  refine ⟨l[i], l[i + 1], l[i + 2], l[i + 3], List.getElem?_eq_getElem (by omega), List.getElem?_eq_getElem (by omega), List.getElem?_eq_getElem (by omega), List.getElem?_eq_getElem (by omega), ?_⟩
  rw [List.drop_eq_getElem_cons (show i < l.length by omega), List.drop_eq_getElem_cons (show i + 1 < l.length by omega), List.drop_eq_getElem_cons (show i + 1 + 1 < l.length by omega), List.drop_eq_getElem_cons (show i + 1 + 1 + 1 < l.length by omega)]
  rfl
theorem beN_two (x y : UInt8) : ((beN [x, y] : Nat) : Int) = (x.toNat : Int) * 256 + y.toNat := by simp [beN]
theorem beN_four (x y z u : UInt8) : ((beN [x, y, z, u] : Nat) : Int) = (((x.toNat : Int) * 256 + y.toNat) * 256 + z.toNat) * 256 + u.toNat := by simp [beN]

theorem at16b (w : World) (A : Option Addr) (n c : Nat) (l : List UInt8) (i : Nat) (h : BS w w.heap.size A n c l) (hn : i + 2 ≤ n) (hmx : n ≤ 9223372036854775807) :
    Calls Try.prog 50 #[.slice A n c, .int .i64 (i : Int)] w (ValPost w (.int .i64 (beN ((l.drop i).take 2) : Nat))) := by
  obtain ⟨x, y, h0, h1, he⟩ := two_at l i (by have := h.1; omega)
  rw [he, beN_two]
  exact at16_any w A n c l i x y h (by omega) (by omega) hmx h0 h1
theorem at32b (w : World) (A : Option Addr) (n c : Nat) (l : List UInt8) (i : Nat) (h : BS w w.heap.size A n c l) (hn : i + 4 ≤ n) (hmx : n ≤ 9223372036854775807) :
    Calls Try.prog 42 #[.slice A n c, .int .i64 (i : Int)] w (ValPost w (.int .u32 (beN ((l.drop i).take 4) : Nat))) := by
  obtain ⟨x, y, z, u, h0, h1, h2, h3, he⟩ := four_at l i (by have := h.1; omega)
  rw [he, beN_four]
  exact at32_any w A n c l i x y z u h (by omega) (by omega) hmx h0 h1 h2 h3
theorem be4_lt (l : List UInt8) (i : Nat) : 0 ≤ ((beN ((l.drop i).take 4) : Nat) : Int) ∧ ((beN ((l.drop i).take 4) : Nat) : Int) < 4294967296 := by
  have h1 := beN_lt ((l.drop i).take 4)
  have h2 : 256 ^ ((l.drop i).take 4).length ≤ 256 ^ 4 := Nat.pow_le_pow_right (by omega) (by simp; omega)
  omega

set_option maxHeartbeats 400000 in
theorem raddr12_any (w : World) (A : Option Addr) (n c : Nat) (l : List UInt8) (i : Nat) (h : BS w w.heap.size A n c l) (hn : i + 4 ≤ n) (hmx : n ≤ 9223372036854775807) :
    Calls Try.prog 51 #[.slice A n c, .int .i64 (i : Int)] w (ValPost w (adV (of4 (beN ((l.drop i).take 4))))) := by
  have hb := be4_lt l i
  generalize hk : beN ((l.drop i).take 4) = k at *
  have HK := Lib.hid hk
  clear hk
  have b0 : Below w.heap.size w (w.alloc (.cells (adC ⟨0, 0, 0, 0⟩) 39)) := (Below.refl _ w).alloc (Nat.le_refl _) _
  rw [adC_zero] at b0
  have h1 := (h.below b0).more b0.size
  go_enter Try.func51, Try.ntmps51
  go_wp2_with fail
  refine (at32b _ A n c l i h1 hn hmx).mono ?_
  rw [HK.out]
  rintro e w1 ⟨rfl, hb1⟩
  have X1 : w1.heap[w.heap.size]? = some (.cells #[.int .u8 0, .int .u8 0, .int .u8 0, .int .u8 0] 39 (0, 0)) := below_at hb1 (heap_alloc_at rfl) (by simp)
  have q1 := b0.trans (hb1.mono (by simp))
  clear h1 hb1 b0
  go_wp2_with fail
  refine (of4_any w1 k hb.1 hb.2).mono ?_
  rintro e w2 ⟨rfl, hb2⟩
  have X2 := below_at hb2 X1 (heap_lt X1)
  have q2 := q1.trans (hb2.mono q1.size)
  obtain ⟨ad, had⟩ : ∃ ad, of4 (k : Int) = ad := ⟨_, rfl⟩
  rw [had]
  have HAD := Lib.hid had
  clear hb2 X1 had
  go_wp2_with ((with_reducible apply at_store_part 39); (case hx => exact rfl); (case hy => exact rfl); (case hg => exact X2); (case hle => simp); (case hi => kernel_rfl); (case h1 => kernel_rfl); (intro w3 g3 X3; replace X3 := Lib.hid X3))
  have X3' : w3.heap[w.heap.size]? = some (.cells (adC ad) 39 (0, 0)) := X3.out
  refine bodyPost_cell w.heap.size _ _ _ rfl rfl X3' Try.underlying39 rfl (by kernel_rfl) rfl ?_
  exact ⟨by rw [HAD.out], below_grown q2 g3 q2.size (Nat.le_refl _)⟩

set_option maxRecDepth 100000 in
set_option maxHeartbeats 1000000 in
theorem rtype_any (w : World) (h : Hd) (A : Option Addr) (n c : Nat) (l : List Op1) (ho : OS w w.heap.size A n c l) :
    Calls Try.prog 33 #[msV h A n c] w (ValPost w (.int .i64 (typeO (obs l)))) := by
  have et : typeO (obs l) = typeB (fdB l 53) := by rw [typeO, ← fdB_obs]
  rw [et]
  clear et
  obtain ⟨r, hr⟩ : ∃ r, typeB (fdB l 53) = r := ⟨_, rfl⟩
  rw [hr]
  have HR := Lib.hid hr
  clear hr
  have b0 : Below w.heap.size w (w.alloc (.cells (msC h A n c) 62)) := (Below.refl _ w).alloc (Nat.le_refl _) _
  have os1 := (ho.below b0).more b0.size
  go_enter Try.func33, Try.ntmps33
  go_wp2_with fail
  refine (rfind_any _ A n c l 53 os1).mono ?_
  rintro e w1 ⟨A1, n1, c1, rfl, ho1, hb1⟩
  have q1 := b0.trans (hb1.mono (by simp))
  have hn1 := ho1.1
  by_cases h1 : n1 = 1
  · subst h1
    obtain ⟨x, hx⟩ := one_of _ hn1.symm
    rw [hx] at ho1
    have HX := Lib.hid (show typeB [x] = r by rw [← hx]; exact HR.out)
    obtain ⟨b, o, rfl, hb, hc⟩ := ho1.byte (k := 0) (by omega)
    have g0 : w1.cell? ⟨b, o, none⟩ = some (.int .u8 (x.toNat : Int)) := hc 0 (by simp)
    have hx8 := x.toNat_lt
    have hxx : 0 ≤ (x.toNat : Int) ∧ (x.toNat : Int) < 256 := by omega
    clear hc ho1 hb1 hx hn1 os1 b0 HR
    by_cases h2 : 1 ≤ x.toNat
    · by_cases h3 : x.toNat ≤ 8
      · have d2 : decide ((x.toNat : Int) < 1) = false := decide_eq_false (by omega)
        have d3 : decide ((8 : Int) < (x.toNat : Int)) = false := decide_eq_false (by omega)
        go_wp2_with fail
        go_ret
        have hr := HX.out
        rw [typeB_one, if_pos (show 1 ≤ x.toNat ∧ x.toNat ≤ 8 from ⟨h2, h3⟩)] at hr
        exact ⟨by rw [← hr]; rfl, q1⟩
      · go_wp2_with fail
        go_ret
        have hr := HX.out
        rw [typeB_one, if_neg (fun hh => h3 hh.2)] at hr
        exact ⟨by rw [← hr]; rfl, q1⟩
    · go_wp2_with fail
      go_ret
      have hr := HX.out
      rw [typeB_one, if_neg (fun hh => h2 hh.1)] at hr
      exact ⟨by rw [← hr]; rfl, q1⟩
  · have HX := Lib.hid (show 0 = r by rw [← HR.out, typeB_len _ (by omega)])
    clear hn1 ho1 HR
    go_wp2_with fail
    go_ret
    exact ⟨by rw [← HX.out]; rfl, q1⟩
end Go.Proofs.Ytidohmcneoldcaa
