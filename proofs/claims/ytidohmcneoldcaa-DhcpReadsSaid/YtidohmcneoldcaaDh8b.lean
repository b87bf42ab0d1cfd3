/-
  Contract of the reference's Get, whole.
-/
import Derived.Test.YtidohmcneoldcaaDh8
namespace Go.Proofs.Ytidohmcneoldcaa
open Go.RowKit

theorem rget_any_m (w : World) (A : Option Addr) (n c : Nat) (l : List UInt8) (h : BS w w.heap.size A n c l) (hmx : n ≤ 1099511627776) :
    Calls Try.prog 28 #[.slice A n c] w (MsPost w (getM l)) := by
  by_cases hn : n < 240
  · exact rgetm_short w A n c l h hn
  · by_cases hf : goodM l
    · have hnl := h.1
      have hnc := h.2.1
      obtain ⟨b, o, rfl, hb, hc⟩ := h.byte (k := 0) (by omega)
      obtain ⟨x0, x1, x2, hh, hg⟩ := goodM_cells w b o l (by omega) hc
      obtain ⟨h0, h1, h2, h3⟩ := hg.1 hf
      have hs : BS w w.heap.size (some ⟨b, o + 236, none⟩) 4 (c - 236) cook := by
        have h1 := (h.drop (k := 236) (by omega)).take (k := 4) (by omega) (c - 236) (by omega) (by have h2 := h.2.2.1; omega)
        rw [if_neg (by omega), h3] at h1
        exact h1
      have hh' : RHead w b o (x0.toNat : Int) 1 6 := by
        have e1 : (x1.toNat : Int) = 1 := by omega
        have e2 : (x2.toNat : Int) = 6 := by omega
        rw [e1, e2] at hh
        exact hh
      have hk0 : beN ((l.drop 0).take 1) = x0.toNat := by
        have h4 := hc 0 (by omega)
        have h5 := hh.c0
        rw [Nat.add_zero] at h4
        rw [h4] at h5
        injection h5 with h5
        injection h5 with _ h5
        have h6 : (l.drop 0).take 1 = [l[0]] := by
          rw [List.drop_eq_getElem_cons (show 0 < l.length by omega)]
          rfl
        rw [h6]
        simp [beN]
        omega
      rcases hg' : getO (l.drop 240) with _ | os
      · rw [show getM l = ((Hd.zero, []), 3) by rw [getM, if_neg (by omega), if_pos hf, hg']]
        exact rgetm_none w b o n c l h (by omega) hmx hg' (x0.toNat : Int) hb hh' (by omega) hs
      · rw [show getM l = if typeO os = 0 then ((Hd.zero, []), 4) else ((hdOf l, os), 0) by rw [getM, if_neg (by omega), if_pos hf, hg']]
        exact rgetm_ok w b o n c l h (by omega) hmx os hg' x0.toNat hb hh' h0 hk0 hs
    · exact rgetm_form w A n c l h (by omega) hf
end Go.Proofs.Ytidohmcneoldcaa
