/-
  Contract of the reference's Get.
-/
import Derived.Test.YtidohmcneoldcaaDh5
import Derived.Test.YtidohmcneoldcaaDh6
namespace Go.Proofs.Ytidohmcneoldcaa
open Go.RowKit

set_option maxRecDepth 100000 in
set_option maxHeartbeats 1000000 in
theorem rgetm_short (w : World) (A : Option Addr) (n c : Nat) (l : List UInt8) (h : BS w w.heap.size A n c l) (hn : n < 240) :
    Calls Try.prog 28 #[.slice A n c] w (MsPost w (getM l)) := by
  have e1 : getM l = ((Hd.zero, []), 3) := by rw [getM, if_pos (by have := h.1; omega)]
  rw [e1]
  clear e1 h
  go_enter Try.func28, Try.ntmps28
  go_wp2_with ((with_reducible apply at_store_new 62); (case hx => exact rfl); (case hy => exact rfl); (case hg => first | rfl | simp); (case hi => kernel_rfl); (case hold => rfl); (case h1 => kernel_rfl))
  refine bodyPost_cell_tmp w.heap.size _ _ _ rfl rfl (heap_alloc_at rfl) Try.underlying62 rfl (by kernel_rfl) rfl ?_
  have := MsPost.none_ (k := 3) (show Below w.heap.size w (w.alloc (.cells mz 62)) from (Below.refl _ w).alloc (Nat.le_refl _) _)
  rw [msV, msC_zero] at this
  exact this

/-- What the reference finds of the first bytes. -/
structure RHead (w : World) (b o : Nat) (k0 k1 k2 : Int) : Prop where
  c0 : w.cell? ⟨b, o, none⟩ = some (.int .u8 k0)
  c1 : w.cell? ⟨b, o + 1, none⟩ = some (.int .u8 k1)
  c2 : w.cell? ⟨b, o + 2, none⟩ = some (.int .u8 k2)

theorem rform_end (w : World) : MsPost w ((Hd.zero, []), 4) (.returned (.tuple #[.agg mz, .int .i64 4])) (w.alloc (.cells mz 62)) := by
  have := MsPost.none_ (k := 4) (show Below w.heap.size w (w.alloc (.cells mz 62)) from (Below.refl _ w).alloc (Nat.le_refl _) _)
  rw [msV, msC_zero] at this
  exact this
set_option maxRecDepth 100000 in
set_option maxHeartbeats 1000000 in
theorem rform_a (w : World) (b o n c : Nat) (k0 k1 k2 : Int) (hb : b < w.heap.size) (hn : 240 ≤ n) (hnc : n ≤ c) (hcm : c ≤ 9223372036854775807) (hh : RHead w b o k0 k1 k2)
    (h0 : (k0 != 1) = true) (h0' : (k0 != 2) = true) :
    Calls Try.prog 28 #[.slice (some ⟨b, o, none⟩) n c] w (MsPost w ((Hd.zero, []), 4)) := by
  have D := fun ob => (World.cell?_alloc_lt w ob ⟨b, o, none⟩ hb).trans hh.c0
  have D1 := fun ob => (World.cell?_alloc_lt w ob ⟨b, o + 1, none⟩ hb).trans hh.c1
  have D2 := fun ob => (World.cell?_alloc_lt w ob ⟨b, o + 2, none⟩ hb).trans hh.c2
  have HE := rform_end w
  clear hh
  go_enter Try.func28, Try.ntmps28
  go_upto_region 4 with fail
  go_wp2_with ((with_reducible apply at_store_new 62); (case hx => exact rfl); (case hy => exact rfl); (case hg => first | rfl | simp); (case hi => kernel_rfl); (case hold => rfl); (case h1 => kernel_rfl))
  refine bodyPost_cell_tmp w.heap.size _ _ _ rfl rfl (heap_alloc_at rfl) Try.underlying62 rfl (by kernel_rfl) rfl ?_
  exact HE

set_option maxRecDepth 100000 in
set_option maxHeartbeats 1000000 in
theorem rform_b1 (w : World) (b o n c : Nat) (k0 k1 k2 : Int) (hb : b < w.heap.size) (hn : 240 ≤ n) (hnc : n ≤ c) (hcm : c ≤ 9223372036854775807) (hh : RHead w b o k0 k1 k2)
    (h0 : k0 = 1) (h1 : (k1 != 1) = true) :
    Calls Try.prog 28 #[.slice (some ⟨b, o, none⟩) n c] w (MsPost w ((Hd.zero, []), 4)) := by
  have D := fun ob => (World.cell?_alloc_lt w ob ⟨b, o, none⟩ hb).trans hh.c0
  have D1 := fun ob => (World.cell?_alloc_lt w ob ⟨b, o + 1, none⟩ hb).trans hh.c1
  have D2 := fun ob => (World.cell?_alloc_lt w ob ⟨b, o + 2, none⟩ hb).trans hh.c2
  have HE := rform_end w
  subst h0
  clear hh
  go_enter Try.func28, Try.ntmps28
  go_upto_region 4 with fail
  go_wp2_with ((with_reducible apply at_store_new 62); (case hx => exact rfl); (case hy => exact rfl); (case hg => first | rfl | simp); (case hi => kernel_rfl); (case hold => rfl); (case h1 => kernel_rfl))
  refine bodyPost_cell_tmp w.heap.size _ _ _ rfl rfl (heap_alloc_at rfl) Try.underlying62 rfl (by kernel_rfl) rfl ?_
  exact HE

set_option maxRecDepth 100000 in
set_option maxHeartbeats 1000000 in
theorem rform_b2 (w : World) (b o n c : Nat) (k0 k1 k2 : Int) (hb : b < w.heap.size) (hn : 240 ≤ n) (hnc : n ≤ c) (hcm : c ≤ 9223372036854775807) (hh : RHead w b o k0 k1 k2)
    (h0 : k0 = 2) (h1 : (k1 != 1) = true) :
    Calls Try.prog 28 #[.slice (some ⟨b, o, none⟩) n c] w (MsPost w ((Hd.zero, []), 4)) := by
  have D := fun ob => (World.cell?_alloc_lt w ob ⟨b, o, none⟩ hb).trans hh.c0
  have D1 := fun ob => (World.cell?_alloc_lt w ob ⟨b, o + 1, none⟩ hb).trans hh.c1
  have D2 := fun ob => (World.cell?_alloc_lt w ob ⟨b, o + 2, none⟩ hb).trans hh.c2
  have HE := rform_end w
  subst h0
  clear hh
  go_enter Try.func28, Try.ntmps28
  go_upto_region 4 with fail
  go_wp2_with ((with_reducible apply at_store_new 62); (case hx => exact rfl); (case hy => exact rfl); (case hg => first | rfl | simp); (case hi => kernel_rfl); (case hold => rfl); (case h1 => kernel_rfl))
  refine bodyPost_cell_tmp w.heap.size _ _ _ rfl rfl (heap_alloc_at rfl) Try.underlying62 rfl (by kernel_rfl) rfl ?_
  exact HE

set_option maxRecDepth 100000 in
set_option maxHeartbeats 1000000 in
theorem rform_c1 (w : World) (b o n c : Nat) (k0 k1 k2 : Int) (hb : b < w.heap.size) (hn : 240 ≤ n) (hnc : n ≤ c) (hcm : c ≤ 9223372036854775807) (hh : RHead w b o k0 k1 k2)
    (h0 : k0 = 1) (h1 : k1 = 1) (h2 : (k2 != 6) = true) :
    Calls Try.prog 28 #[.slice (some ⟨b, o, none⟩) n c] w (MsPost w ((Hd.zero, []), 4)) := by
  have D := fun ob => (World.cell?_alloc_lt w ob ⟨b, o, none⟩ hb).trans hh.c0
  have D1 := fun ob => (World.cell?_alloc_lt w ob ⟨b, o + 1, none⟩ hb).trans hh.c1
  have D2 := fun ob => (World.cell?_alloc_lt w ob ⟨b, o + 2, none⟩ hb).trans hh.c2
  have HE := rform_end w
  subst h0 h1
  clear hh
  go_enter Try.func28, Try.ntmps28
  go_upto_region 4 with fail
  go_wp2_with ((with_reducible apply at_store_new 62); (case hx => exact rfl); (case hy => exact rfl); (case hg => first | rfl | simp); (case hi => kernel_rfl); (case hold => rfl); (case h1 => kernel_rfl))
  refine bodyPost_cell_tmp w.heap.size _ _ _ rfl rfl (heap_alloc_at rfl) Try.underlying62 rfl (by kernel_rfl) rfl ?_
  exact HE

set_option maxRecDepth 100000 in
set_option maxHeartbeats 1000000 in
theorem rform_c2 (w : World) (b o n c : Nat) (k0 k1 k2 : Int) (hb : b < w.heap.size) (hn : 240 ≤ n) (hnc : n ≤ c) (hcm : c ≤ 9223372036854775807) (hh : RHead w b o k0 k1 k2)
    (h0 : k0 = 2) (h1 : k1 = 1) (h2 : (k2 != 6) = true) :
    Calls Try.prog 28 #[.slice (some ⟨b, o, none⟩) n c] w (MsPost w ((Hd.zero, []), 4)) := by
  have D := fun ob => (World.cell?_alloc_lt w ob ⟨b, o, none⟩ hb).trans hh.c0
  have D1 := fun ob => (World.cell?_alloc_lt w ob ⟨b, o + 1, none⟩ hb).trans hh.c1
  have D2 := fun ob => (World.cell?_alloc_lt w ob ⟨b, o + 2, none⟩ hb).trans hh.c2
  have HE := rform_end w
  subst h0 h1
  clear hh
  go_enter Try.func28, Try.ntmps28
  go_upto_region 4 with fail
  go_wp2_with ((with_reducible apply at_store_new 62); (case hx => exact rfl); (case hy => exact rfl); (case hg => first | rfl | simp); (case hi => kernel_rfl); (case hold => rfl); (case h1 => kernel_rfl))
  refine bodyPost_cell_tmp w.heap.size _ _ _ rfl rfl (heap_alloc_at rfl) Try.underlying62 rfl (by kernel_rfl) rfl ?_
  exact HE

set_option maxRecDepth 100000 in
set_option maxHeartbeats 1000000 in
theorem rform_d1 (w : World) (b o n c : Nat) (k0 k1 k2 : Int) (hb : b < w.heap.size) (hn : 240 ≤ n) (hnc : n ≤ c) (hcm : c ≤ 9223372036854775807) (hh : RHead w b o k0 k1 k2)
    (h0 : k0 = 1) (h1 : k1 = 1) (h2 : k2 = 6) (L : List UInt8) (hs : BS w w.heap.size (some ⟨b, o + 236, none⟩) 4 (c - 236) L) (hL : ¬ L = cook) :
    Calls Try.prog 28 #[.slice (some ⟨b, o, none⟩) n c] w (MsPost w ((Hd.zero, []), 4)) := by
  have D := fun ob => (World.cell?_alloc_lt w ob ⟨b, o, none⟩ hb).trans hh.c0
  have D1 := fun ob => (World.cell?_alloc_lt w ob ⟨b, o + 1, none⟩ hb).trans hh.c1
  have D2 := fun ob => (World.cell?_alloc_lt w ob ⟨b, o + 2, none⟩ hb).trans hh.c2
  have HE := rform_end w
  subst h0 h1 h2
  have i236 : ¬ c = 236 := by omega
  have s4 := fun ob => run_str (hs.alloc (Nat.le_refl _) ob)
  have hs' : ((str L).toList == [99, 130, 83, 99]) = false := by
    rw [beq_eq_false_iff_ne]
    exact fun e => hL (by rw [ByteArray.toList_eq] at e; exact e)
  clear hs hL
  clear hh
  go_enter Try.func28, Try.ntmps28
  go_upto_region 4 with fail
  go_wp2_with ((with_reducible apply at_store_new 62); (case hx => exact rfl); (case hy => exact rfl); (case hg => first | rfl | simp); (case hi => kernel_rfl); (case hold => rfl); (case h1 => kernel_rfl))
  refine bodyPost_cell_tmp w.heap.size _ _ _ rfl rfl (heap_alloc_at rfl) Try.underlying62 rfl (by kernel_rfl) rfl ?_
  exact HE

set_option maxRecDepth 100000 in
set_option maxHeartbeats 1000000 in
theorem rform_d2 (w : World) (b o n c : Nat) (k0 k1 k2 : Int) (hb : b < w.heap.size) (hn : 240 ≤ n) (hnc : n ≤ c) (hcm : c ≤ 9223372036854775807) (hh : RHead w b o k0 k1 k2)
    (h0 : k0 = 2) (h1 : k1 = 1) (h2 : k2 = 6) (L : List UInt8) (hs : BS w w.heap.size (some ⟨b, o + 236, none⟩) 4 (c - 236) L) (hL : ¬ L = cook) :
    Calls Try.prog 28 #[.slice (some ⟨b, o, none⟩) n c] w (MsPost w ((Hd.zero, []), 4)) := by
  have D := fun ob => (World.cell?_alloc_lt w ob ⟨b, o, none⟩ hb).trans hh.c0
  have D1 := fun ob => (World.cell?_alloc_lt w ob ⟨b, o + 1, none⟩ hb).trans hh.c1
  have D2 := fun ob => (World.cell?_alloc_lt w ob ⟨b, o + 2, none⟩ hb).trans hh.c2
  have HE := rform_end w
  subst h0 h1 h2
  have i236 : ¬ c = 236 := by omega
  have s4 := fun ob => run_str (hs.alloc (Nat.le_refl _) ob)
  have hs' : ((str L).toList == [99, 130, 83, 99]) = false := by
    rw [beq_eq_false_iff_ne]
    exact fun e => hL (by rw [ByteArray.toList_eq] at e; exact e)
  clear hs hL
  clear hh
  go_enter Try.func28, Try.ntmps28
  go_upto_region 4 with fail
  go_wp2_with ((with_reducible apply at_store_new 62); (case hx => exact rfl); (case hy => exact rfl); (case hg => first | rfl | simp); (case hi => kernel_rfl); (case hold => rfl); (case h1 => kernel_rfl))
  refine bodyPost_cell_tmp w.heap.size _ _ _ rfl rfl (heap_alloc_at rfl) Try.underlying62 rfl (by kernel_rfl) rfl ?_
  exact HE

theorem goodM_cells (w : World) (b o : Nat) (l : List UInt8) (hl : 3 ≤ l.length) (hc : ∀ j (hj : j < l.length), w.cell? ⟨b, o + j, none⟩ = some (.int .u8 (l[j].toNat : Int))) :
    ∃ x0 x1 x2 : UInt8, RHead w b o x0.toNat x1.toNat x2.toNat ∧ (goodM l ↔ (x0.toNat = 1 ∨ x0.toNat = 2) ∧ x1.toNat = 1 ∧ x2.toNat = 6 ∧ (l.drop 236).take 4 = cook) := by
  obtain ⟨x0, x1, x2, r, rfl⟩ := three_of l hl
  refine ⟨x0, x1, x2, ⟨hc 0 (by simp), hc 1 (by simp), hc 2 (by simp)⟩, ?_⟩
  have e : ∀ (x : UInt8) (k : Nat), k < 256 → (x = UInt8.ofNat k ↔ x.toNat = k) := fun x k hk => by
    constructor
    · rintro rfl; simp; omega
    · intro hh; rw [← hh]; simp
  rw [goodM, ← e x0 1 (by omega), ← e x0 2 (by omega), ← e x1 1 (by omega), ← e x2 6 (by omega)]
  generalize ((x0 :: x1 :: x2 :: r).drop 236).take 4 = L
  simp
theorem rgetm_form (w : World) (A : Option Addr) (n c : Nat) (l : List UInt8) (h : BS w w.heap.size A n c l) (hn : 240 ≤ n) (hf : ¬ goodM l) :
    Calls Try.prog 28 #[.slice A n c] w (MsPost w (getM l)) := by
  have hnl := h.1
  have hnc := h.2.1
  have e1 : getM l = ((Hd.zero, []), 4) := by rw [getM, if_neg (by omega), if_neg hf]
  rw [e1]
  have hcm : c ≤ 9223372036854775807 := by have h2 := h.2.2.1; unfold maxLen at h2; omega
  obtain ⟨b, o, rfl, hb, hc⟩ := h.byte (k := 0) (by omega)
  obtain ⟨x0, x1, x2, hh, hg⟩ := goodM_cells w b o l (by omega) hc
  have hs : BS w w.heap.size (some ⟨b, o + 236, none⟩) 4 (c - 236) ((l.drop 236).take 4) := by
    have h1 := (h.drop (k := 236) (by omega)).take (k := 4) (by omega) (c - 236) (by omega) (by have h2 := h.2.2.1; omega)
    rw [if_neg (by omega)] at h1
    exact h1
  rw [hg] at hf
  have ne : ∀ (x : UInt8) (k : Nat), x.toNat ≠ k → ((x.toNat : Int) != (k : Int)) = true := fun x k hk => by rw [bne_iff_ne]; omega
  by_cases h0 : x0.toNat = 1 ∨ x0.toNat = 2
  · by_cases h1 : x1.toNat = 1
    · by_cases h2 : x2.toNat = 6
      · have h3 : ¬ (l.drop 236).take 4 = cook := fun e => hf ⟨h0, h1, h2, e⟩
        rcases h0 with h0 | h0
        · exact rform_d1 w b o n c _ _ _ hb hn hnc hcm hh (by omega) (by omega) (by omega) _ hs h3
        · exact rform_d2 w b o n c _ _ _ hb hn hnc hcm hh (by omega) (by omega) (by omega) _ hs h3
      · rcases h0 with h0 | h0
        · exact rform_c1 w b o n c _ _ _ hb hn hnc hcm hh (by omega) (by omega) (ne _ 6 h2)
        · exact rform_c2 w b o n c _ _ _ hb hn hnc hcm hh (by omega) (by omega) (ne _ 6 h2)
    · rcases h0 with h0 | h0
      · exact rform_b1 w b o n c _ _ _ hb hn hnc hcm hh (by omega) (ne _ 1 h1)
      · exact rform_b2 w b o n c _ _ _ hb hn hnc hcm hh (by omega) (ne _ 1 h1)
  · exact rform_a w b o n c _ _ _ hb hn hnc hcm hh (ne _ 1 fun e => h0 (.inl e)) (ne _ 2 fun e => h0 (.inr e))
end Go.Proofs.Ytidohmcneoldcaa
