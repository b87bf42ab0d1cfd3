/-
  Contract of the reference's GetArp.
-/
import Derived.Test.YtjmeehmbccilkaaArp5
namespace Go.Proofs.Ytjmeehmbccilkaa
open Go.RowKit

def head7 : List UInt8 := [0, 1, 8, 0, 6, 4, 0]
/-- The reference asks for seven bytes and a kind: the same as six bytes and a number of two. -/
theorem head_iff (l : List UInt8) (hl : 28 ≤ l.length) (y : UInt8) (hy : l[7]? = some y) :
    (l.take 6 = head6 ∧ (beN ((l.drop 6).take 2) = 1 ∨ beN ((l.drop 6).take 2) = 2)) ↔ (l.take 7 = head7 ∧ (y.toNat = 1 ∨ y.toNat = 2)) := by
  match l, hl with
  | a :: b :: c :: d :: e :: f :: g :: h :: r, _ =>
    simp at hy
    subst hy
    have hg := g.toNat_lt
    have hh := h.toNat_lt
    have e1 : beN [g, h] = g.toNat * 256 + h.toNat := by simp [beN]
    simp only [List.take_succ_cons, List.take_zero, List.drop_succ_cons, List.drop_zero, e1, head6, head7, List.cons.injEq, and_true]
    have e2 : g = 0 ↔ g.toNat = 0 := by rw [← UInt8.toNat_inj]; rfl
    rw [e2]
    constructor
    · rintro ⟨⟨h1, h2, h3, h4, h5, h6⟩, h7⟩
      exact ⟨⟨h1, h2, h3, h4, h5, h6, by omega⟩, by omega⟩
    · rintro ⟨⟨h1, h2, h3, h4, h5, h6, h7⟩, h8⟩
      exact ⟨⟨h1, h2, h3, h4, h5, h6⟩, by omega⟩
theorem be7 (l : List UInt8) (h : l.take 7 = head7) (y : UInt8) (hy : l[7]? = some y) : beN ((l.drop 6).take 2) = y.toNat := by
  match l, h with
  | a :: b :: c :: d :: e :: f :: g :: k :: r, h =>
    simp at hy
    subst hy
    simp [head7] at h
    obtain ⟨_, _, _, _, _, _, rfl⟩ := h
    simp [beN]

theorem adOf_take (l : List UInt8) : adOf (l.take 4) = adOf l := by
  match l with
  | [] => rfl
  | [a] => rfl
  | [a, b] => rfl
  | [a, b, c] => rfl
  | a :: b :: c :: d :: r => simp [adOf]

set_option maxRecDepth 100000 in
set_option maxHeartbeats 1000000 in
theorem rget5_short (w : World) (A : Option Addr) (n c : Nat) (l : List UInt8) (h : BS w w.heap.size A n c l) (hn : n < 28) :
    Calls Try.prog 29 #[.slice A n c] w (PkPost w (getPk l)) := by
  rw [getPk_short l (by have := h.1; omega)]
  clear h
  go_enter Try.func29, Try.ntmps29
  go_wp2_with ((with_reducible apply at_store_new 55); (case hx => exact rfl); (case hy => exact rfl); (case hg => first | rfl | simp); (case hi => kernel_rfl); (case hold => rfl); (case h1 => kernel_rfl))
  refine bodyPost_cell_tmp w.heap.size _ _ _ rfl rfl (heap_alloc_at rfl) Try.underlying55 rfl (by kernel_rfl) rfl ?_
  refine ⟨?_, by go_grown⟩
  show _ = Ending.returned (.tuple #[.agg (pkC Pk.zero), .int .i64 3])
  rw [pkC_zero]
  rfl

set_option maxRecDepth 100000 in
set_option maxHeartbeats 1000000 in
theorem rget5_form (w : World) (A : Option Addr) (n c : Nat) (l : List UInt8) (h : BS w w.heap.size A n c l) (hn : 28 ≤ n) (hmx : n ≤ 1099511627776)
    (hf : ¬ (l.take 6 = head6 ∧ (beN ((l.drop 6).take 2) = 1 ∨ beN ((l.drop 6).take 2) = 2))) :
    Calls Try.prog 29 #[.slice A n c] w (PkPost w (getPk l)) := by
  have hl : 28 ≤ l.length := by have := h.1; omega
  have hnc := h.2.1
  have e1 : getPk l = (Pk.zero, 4) := by rw [getPk, if_neg (by omega), if_neg hf]
  rw [e1]
  obtain ⟨y, hy⟩ : ∃ y, l[7]? = some y := ⟨_, List.getElem?_eq_getElem (by omega)⟩
  rw [head_iff l hl y hy] at hf
  obtain ⟨b, o, rfl, hb, hc⟩ := h.byte (k := 7) (by omega)
  have d7 : w.cell? ⟨b, o + 7, none⟩ = some (.int .u8 (y.toNat : Int)) := by
    have := hc 7 (by omega)
    rw [List.getElem?_eq_getElem (by omega)] at hy
    injection hy with hy
    rw [hy] at this
    exact this
  have D := fun ob => (World.cell?_alloc_lt w ob ⟨b, o + 7, none⟩ hb).trans d7
  have hy8 := y.toNat_lt
  have s7 := fun ob => run_str ((h.take (k := 7) (by omega) c (by omega) h.2.2.1).alloc (Nat.le_refl _) ob)
  by_cases hq : l.take 7 = head7
  · have y1 : ¬ y.toNat = 1 := fun e => hf ⟨hq, .inl e⟩
    have y2 : ¬ y.toNat = 2 := fun e => hf ⟨hq, .inr e⟩
    have b1 : ((y.toNat : Int) != 1) = true := bne_iff_ne.2 (by omega)
    have b2 : ((y.toNat : Int) != 2) = true := bne_iff_ne.2 (by omega)
    rw [hq] at s7
    have hs : str head7 = { data := #[0, 1, 8, 0, 6, 4, 0] } := rfl
    rw [hs] at s7
    clear h hc d7 hf hy hq e1
    go_enter Try.func29, Try.ntmps29
    go_upto_region 4 with fail
    go_wp2_with ((with_reducible apply at_store_new 55); (case hx => exact rfl); (case hy => exact rfl); (case hg => first | rfl | simp); (case hi => kernel_rfl); (case hold => rfl); (case h1 => kernel_rfl))
    refine bodyPost_cell_tmp w.heap.size _ _ _ rfl rfl (heap_alloc_at rfl) Try.underlying55 rfl (by kernel_rfl) rfl ?_
    refine ⟨?_, by go_grown⟩
    show _ = Ending.returned (.tuple #[.agg (pkC Pk.zero), .int .i64 4])
    rw [pkC_zero]
    rfl
  · obtain ⟨L, hL⟩ : ∃ L, l.take 7 = L := ⟨_, rfl⟩
    rw [hL] at s7 hq
    have hs : ¬ (str L).toList = [0, 1, 8, 0, 6, 4, 0] := fun e => hq (by rw [ByteArray.toList_eq] at e; exact e)
    clear h hc d7 hf hy e1 hL
    go_enter Try.func29, Try.ntmps29
    go_upto_region 4 with fail
    go_wp2_with ((with_reducible apply at_store_new 55); (case hx => exact rfl); (case hy => exact rfl); (case hg => first | rfl | simp); (case hi => kernel_rfl); (case hold => rfl); (case h1 => kernel_rfl))
    refine bodyPost_cell_tmp w.heap.size _ _ _ rfl rfl (heap_alloc_at rfl) Try.underlying55 rfl (by kernel_rfl) rfl ?_
    refine ⟨?_, by go_grown⟩
    show _ = Ending.returned (.tuple #[.agg (pkC Pk.zero), .int .i64 4])
    rw [pkC_zero]
    rfl

set_option maxRecDepth 100000 in
set_option maxHeartbeats 2000000 in
theorem rget5_ok (w : World) (A : Option Addr) (n c : Nat) (l : List UInt8) (h : BS w w.heap.size A n c l) (hn : 28 ≤ n) (hmx : n ≤ 1099511627776)
    (hf : (l.take 6 = head6 ∧ (beN ((l.drop 6).take 2) = 1 ∨ beN ((l.drop 6).take 2) = 2))) :
    Calls Try.prog 29 #[.slice A n c] w (PkPost w (getPk l)) := by
  have hl : 28 ≤ l.length := by have := h.1; omega
  have hnc := h.2.1
  have e1 : getPk l = (pkOf l, 0) := by rw [getPk, if_neg (by omega), if_pos hf]
  obtain ⟨y, hy⟩ : ∃ y, l[7]? = some y := ⟨_, List.getElem?_eq_getElem (by omega)⟩
  rw [head_iff l hl y hy] at hf
  obtain ⟨hq, hyy⟩ := hf
  rw [e1, pkOf, be7 l hq y hy, macOf_take, macOf_take, adOf_take, adOf_take]
  obtain ⟨m1, hm1⟩ : ∃ m, macOf (l.drop 8) = m := ⟨_, rfl⟩
  obtain ⟨a1, ha1⟩ : ∃ m, adOf (l.drop 14) = m := ⟨_, rfl⟩
  obtain ⟨m2, hm2⟩ : ∃ m, macOf (l.drop 18) = m := ⟨_, rfl⟩
  obtain ⟨a2, ha2⟩ : ∃ m, adOf (l.drop 24) = m := ⟨_, rfl⟩
  rw [hm1, ha1, hm2, ha2]
  have HM1 := Lib.hid hm1
  have HA1 := Lib.hid ha1
  have HM2 := Lib.hid hm2
  have HA2 := Lib.hid ha2
  obtain ⟨b, o, rfl, hb, hc⟩ := h.byte (k := 7) (by omega)
  have d7 : w.cell? ⟨b, o + 7, none⟩ = some (.int .u8 (y.toNat : Int)) := by
    have := hc 7 (by omega)
    rw [List.getElem?_eq_getElem (by omega)] at hy
    injection hy with hy
    rw [hy] at this
    exact this
  have D := fun ob => (World.cell?_alloc_lt w ob ⟨b, o + 7, none⟩ hb).trans d7
  have hy8 := y.toNat_lt
  have s7 := fun ob => run_str ((h.take (k := 7) (by omega) c (by omega) h.2.2.1).alloc (Nat.le_refl _) ob)
  rw [hq] at s7
  have hs : str head7 = { data := #[0, 1, 8, 0, 6, 4, 0] } := rfl
  rw [hs] at s7
  have i8 : ¬ c = 8 := by omega
  have i14 : ¬ c = 14 := by omega
  have i18 : ¬ c = 18 := by omega
  have i24 : ¬ c = 24 := by omega
  have h8 := h.drop (k := 8) (by omega)
  have h14 := h.drop (k := 14) (by omega)
  have h18 := h.drop (k := 18) (by omega)
  have h24 := h.drop (k := 24) (by omega)
  rw [if_neg i8] at h8
  rw [if_neg i14] at h14
  rw [if_neg i18] at h18
  rw [if_neg i24] at h24
  have G := fun ob => Ext.cell (M := fun k => w.heap.size ≤ k) (w := (w.alloc ob).drew) (D ob) (by omega)
  have hyx : IntKind.i64.wrap (y.toNat : Int) = (y.toNat : Int) := IntWalk.i64_in _ (by omega)
  have GC := G (.cells (pz 0) 55)
  clear G hc d7 hy hq e1 hs hm1 ha1 hm2 ha2 h
  generalize y.toNat = k at *
  have b0 : Below w.heap.size w (w.alloc (.cells (pz 0) 55)).drew := ((Below.refl _ w).alloc (Nat.le_refl _) _).drew
  rcases hyy with rfl | rfl
  all_goals
    go_enter Try.func29, Try.ntmps29
    go_upto_region 5 with fail
    refine rg_begin (fun k => w.heap.size ≤ k) (by kernel_rfl) ?_
    refine rg_take (v := ?_) 0 rfl (by kernel_rfl) (by kernel_rfl) (by kernel_rfl) (fun _ _ _ h => h) (by rfl) ?_ ?_; rotate_left
    · (intro x hx; go_simp; first | done | with_reducible rfl | (rw [if_pos (by omega)]; try with_reducible rfl))
    try simp only [Act.put, List.setIfInBounds_toArray, List.set_cons_zero, List.set_cons_succ]
    refine rg_take (v := ?_) 1 rfl (by kernel_rfl) (by kernel_rfl) (by kernel_rfl) (fun _ _ _ h => h) (by rfl) ?_ ?_; rotate_left
    · (intro x hx; go_simp; first | done | with_reducible rfl | (rw [if_pos (by omega)]; try with_reducible rfl))
    try simp only [Act.put, List.setIfInBounds_toArray, List.set_cons_zero, List.set_cons_succ]
    refine rg_take (v := ?_) 2 rfl (by kernel_rfl) (by kernel_rfl) (by kernel_rfl) (fun _ _ _ h => h) (by rfl) ?_ ?_; rotate_left
    · (intro x hx; go_simp; first | done | with_reducible rfl | (rw [if_pos (by omega)]; try with_reducible rfl))
    try simp only [Act.put, List.setIfInBounds_toArray, List.set_cons_zero, List.set_cons_succ]
    refine rg_take (v := ?_) 3 rfl (by kernel_rfl) (by kernel_rfl) (by kernel_rfl) (fun _ _ _ h => h) (by rfl) ?_ ?_; rotate_left
    · (intro x hx; go_simp; first | done | with_reducible rfl | (rw [if_pos (by omega)]; try with_reducible rfl))
    try simp only [Act.put, List.setIfInBounds_toArray, List.set_cons_zero, List.set_cons_succ]
    refine rg_take (v := ?_) 4 rfl (by kernel_rfl) (by kernel_rfl) (by kernel_rfl) (fun _ _ _ h => h) (by rfl) ?_ ?_; rotate_left
    · (intro x hx; go_simp; first | done | with_reducible rfl | (rw [if_pos (by omega)]; try with_reducible rfl))
    try simp only [Act.put, List.setIfInBounds_toArray, List.set_cons_zero, List.set_cons_succ]
    refine rg_take (v := ?_) 5 rfl (by kernel_rfl) (by kernel_rfl) (by kernel_rfl) (fun _ _ _ h => h) (by rfl) ?_ ?_; rotate_left
    · (intro x hx; go_simp; first | done | with_reducible rfl | (rw [if_pos (by omega)]; try with_reducible rfl))
    try simp only [Act.put, List.setIfInBounds_toArray, List.set_cons_zero, List.set_cons_succ]
    refine rg_take (v := ?_) 7 rfl (by kernel_rfl) (by kernel_rfl) (by kernel_rfl) (fun _ _ _ h => h) (by rfl) ?_ ?_; rotate_left
    · (intro x hx; go_simp; first | done | with_reducible rfl | (rw [if_pos (by omega)]; try with_reducible rfl))
    try simp only [Act.put, List.setIfInBounds_toArray, List.set_cons_zero, List.set_cons_succ]
    refine rg_take (v := ?_) 8 rfl (by kernel_rfl) (by kernel_rfl) (by kernel_rfl) (fun _ _ _ h => h) (by rfl) ?_ ?_; rotate_left
    · (intro x hx; go_simp; first | done | with_reducible rfl | (rw [if_pos (by omega)]; try with_reducible rfl))
    try simp only [Act.put, List.setIfInBounds_toArray, List.set_cons_zero, List.set_cons_succ]
    refine rg_take (v := ?_) 10 rfl (by kernel_rfl) (by kernel_rfl) (by kernel_rfl) (fun _ _ _ h => h) (by rfl) ?_ ?_; rotate_left
    · (intro x hx; go_simp; first | done | with_reducible rfl | (rw [if_pos (by omega)]; try with_reducible rfl))
    try simp only [Act.put, List.setIfInBounds_toArray, List.set_cons_zero, List.set_cons_succ]
    refine rg_take (v := ?_) 11 rfl (by kernel_rfl) (by kernel_rfl) (by kernel_rfl) (fun _ _ _ h => h) (by rfl) ?_ ?_; rotate_left
    · (intro x hx; go_simp; first | done | with_reducible rfl | (rw [if_pos (by omega)]; try with_reducible rfl))
    try simp only [Act.put, List.setIfInBounds_toArray, List.set_cons_zero, List.set_cons_succ]
    refine rg_take (v := ?_) 13 rfl (by kernel_rfl) (by kernel_rfl) (by kernel_rfl) (fun _ _ _ h => h) (by rfl) ?_ ?_; rotate_left
    · (intro x hx; go_simp; first | done | with_reducible rfl | (rw [if_pos (by omega)]; try with_reducible rfl))
    try simp only [Act.put, List.setIfInBounds_toArray, List.set_cons_zero, List.set_cons_succ]
    refine rg_take (v := ?_) 14 rfl (by kernel_rfl) (by kernel_rfl) (by kernel_rfl) (fun _ _ _ h => h) (by rfl) ?_ ?_; rotate_left
    · (intro x hx; go_simp; first | done | with_reducible rfl | (rw [if_pos (by omega)]; try with_reducible rfl))
    try simp only [Act.put, List.setIfInBounds_toArray, List.set_cons_zero, List.set_cons_succ]
    refine rg_step 6 rfl (by kernel_rfl) (by rfl) (fun K hK => ?_)
    go_simp
    refine (rfmac_any _ _ (n - 8) (c - 8) (l.drop 8) ((h8.below b0).more (by simp)) (by omega) (by omega)).mono ?_
    rintro e w1 ⟨rfl, hb1⟩
    rw [HM1.out]
    have b1 := b0.trans (hb1.mono (by simp))
    refine hK.out _ _ (Ext.below_all _ hb1) ?_
    clear hK K; try simp only [Act.put, List.setIfInBounds_toArray, List.set_cons_zero, List.set_cons_succ]
    refine rg_step 9 rfl (by kernel_rfl) (by rfl) (fun K hK => ?_)
    go_simp
    refine (rfaddr_any _ _ (n - 14) (c - 14) (l.drop 14) ((h14.below b1).more b1.size) (by omega) (by omega)).mono ?_
    rintro e w2 ⟨rfl, hb2⟩
    rw [HA1.out]
    have b2 := b1.trans (hb2.mono b1.size)
    refine hK.out _ _ (Ext.below_all _ hb2) ?_
    clear hK K; try simp only [Act.put, List.setIfInBounds_toArray, List.set_cons_zero, List.set_cons_succ]
    refine rg_step 12 rfl (by kernel_rfl) (by rfl) (fun K hK => ?_)
    go_simp
    refine (rfmac_any _ _ (n - 18) (c - 18) (l.drop 18) ((h18.below b2).more b2.size) (by omega) (by omega)).mono ?_
    rintro e w3 ⟨rfl, hb3⟩
    rw [HM2.out]
    have b3 := b2.trans (hb3.mono b2.size)
    refine hK.out _ _ (Ext.below_all _ hb3) ?_
    clear hK K; try simp only [Act.put, List.setIfInBounds_toArray, List.set_cons_zero, List.set_cons_succ]
    refine rg_step 15 rfl (by kernel_rfl) (by rfl) (fun K hK => ?_)
    go_simp
    refine (rfaddr_any _ _ (n - 24) (c - 24) (l.drop 24) ((h24.below b3).more b3.size) (by omega) (by omega)).mono ?_
    rintro e w4 ⟨rfl, hb4⟩
    rw [HA2.out]
    have b4 := b3.trans (hb4.mono b3.size)
    have z1 := hb1.size
    have z2 := hb2.size
    have z3 := hb3.size
    simp at z1
    have R4 : w4.heap[w.heap.size]? = some (.cells (pz 0) 55 (0, 0)) := below_at hb4 (below_at hb3 (below_at hb2 (below_at hb1 (heap_alloc_at rfl) (by simp)) (by omega)) (by omega)) (by omega)
    refine hK.out _ _ (Ext.below_all _ hb4) ?_
    clear hK K; try simp only [Act.put, List.setIfInBounds_toArray, List.set_cons_zero, List.set_cons_succ]
    refine rg_take (v := ?_) 16 rfl (by kernel_rfl) (by kernel_rfl) (by kernel_rfl) (fun _ _ _ h => h) (by rfl) ?_ ?_; rotate_left
    · (intro x hx; go_simp; first | done | with_reducible rfl | (rw [if_pos (by omega)]; try with_reducible rfl))
    try simp only [Act.put, List.setIfInBounds_toArray, List.set_cons_zero, List.set_cons_succ]
    refine rg_step 17 rfl (by kernel_rfl) (by rfl) (fun K hK => ?_)
    --RAW
    apply wp_store_part 55
    case ho => exact rfl
    case hx => exact rfl
    case hy => exact rfl
    case hg => exact R4
    case hle => simp
    case hi => kernel_rfl
    case h1 => kernel_rfl
    intro w5 g5 R5
    refine hK.out _ _ (Ext.of_grown g5 fun k hk => by injection hk with e; omega) ?_
    clear hK K; try simp only [Act.put, List.setIfInBounds_toArray, List.set_cons_zero, List.set_cons_succ]
    refine rg_take (v := ?_) 18 rfl (by kernel_rfl) (by kernel_rfl) (by kernel_rfl) (fun _ _ _ h => h) (by rfl) ?_ ?_; rotate_left
    · (intro x hx; go_simp; first | done | with_reducible rfl | (rw [if_pos (by omega)]; try with_reducible rfl))
    try simp only [Act.put, List.setIfInBounds_toArray, List.set_cons_zero, List.set_cons_succ]
    refine rg_done (by kernel_rfl) ?_
    have R5' : w5.heap[w.heap.size]? = some (.cells (pkC ⟨_, m1, a1, m2, a2⟩) 55 (0, 0)) := R5
    have q5 := below_grown b4 g5 b4.size (by omega)
    clear R5 R4 g5
    go_wp2_with fail
    refine bodyPost_cell_tmp w.heap.size _ _ _ rfl rfl R5' Try.underlying55 rfl (by kernel_rfl) rfl ?_
    exact ⟨rfl, q5⟩
theorem rget5_any (w : World) (A : Option Addr) (n c : Nat) (l : List UInt8) (h : BS w w.heap.size A n c l) (hmx : n ≤ 1099511627776) :
    Calls Try.prog 29 #[.slice A n c] w (PkPost w (getPk l)) := by
  by_cases hn : n < 28
  · exact rget5_short w A n c l h hn
  · by_cases hf : (l.take 6 = head6 ∧ (beN ((l.drop 6).take 2) = 1 ∨ beN ((l.drop 6).take 2) = 2))
    · exact rget5_ok w A n c l h (by omega) hmx hf
    · exact rget5_form w A n c l h (by omega) hmx hf
end Go.Proofs.Ytjmeehmbccilkaa
