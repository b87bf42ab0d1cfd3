/-
  Contracts: slices.Equal over bytes, dhcp's cookie, within, good, Type, addr.Of.
-/
import Derived.Test.YtidohmcneoldcaaDh1
namespace Go.Proofs.Ytidohmcneoldcaa
open Go.RowKit

theorem OB.made (w : World) (g : Nat) (l : List UInt8) (H : Nat) (hg : w.heap.size = g) (hH : H ≤ g) (hl : l.length ≤ maxLen) (cs : Array Value) (hc : cs = (bv l).toArray) :
    OB (w.alloc (.cells cs 5)) H (some ⟨g, 0, none⟩) l.length l.length l := by
  subst hc hg
  refine ⟨rfl, by simp [bv_length], .inr ⟨w.heap.size, l.length, (bv l).toArray, rfl, hH, heap_alloc_new w _, Nat.le_refl _, hl, ?_, ?_⟩⟩
  · simp [bv_length]
  · simp [← bv_length]

theorem take_step {α : Type} (l l' : List α) (j : Nat) (x : α) (h : l.take j = l'.take j) (hx : l[j]? = some x) (hy : l'[j]? = some x) : l.take (j + 1) = l'.take (j + 1) := by
  rw [List.take_add_one, List.take_add_one, h, hx, hy]

set_option maxHeartbeats 400000 in
theorem eq8_ne (w : World) (A : Option Addr) (n c : Nat) (A' : Option Addr) (n' c' : Nat) (hn : n ≠ n') :
    Calls Try.prog 58 #[.slice A n c, .slice A' n' c'] w (ValPost w (.bool false)) := by
  go_enter Try.func58, Try.ntmps58
  go_wp2_with fail
  go_ret
  exact ⟨rfl, by go_grown⟩

set_option maxRecDepth 100000 in
set_option maxHeartbeats 1000000 in
theorem eq8_len (w : World) (A : Option Addr) (n c : Nat) (l : List UInt8) (A' : Option Addr) (c' : Nat) (l' : List UInt8) (h : BS w w.heap.size A n c l) (h' : BS w w.heap.size A' n c' l') :
    Calls Try.prog 58 #[.slice A n c, .slice A' n c'] w (ValPost w (.bool (l == l'))) := by
  have hnc : n ≤ 9223372036854775807 := by have h1 := h.2.1; have h2 := h.2.2.1; unfold maxLen at h2; omega
  go_enter Try.func58, Try.ntmps58
  go_wp2_with fail
  go_loopw [13] (fun i wr => ∃ j : Nat, j ≤ n ∧ i = .int .i64 j ∧ l.take j = l'.take j ∧ Below w.heap.size w wr) (fun i _ => n - (intOf i).toNat)
  case atStart => exact ⟨0, Nat.zero_le _, rfl, rfl, Below.refl _ _⟩
  case round =>
    obtain ⟨j, hj, rfl, ht, hq⟩ := hrel
    by_cases hlt : j < n
    · have hl : j < l.length := by have := h.1; omega
      have hl' : j < l'.length := by have := h'.1; omega
      obtain ⟨b, o, rfl, hb, hc⟩ := ((h.below hq).2.2.2).at_ (bv_get l j hl)
      obtain ⟨b', o', rfl, hb', hc'⟩ := ((h'.below hq).2.2.2).at_ (bv_get l' j hl')
      obtain ⟨x, hx⟩ : ∃ x, l[j] = x := ⟨_, rfl⟩
      obtain ⟨y, hy⟩ : ∃ y, l'[j] = y := ⟨_, rfl⟩
      have hx1 : l[j]? = some x := by rw [List.getElem?_eq_getElem hl, hx]
      have hy1 : l'[j]? = some y := by rw [List.getElem?_eq_getElem hl', hy]
      rw [hx] at hc
      rw [hy] at hc'
      clear hx hy
      have g0 := Ext.cell (w := wr.drew) (M := fun _ => False) hc (fun h => h)
      have g1 := Ext.cell (w := wr.drew) (M := fun _ => False) hc' (fun h => h)
      have hjn : (0 : Int) ≤ (j : Int) ∧ (j : Int) < (n : Int) := ⟨by omega, by omega⟩
      have T := Lib.hid ht
      have X := Lib.hid hx1
      have Y := Lib.hid hy1
      clear ht hx1 hy1 hl hl'
      go_upto_region 6 with fail
      refine rg_begin (fun _ => False) (by kernel_rfl) ?_
      refine rg_take (v := ?_) 0 rfl (by kernel_rfl) (by kernel_rfl) (by kernel_rfl) (fun _ _ _ h => h) (by rfl) ?_ ?_; rotate_left
      · (intro x hx; go_simp; first | done | with_reducible rfl | (rw [if_pos (by omega)]; try with_reducible rfl) | (rw [if_neg (by omega)]; try with_reducible rfl))
      try simp only [Act.put, List.setIfInBounds_toArray, List.set_cons_zero, List.set_cons_succ]
      refine rg_take (v := ?_) 1 rfl (by kernel_rfl) (by kernel_rfl) (by kernel_rfl) (fun _ _ _ h => h) (by rfl) ?_ ?_; rotate_left
      · (intro x hx; go_simp; first | done | with_reducible rfl | (rw [if_pos (by omega)]; try with_reducible rfl) | (rw [if_neg (by omega)]; try with_reducible rfl))
      try simp only [Act.put, List.setIfInBounds_toArray, List.set_cons_zero, List.set_cons_succ]
      refine rg_take (v := ?_) 2 rfl (by kernel_rfl) (by kernel_rfl) (by kernel_rfl) (fun _ _ _ h => h) (by rfl) ?_ ?_; rotate_left
      · (intro x hx; go_simp; first | done | with_reducible rfl | (rw [if_pos (by omega)]; try with_reducible rfl) | (rw [if_neg (by omega)]; try with_reducible rfl))
      try simp only [Act.put, List.setIfInBounds_toArray, List.set_cons_zero, List.set_cons_succ]
      refine rg_take (v := ?_) 3 rfl (by kernel_rfl) (by kernel_rfl) (by kernel_rfl) (fun _ _ _ h => h) (by rfl) ?_ ?_; rotate_left
      · (intro x hx; go_simp; first | done | with_reducible rfl | (rw [if_pos (by omega)]; try with_reducible rfl) | (rw [if_neg (by omega)]; try with_reducible rfl))
      try simp only [Act.put, List.setIfInBounds_toArray, List.set_cons_zero, List.set_cons_succ]
      refine rg_take (v := ?_) 4 rfl (by kernel_rfl) (by kernel_rfl) (by kernel_rfl) (fun _ _ _ h => h) (by rfl) ?_ ?_; rotate_left
      · (intro x hx; go_simp; first | done | with_reducible rfl | (rw [if_pos (by omega)]; try with_reducible rfl) | (rw [if_neg (by omega)]; try with_reducible rfl))
      try simp only [Act.put, List.setIfInBounds_toArray, List.set_cons_zero, List.set_cons_succ]
      refine rg_take (v := ?_) 5 rfl (by kernel_rfl) (by kernel_rfl) (by kernel_rfl) (fun _ _ _ h => h) (by rfl) ?_ ?_; rotate_left
      · (intro x hx; go_simp; first | done | with_reducible rfl | (rw [if_pos (by omega)]; try with_reducible rfl) | (rw [if_neg (by omega)]; try with_reducible rfl))
      try simp only [Act.put, List.setIfInBounds_toArray, List.set_cons_zero, List.set_cons_succ]
      refine rg_take (v := ?_) 6 rfl (by kernel_rfl) (by kernel_rfl) (by kernel_rfl) (fun _ _ _ h => h) (by rfl) ?_ ?_; rotate_left
      · (intro x hx; go_simp; first | done | with_reducible rfl | (rw [if_pos (by omega)]; try with_reducible rfl) | (rw [if_neg (by omega)]; try with_reducible rfl))
      try simp only [Act.put, List.setIfInBounds_toArray, List.set_cons_zero, List.set_cons_succ]
      refine rg_take (v := ?_) 7 rfl (by kernel_rfl) (by kernel_rfl) (by kernel_rfl) (fun _ _ _ h => h) (by rfl) ?_ ?_; rotate_left
      · (intro x hx; go_simp; first | done | with_reducible rfl | (rw [if_pos (by omega)]; try with_reducible rfl) | (rw [if_neg (by omega)]; try with_reducible rfl))
      try simp only [Act.put, List.setIfInBounds_toArray, List.set_cons_zero, List.set_cons_succ]
      refine rg_take (v := ?_) 8 rfl (by kernel_rfl) (by kernel_rfl) (by kernel_rfl) (fun _ _ _ h => h) (by rfl) ?_ ?_; rotate_left
      · (intro x hx; go_simp; first | done | with_reducible rfl | (rw [if_pos (by omega)]; try with_reducible rfl) | (rw [if_neg (by omega)]; try with_reducible rfl))
      try simp only [Act.put, List.setIfInBounds_toArray, List.set_cons_zero, List.set_cons_succ]
      refine rg_done (by kernel_rfl) ?_
      by_cases hxy : x = y
      · subst hxy
        go_wp2_with fail
        go_roundw
        case rel => exact ⟨j + 1, by omega, by go_num, take_step l l' j x T.out X.out Y.out, hq.drew⟩
        case measure => simp [intOf]; omega
      · have hne : (x.toNat : Int) ≠ (y.toNat : Int) := fun e => hxy (UInt8.toNat_inj.1 (by omega))
        go_wp2_with fail
        go_ret
        have : (l == l') = false := by
          rw [beq_eq_false_iff_ne]
          intro e
          have h1 := X.out
          rw [e, Y.out] at h1
          injection h1 with h1
          exact hxy h1.symm
        exact ⟨by rw [this]; rfl, hq.drew⟩
    · go_wp2_with fail
      go_ret
      have : l = l' := by
        have h1 : l.take j = l := List.take_of_length_le (by have := h.1; omega)
        have h2 : l'.take j = l' := List.take_of_length_le (by have := h'.1; omega)
        rw [← h1, ← h2, ht]
      exact ⟨by rw [this]; simp, hq⟩
theorem eq8_any (w : World) (A : Option Addr) (n c : Nat) (l : List UInt8) (A' : Option Addr) (n' c' : Nat) (l' : List UInt8) (h : BS w w.heap.size A n c l) (h' : BS w w.heap.size A' n' c' l') :
    Calls Try.prog 58 #[.slice A n c, .slice A' n' c'] w (ValPost w (.bool (l == l'))) := by
  by_cases hn : n = n'
  · subst hn
    exact eq8_len w A n c l A' c' l' h h'
  · have : (l == l') = false := by
      rw [beq_eq_false_iff_ne]
      intro e
      have h1 := h.1
      have h2 := h'.1
      rw [e] at h1
      omega
    rw [this]
    exact eq8_ne w A n c A' n' c' hn

set_option maxHeartbeats 400000 in
theorem cookie_any (w : World) : Calls Try.prog 49 #[] w (OwnPost w cook) := by
  go_enter Try.func49, Try.ntmps49
  go_wp2_with fail
  go_ret
  exact ⟨some ⟨w.heap.size, 0, none⟩, 4, 4, rfl, OB.made w _ cook _ rfl (Nat.le_refl _) (by simp [cook, maxLen]) _ rfl, by go_grown⟩

set_option maxHeartbeats 400000 in
theorem within_any (w : World) (v m : Int) : Calls Try.prog 46 #[.int .i64 v, .int .i64 m] w (fun e w' => e = .returned (.bool (decide (0 ≤ v ∧ v ≤ m))) ∧ w = w') := by
  by_cases h0 : 0 ≤ v
  · by_cases h1 : v ≤ m
    · rw [decide_eq_true (And.intro h0 h1)]
      go_enter Try.func46, Try.ntmps46
      go_wp2_with fail
      go_ret
      exact ⟨rfl, rfl⟩
    · rw [decide_eq_false (fun h => h1 h.2)]
      go_enter Try.func46, Try.ntmps46
      go_wp2_with fail
      go_ret
      exact ⟨rfl, rfl⟩
  · rw [decide_eq_false (fun h => h0 h.1)]
    go_enter Try.func46, Try.ntmps46
    go_wp2_with fail
    go_ret
    exact ⟨rfl, rfl⟩

theorem aof_any (w : World) (n : Int) (h0 : 0 ≤ n) (h1 : n < 4294967296) :
    Calls Try.prog 45 #[.int .u32 n] w (ValPost w (adV (of4 n))) := by
  have e1 := bN_val (n / 16777216)
  have e2 := bN_val (n / 65536)
  have e3 := bN_val (n / 256)
  have e4 := bN_val n
  go_enter Try.func45, Try.ntmps45
  go_wp2_with ((with_reducible apply at_store_new 39); (case hx => exact rfl); (case hy => exact rfl); (case hg => first | rfl | simp); (case hi => kernel_rfl); (case hold => rfl); (case h1 => kernel_rfl))
  refine bodyPost_cell w.heap.size _ _ _ rfl rfl (heap_alloc_at rfl) Try.underlying39 rfl (by kernel_rfl) rfl ⟨?_, by go_grown⟩
  have e1' : ((bN (n / 16777216)).toNat : Int) = n / 16777216 := by omega
  show _ = Ending.returned (.agg #[.int .u8 ((bN (n / 16777216)).toNat : Int), .int .u8 ((bN (n / 65536)).toNat : Int), .int .u8 ((bN (n / 256)).toNat : Int), .int .u8 ((bN n).toNat : Int)])
  rw [e1', e2, e3, e4]

theorem one_of (b : List UInt8) (h : b.length = 1) : ∃ x, b = [x] := by
  match b, h with
  | [x], _ => exact ⟨x, rfl⟩

set_option maxRecDepth 100000 in
set_option maxHeartbeats 1000000 in
theorem type_any (w : World) (h : Hd) (A : Option Addr) (n c : Nat) (l : List Op1) (ho : OS w w.heap.size A n c l) (hB : ∀ o ∈ l, o.body.length ≤ 1099511627776) :
    Calls Try.prog 27 #[msV h A n c] w (ValPost w (.int .i64 (typeO (obs l)))) := by
  have et : typeO (obs l) = typeB (fdB l 53) := by rw [typeO, ← fdB_obs]
  rw [et]
  clear et
  obtain ⟨r, hr⟩ : ∃ r, typeB (fdB l 53) = r := ⟨_, rfl⟩
  rw [hr]
  have HR := Lib.hid hr
  clear hr
  have b0 : Below w.heap.size w (w.alloc (.cells (msC h A n c) 56)) := (Below.refl _ w).alloc (Nat.le_refl _) _
  have os1 := (ho.below b0).more b0.size
  go_enter Try.func27, Try.ntmps27
  go_wp2_with fail
  refine (find_any _ A n c l 53 os1 hB).mono ?_
  rintro e w1 ⟨A1, n1, c1, rfl, ho1, hb1⟩
  have q1 := b0.trans (hb1.mono (by simp))
  have hn1 := ho1.1
  by_cases h1 : n1 = 1
  · subst h1
    obtain ⟨x, hx⟩ := one_of _ hn1.symm
    rw [hx] at ho1
    have HX := Lib.hid (show typeB [x] = r by rw [← hx]; exact HR.out)
    obtain ⟨b, o, rfl, hb, hc⟩ := ho1.bs.byte (k := 0) (by omega)
    have g0 : w1.cell? ⟨b, o, none⟩ = some (.int .u8 (x.toNat : Int)) := hc 0 (by simp)
    have hx8 := x.toNat_lt
    have hxx : 0 ≤ (x.toNat : Int) ∧ (x.toNat : Int) < 256 := by omega
    clear hc ho1 hb1 hx hn1 os1 b0 HR
    by_cases h2 : 1 ≤ x.toNat
    · by_cases h3 : x.toNat ≤ 8
      · have d2 : decide ((x.toNat : Int) < 1) = false := decide_eq_false (by omega)
        have d3 : decide ((8 : Int) < (x.toNat : Int)) = false := decide_eq_false (by omega)
        go_wp2_with fail
        go_ret
        have hr := HX.out
        rw [typeB_one, if_pos (show 1 ≤ x.toNat ∧ x.toNat ≤ 8 from ⟨h2, h3⟩)] at hr
        exact ⟨by rw [← hr]; rfl, q1⟩
      · go_wp2_with fail
        go_ret
        have hr := HX.out
        rw [typeB_one, if_neg (fun hh => h3 hh.2)] at hr
        exact ⟨by rw [← hr]; rfl, q1⟩
    · go_wp2_with fail
      go_ret
      have hr := HX.out
      rw [typeB_one, if_neg (fun hh => h2 hh.1)] at hr
      exact ⟨by rw [← hr]; rfl, q1⟩
  · have HX := Lib.hid (show 0 = r by rw [← HR.out, typeB_len _ (by omega)])
    clear hn1 ho1 HR
    go_wp2_with fail
    go_ret
    exact ⟨by rw [← HX.out]; rfl, q1⟩
end Go.Proofs.Ytidohmcneoldcaa
