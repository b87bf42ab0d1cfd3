/-
  Contracts of the client's send, begin, again.
-/
import Derived.Test.YtjpmfmmgmlnanaaLs4
namespace Go.Proofs.Ytjpmfmmgmlnanaa
open Go.RowKit

def CMPost (w : World) (g : Nat) (c' : Cl) (ms : Option (Hd × List Ob)) (e : Ending) (w' : World) : Prop := ∃ v, e = .returned v ∧ CB w' g c' ∧ w.grownBy w' (some g) ∧ Msl w' w.heap.size v ms
def CTPost (w : World) (g : Nat) (r : Cl × Bool) : Ending → World → Prop := CMPost w g r.1 (if r.2 = true then some r.1.msg else none)
theorem CMPost.behind {w w1 w' : World} {g : Nat} {c' : Cl} {ms : Option (Hd × List Ob)} {e : Ending} (hg : w.grownBy w1 (some g)) (h : CMPost w1 g c' ms e w') : CMPost w g c' ms e w' := by
  obtain ⟨v, he, hc, h1, h2⟩ := h
  refine ⟨v, he, hc, grown_trans hg h1, ?_⟩
  match ms, h2 with
  | none, h2 => exact h2
  | some m, ⟨b, A, n, c, l, e, hb, hp, ho, hl⟩ => exact ⟨b, A, n, c, l, e, Nat.le_trans hg.size hb, hp, ho.lower hg.size, hl⟩

set_option maxHeartbeats 2000000 in
theorem csend_any (w : World) (g : Nat) (c : Cl) (h : CB w g c) (now wait : Int) (h0 : 0 ≤ c.sends) (h1 : c.sends ≤ 4611686018427387904) :
    Calls Try.prog 31 #[.pointer (some ⟨g, 0, none⟩), .int .i64 now, .int .i64 wait] w (CMPost w g (c.send now wait) (some (c.send now wait).msg)) := by
  go_enter Try.func31, Try.ntmps31
  go_wp2_with (((with_reducible apply at_store_one 2); (case hx => exact rfl); (case hy => exact rfl); (case hg => exact h); (case hle => simp); (case hv => rfl); (case hi => kernel_rfl); (case h1 => rfl); (intro w1 g1 P1; replace P1 := Lib.hid P1)); (refine Hid.out ?_))
  refine Lib.hid ?_
  have P1' : CB w1 g { c with sent := now } := P1.out
  clear h P1
  go_wp2_with (((with_reducible apply at_store_one 2); (case hx => exact rfl); (case hy => exact rfl); (case hg => exact P1'); (case hle => simp); (case hv => rfl); (case hi => kernel_rfl); (case h1 => rfl); (intro w2 g2 P2; replace P2 := Lib.hid P2)); (refine Hid.out ?_))
  refine Lib.hid ?_
  have P2' : CB w2 g { c with sent := now, wait := wait } := P2.out
  clear P1' P2
  obtain ⟨hc, _⟩ := cells_of P2'
  have d37 : w2.cell? ⟨g, 37, none⟩ = some (.int .i64 c.sends) := hc 37
  clear hc
  go_wp2_with (((with_reducible apply at_store_one 3); (case hx => exact rfl); (case hy => exact rfl); (case hg => exact P2'); (case hle => simp); (case hv => rfl); (case hi => kernel_rfl); (case h1 => rfl); (intro w3 g3 P3; replace P3 := Lib.hid P3)); (refine Hid.out ?_))
  refine Lib.hid ?_
  have P3' : CB w3 g (c.send now wait) := P3.out
  clear P2' P3 d37
  go_wp2_with fail
  refine (cmsg_any w3 g _ P3').mono ?_
  rintro e w4 ⟨v, rfl, hm, hb4⟩
  go_wp2_with fail
  go_ret
  have gg := grown_trans (grown_trans g1 g2) g3
  refine CMPost.behind gg ⟨v, rfl, P3'.below hb4, grown_of_below _ hb4, hm⟩

set_option maxHeartbeats 2000000 in
theorem cbegin_any (w : World) (g : Nat) (c : Cl) (h : CB w g c) (st now wait : Int) :
    Calls Try.prog 21 #[.pointer (some ⟨g, 0, none⟩), .int .i64 st, .int .i64 now, .int .i64 wait] w (CMPost w g (c.start st now wait) (some (c.start st now wait).msg)) := by
  go_enter Try.func21, Try.ntmps21
  go_wp2_with (((with_reducible apply at_store_one 3); (case hx => exact rfl); (case hy => exact rfl); (case hg => exact h); (case hle => simp); (case hv => rfl); (case hi => kernel_rfl); (case h1 => rfl); (intro w1 g1 P1; replace P1 := Lib.hid P1)); (refine Hid.out ?_))
  refine Lib.hid ?_
  have P1' : CB w1 g { c with state := st } := P1.out
  clear h P1
  go_wp2_with (((with_reducible apply at_store_one 3); (case hx => exact rfl); (case hy => exact rfl); (case hg => exact P1'); (case hle => simp); (case hv => rfl); (case hi => kernel_rfl); (case h1 => rfl); (intro w2 g2 P2; replace P2 := Lib.hid P2)); (refine Hid.out ?_))
  refine Lib.hid ?_
  have P2' : CB w2 g { c with state := st, sends := 0 } := P2.out
  clear P1' P2
  go_wp2_with fail
  refine (csend_any w2 g _ P2' now wait (by simp) (by simp)).mono ?_
  rintro e w3 ⟨v, rfl, hc3, g3, hm⟩
  go_wp2_with fail
  go_ret
  exact CMPost.behind (grown_trans g1 g2) ⟨v, rfl, hc3, g3, hm⟩

theorem CTPost.no {w w' : World} {g : Nat} {c' : Cl} (hc : CB w' g c') (hg : w.grownBy w' (some g)) : CTPost w g (c', false) (.returned (.slice none 0 0)) w' := ⟨_, rfl, hc, hg, rfl⟩
theorem grown_drew_refl (w : World) (r : Option Nat) : w.grownBy w.drew r := grown_drew (World.grownBy.refl w r)

set_option maxRecDepth 100000 in
set_option maxHeartbeats 4000000 in
theorem cagain_any (w : World) (g : Nat) (c : Cl) (h : CB w g c) (now : Int) (hn0 : 0 ≤ now) (hn1 : now ≤ 1099511627776) (k : c.ok) :
    Calls Try.prog 23 #[.pointer (some ⟨g, 0, none⟩), .int .i64 now] w (CTPost w g (c.again now)) := by
  obtain ⟨r, hr⟩ : ∃ r, c.again now = r := ⟨_, rfl⟩
  rw [hr]
  have HR := Lib.hid hr
  clear hr
  have k1 := k.sent0
  have k2 := k.sent1
  have k3 := k.wait0
  have k4 := k.wait1
  have k5 := k.sends0
  have k6 := k.sends1
  have hcs := Ext.cells (w := w.drew) (M := fun _ => False) h (fun h => h)
  have e1 : IntKind.i64.wrap (now - c.sent) = now - c.sent := IntWalk.i64_in _ (by omega)
  have HC : CB w.drew g c := h
  have HCH := Lib.hid HC
  have gl := heap_lt h
  obtain ⟨hc, _⟩ := cells_of HC
  have d6 : w.drew.cell? ⟨g, 6, none⟩ = some (.int .i64 c.state) := hc 6
  have d36 : w.drew.cell? ⟨g, 36, none⟩ = some (.int .i64 c.wait) := hc 36
  have d37 : w.drew.cell? ⟨g, 37, none⟩ = some (.int .i64 c.sends) := hc 37
  have D6 := Lib.hid d6
  have D36 := Lib.hid d36
  have D37 := Lib.hid d37
  clear hc h HC d6 d36 d37 k
  by_cases h1 : now - c.sent < c.wait
  · have t1 : decide (now - c.sent < c.wait) = true := decide_eq_true h1
    have hr := HR.out
    rw [Cl.again, if_pos h1] at hr
    have HR' := Lib.hid hr
    clear hr HR
    go_enter Try.func23, Try.ntmps23
    go_wp2_with fail
    refine rg_begin (fun _ => False) (by kernel_rfl) ?_
    refine rg_take (v := ?_) 0 rfl (by kernel_rfl) (by kernel_rfl) (by kernel_rfl) (fun _ _ _ h => h) (by rfl) ?_ ?_; rotate_left
    · (intro x hx; go_simp; first | done | with_reducible rfl | (rw [if_pos (by omega)]; try with_reducible rfl) | (rw [if_neg (by omega)]; try with_reducible rfl))
    try simp only [Act.put, List.setIfInBounds_toArray, List.set_cons_zero, List.set_cons_succ]
    refine rg_take (v := ?_) 1 rfl (by kernel_rfl) (by kernel_rfl) (by kernel_rfl) (fun _ _ _ h => h) (by rfl) ?_ ?_; rotate_left
    · (intro x hx; go_simp; first | done | with_reducible rfl | (rw [if_pos (by omega)]; try with_reducible rfl) | (rw [if_neg (by omega)]; try with_reducible rfl))
    try simp only [Act.put, List.setIfInBounds_toArray, List.set_cons_zero, List.set_cons_succ]
    refine rg_take (v := ?_) 2 rfl (by kernel_rfl) (by kernel_rfl) (by kernel_rfl) (fun _ _ _ h => h) (by rfl) ?_ ?_; rotate_left
    · (intro x hx; go_simp; first | done | with_reducible rfl | (rw [if_pos (by omega)]; try with_reducible rfl) | (rw [if_neg (by omega)]; try with_reducible rfl))
    try simp only [Act.put, List.setIfInBounds_toArray, List.set_cons_zero, List.set_cons_succ]
    refine rg_take (v := ?_) 3 rfl (by kernel_rfl) (by kernel_rfl) (by kernel_rfl) (fun _ _ _ h => h) (by rfl) ?_ ?_; rotate_left
    · (intro x hx; go_simp; first | done | with_reducible rfl | (rw [if_pos (by omega)]; try with_reducible rfl) | (rw [if_neg (by omega)]; try with_reducible rfl))
    try simp only [Act.put, List.setIfInBounds_toArray, List.set_cons_zero, List.set_cons_succ]
    refine rg_take (v := ?_) 4 rfl (by kernel_rfl) (by kernel_rfl) (by kernel_rfl) (fun _ _ _ h => h) (by rfl) ?_ ?_; rotate_left
    · (intro x hx; go_simp; first | done | with_reducible rfl | (rw [if_pos (by omega)]; try with_reducible rfl) | (rw [if_neg (by omega)]; try with_reducible rfl))
    try simp only [Act.put, List.setIfInBounds_toArray, List.set_cons_zero, List.set_cons_succ]
    refine rg_take (v := ?_) 5 rfl (by kernel_rfl) (by kernel_rfl) (by kernel_rfl) (fun _ _ _ h => h) (by rfl) ?_ ?_; rotate_left
    · (intro x hx; go_simp; first | done | with_reducible rfl | (rw [if_pos (by omega)]; try with_reducible rfl) | (rw [if_neg (by omega)]; try with_reducible rfl))
    try simp only [Act.put, List.setIfInBounds_toArray, List.set_cons_zero, List.set_cons_succ]
    refine rg_take (v := ?_) 6 rfl (by kernel_rfl) (by kernel_rfl) (by kernel_rfl) (fun _ _ _ h => h) (by rfl) ?_ ?_; rotate_left
    · (intro x hx; go_simp; first | done | with_reducible rfl | (rw [if_pos (by omega)]; try with_reducible rfl) | (rw [if_neg (by omega)]; try with_reducible rfl))
    try simp only [Act.put, List.setIfInBounds_toArray, List.set_cons_zero, List.set_cons_succ]
    refine rg_take (v := ?_) 7 rfl (by kernel_rfl) (by kernel_rfl) (by kernel_rfl) (fun _ _ _ h => h) (by rfl) ?_ ?_; rotate_left
    · (intro x hx; go_simp; first | done | with_reducible rfl | (rw [if_pos (by omega)]; try with_reducible rfl) | (rw [if_neg (by omega)]; try with_reducible rfl))
    try simp only [Act.put, List.setIfInBounds_toArray, List.set_cons_zero, List.set_cons_succ]
    refine rg_take (v := ?_) 8 rfl (by kernel_rfl) (by kernel_rfl) (by kernel_rfl) (fun _ _ _ h => h) (by rfl) ?_ ?_; rotate_left
    · (intro x hx; go_simp; first | done | with_reducible rfl | (rw [if_pos (by omega)]; try with_reducible rfl) | (rw [if_neg (by omega)]; try with_reducible rfl))
    try simp only [Act.put, List.setIfInBounds_toArray, List.set_cons_zero, List.set_cons_succ]
    refine rg_take (v := ?_) 9 rfl (by kernel_rfl) (by kernel_rfl) (by kernel_rfl) (fun _ _ _ h => h) (by rfl) ?_ ?_; rotate_left
    · (intro x hx; go_simp; first | done | with_reducible rfl | (rw [if_pos (by omega)]; try with_reducible rfl) | (rw [if_neg (by omega)]; try with_reducible rfl))
    try simp only [Act.put, List.setIfInBounds_toArray, List.set_cons_zero, List.set_cons_succ]
    refine rg_take (v := ?_) 10 rfl (by kernel_rfl) (by kernel_rfl) (by kernel_rfl) (fun _ _ _ h => h) (by rfl) ?_ ?_; rotate_left
    · (intro x hx; go_simp; first | done | with_reducible rfl | (rw [if_pos (by omega)]; try with_reducible rfl) | (rw [if_neg (by omega)]; try with_reducible rfl))
    try simp only [Act.put, List.setIfInBounds_toArray, List.set_cons_zero, List.set_cons_succ]
    refine rg_take (v := ?_) 11 rfl (by kernel_rfl) (by kernel_rfl) (by kernel_rfl) (fun _ _ _ h => h) (by rfl) ?_ ?_; rotate_left
    · (intro x hx; go_simp; first | done | with_reducible rfl | (rw [if_pos (by omega)]; try with_reducible rfl) | (rw [if_neg (by omega)]; try with_reducible rfl))
    try simp only [Act.put, List.setIfInBounds_toArray, List.set_cons_zero, List.set_cons_succ]
    refine rg_done (by kernel_rfl) ?_
    clear hcs e1
    go_wp2_with fail
    go_ret
    rw [← HR'.out]
    exact CTPost.no HCH.out (grown_drew_refl w _)
  · have t1 : decide (now - c.sent < c.wait) = false := decide_eq_false h1
    have hr := HR.out
    rw [Cl.again, if_neg h1] at hr
    have HR' := Lib.hid hr
    clear hr HR
    go_enter Try.func23, Try.ntmps23
    go_wp2_with fail
    refine rg_begin (fun _ => False) (by kernel_rfl) ?_
    refine rg_take (v := ?_) 0 rfl (by kernel_rfl) (by kernel_rfl) (by kernel_rfl) (fun _ _ _ h => h) (by rfl) ?_ ?_; rotate_left
    · (intro x hx; go_simp; first | done | with_reducible rfl | (rw [if_pos (by omega)]; try with_reducible rfl) | (rw [if_neg (by omega)]; try with_reducible rfl))
    try simp only [Act.put, List.setIfInBounds_toArray, List.set_cons_zero, List.set_cons_succ]
    refine rg_take (v := ?_) 1 rfl (by kernel_rfl) (by kernel_rfl) (by kernel_rfl) (fun _ _ _ h => h) (by rfl) ?_ ?_; rotate_left
    · (intro x hx; go_simp; first | done | with_reducible rfl | (rw [if_pos (by omega)]; try with_reducible rfl) | (rw [if_neg (by omega)]; try with_reducible rfl))
    try simp only [Act.put, List.setIfInBounds_toArray, List.set_cons_zero, List.set_cons_succ]
    refine rg_take (v := ?_) 2 rfl (by kernel_rfl) (by kernel_rfl) (by kernel_rfl) (fun _ _ _ h => h) (by rfl) ?_ ?_; rotate_left
    · (intro x hx; go_simp; first | done | with_reducible rfl | (rw [if_pos (by omega)]; try with_reducible rfl) | (rw [if_neg (by omega)]; try with_reducible rfl))
    try simp only [Act.put, List.setIfInBounds_toArray, List.set_cons_zero, List.set_cons_succ]
    refine rg_take (v := ?_) 3 rfl (by kernel_rfl) (by kernel_rfl) (by kernel_rfl) (fun _ _ _ h => h) (by rfl) ?_ ?_; rotate_left
    · (intro x hx; go_simp; first | done | with_reducible rfl | (rw [if_pos (by omega)]; try with_reducible rfl) | (rw [if_neg (by omega)]; try with_reducible rfl))
    try simp only [Act.put, List.setIfInBounds_toArray, List.set_cons_zero, List.set_cons_succ]
    refine rg_take (v := ?_) 4 rfl (by kernel_rfl) (by kernel_rfl) (by kernel_rfl) (fun _ _ _ h => h) (by rfl) ?_ ?_; rotate_left
    · (intro x hx; go_simp; first | done | with_reducible rfl | (rw [if_pos (by omega)]; try with_reducible rfl) | (rw [if_neg (by omega)]; try with_reducible rfl))
    try simp only [Act.put, List.setIfInBounds_toArray, List.set_cons_zero, List.set_cons_succ]
    refine rg_take (v := ?_) 5 rfl (by kernel_rfl) (by kernel_rfl) (by kernel_rfl) (fun _ _ _ h => h) (by rfl) ?_ ?_; rotate_left
    · (intro x hx; go_simp; first | done | with_reducible rfl | (rw [if_pos (by omega)]; try with_reducible rfl) | (rw [if_neg (by omega)]; try with_reducible rfl))
    try simp only [Act.put, List.setIfInBounds_toArray, List.set_cons_zero, List.set_cons_succ]
    refine rg_take (v := ?_) 6 rfl (by kernel_rfl) (by kernel_rfl) (by kernel_rfl) (fun _ _ _ h => h) (by rfl) ?_ ?_; rotate_left
    · (intro x hx; go_simp; first | done | with_reducible rfl | (rw [if_pos (by omega)]; try with_reducible rfl) | (rw [if_neg (by omega)]; try with_reducible rfl))
    try simp only [Act.put, List.setIfInBounds_toArray, List.set_cons_zero, List.set_cons_succ]
    refine rg_take (v := ?_) 7 rfl (by kernel_rfl) (by kernel_rfl) (by kernel_rfl) (fun _ _ _ h => h) (by rfl) ?_ ?_; rotate_left
    · (intro x hx; go_simp; first | done | with_reducible rfl | (rw [if_pos (by omega)]; try with_reducible rfl) | (rw [if_neg (by omega)]; try with_reducible rfl))
    try simp only [Act.put, List.setIfInBounds_toArray, List.set_cons_zero, List.set_cons_succ]
    refine rg_take (v := ?_) 8 rfl (by kernel_rfl) (by kernel_rfl) (by kernel_rfl) (fun _ _ _ h => h) (by rfl) ?_ ?_; rotate_left
    · (intro x hx; go_simp; first | done | with_reducible rfl | (rw [if_pos (by omega)]; try with_reducible rfl) | (rw [if_neg (by omega)]; try with_reducible rfl))
    try simp only [Act.put, List.setIfInBounds_toArray, List.set_cons_zero, List.set_cons_succ]
    refine rg_take (v := ?_) 9 rfl (by kernel_rfl) (by kernel_rfl) (by kernel_rfl) (fun _ _ _ h => h) (by rfl) ?_ ?_; rotate_left
    · (intro x hx; go_simp; first | done | with_reducible rfl | (rw [if_pos (by omega)]; try with_reducible rfl) | (rw [if_neg (by omega)]; try with_reducible rfl))
    try simp only [Act.put, List.setIfInBounds_toArray, List.set_cons_zero, List.set_cons_succ]
    refine rg_take (v := ?_) 10 rfl (by kernel_rfl) (by kernel_rfl) (by kernel_rfl) (fun _ _ _ h => h) (by rfl) ?_ ?_; rotate_left
    · (intro x hx; go_simp; first | done | with_reducible rfl | (rw [if_pos (by omega)]; try with_reducible rfl) | (rw [if_neg (by omega)]; try with_reducible rfl))
    try simp only [Act.put, List.setIfInBounds_toArray, List.set_cons_zero, List.set_cons_succ]
    refine rg_take (v := ?_) 11 rfl (by kernel_rfl) (by kernel_rfl) (by kernel_rfl) (fun _ _ _ h => h) (by rfl) ?_ ?_; rotate_left
    · (intro x hx; go_simp; first | done | with_reducible rfl | (rw [if_pos (by omega)]; try with_reducible rfl) | (rw [if_neg (by omega)]; try with_reducible rfl))
    try simp only [Act.put, List.setIfInBounds_toArray, List.set_cons_zero, List.set_cons_succ]
    refine rg_done (by kernel_rfl) ?_
    clear hcs e1
    have gd := grown_drew_refl w (some g)
    generalize w.drew = w1 at D6 D36 D37 HCH gd ⊢
    by_cases h2 : c.state = 2 ∧ 4 ≤ c.sends
    · have hr := HR'.out
      rw [if_pos h2] at hr
      have HR2 := Lib.hid hr
      have d6 := D6.out
      rw [h2.1] at d6
      have d37 := D37.out
      have t2 : decide (4 ≤ c.sends) = true := decide_eq_true h2.2
      clear hr HR'
      go_wp2_with (((with_reducible apply at_store_one 3); (case hx => exact rfl); (case hy => exact rfl); (case hg => exact HCH.out); (case hle => simp); (case hv => rfl); (case hi => kernel_rfl); (case h1 => rfl); (intro w2 g2 P2; replace P2 := Lib.hid P2)); (refine Hid.out ?_))
      refine Lib.hid ?_
      have P2' : CB w2 g { c with state := 0 } := P2.out
      clear P2 d6 d37
      go_wp2_with fail
      go_ret
      rw [← HR2.out]
      exact CTPost.no P2' (grown_trans gd g2)
    · have hr := HR'.out
      rw [if_neg h2] at hr
      have HR2 := Lib.hid hr
      clear hr HR'
      have e2 : IntKind.i64.wrap (2 * c.wait) = 2 * c.wait := IntWalk.i64_in _ (by omega)
      by_cases h3 : c.state = 1 ∨ c.state = 2
      · have hr := HR2.out
        rw [if_pos h3] at hr
        have HR3 := Lib.hid hr
        clear hr HR2
        have d36 := D36.out
        rcases h3 with h3 | h3
        · have d6 := D6.out
          rw [h3] at d6
          clear h3 h2
          by_cases hm : 2 * c.wait ≤ 64
          · have HE := Lib.hid (show min (2 * c.wait) 64 = 2 * c.wait by omega)
            go_wp2_with fail
            refine (csend_any w1 g c HCH.out now _ k5 k6).mono ?_
            rintro e w2 ⟨v, rfl, hc2, g2, hm2⟩
            go_wp2_with fail
            go_ret
            rw [← HR3.out, HE.out]
            exact CMPost.behind gd ⟨v, rfl, hc2, g2, hm2⟩
          · have HE := Lib.hid (show min (2 * c.wait) 64 = 64 by omega)
            have hm' : 64 < 2 * c.wait := by omega
            go_wp2_with fail
            refine (csend_any w1 g c HCH.out now _ k5 k6).mono ?_
            rintro e w2 ⟨v, rfl, hc2, g2, hm2⟩
            go_wp2_with fail
            go_ret
            rw [← HR3.out, HE.out]
            exact CMPost.behind gd ⟨v, rfl, hc2, g2, hm2⟩
        · have d6 := D6.out
          rw [h3] at d6
          have d37 := D37.out
          have t2 : decide (4 ≤ c.sends) = false := decide_eq_false (fun hh => h2 ⟨h3, hh⟩)
          clear h3 h2
          by_cases hm : 2 * c.wait ≤ 64
          · have HE := Lib.hid (show min (2 * c.wait) 64 = 2 * c.wait by omega)
            go_wp2_with fail
            refine (csend_any w1 g c HCH.out now _ k5 k6).mono ?_
            rintro e w2 ⟨v, rfl, hc2, g2, hm2⟩
            go_wp2_with fail
            go_ret
            rw [← HR3.out, HE.out]
            exact CMPost.behind gd ⟨v, rfl, hc2, g2, hm2⟩
          · have HE := Lib.hid (show min (2 * c.wait) 64 = 64 by omega)
            have hm' : 64 < 2 * c.wait := by omega
            go_wp2_with fail
            refine (csend_any w1 g c HCH.out now _ k5 k6).mono ?_
            rintro e w2 ⟨v, rfl, hc2, g2, hm2⟩
            go_wp2_with fail
            go_ret
            rw [← HR3.out, HE.out]
            exact CMPost.behind gd ⟨v, rfl, hc2, g2, hm2⟩
      · have hr := HR2.out
        rw [if_neg h3] at hr
        have HR3 := Lib.hid hr
        clear hr HR2 h2
        have d6 := D6.out
        have t2 : (c.state == 2) = false := by rw [beq_eq_false_iff_ne]; exact fun e => h3 (.inr e)
        have t3 : (c.state == 1) = false := by rw [beq_eq_false_iff_ne]; exact fun e => h3 (.inl e)
        clear h3
        go_wp2_with fail
        refine (csend_any w1 g c HCH.out now _ k5 k6).mono ?_
        rintro e w2 ⟨v, rfl, hc2, g2, hm2⟩
        go_wp2_with fail
        go_ret
        rw [← HR3.out]
        exact CMPost.behind gd ⟨v, rfl, hc2, g2, hm2⟩
end Go.Proofs.Ytjpmfmmgmlnanaa
