/-
  The reference's value: a device kept.
-/
import Derived.Test.YtnmdiageigbphaaGreatDoorRv1
import Derived.Laws.OwnMore
namespace Go.Proofs.YtnmdiageigbphaaGreatDoor
section
open Go.RowKit
variable {P : Program} {ops : Array Oper} {Q : Exit → Act → World → Prop} {md : Region.Mode} {M : Nat → Prop}
/-- Three operations may come up. -/
theorem rg_three {oi ok ol : Oper} {fuel : Nat} {listed : Array Bool} {a : Act} {w : World} (i k l : Nat) (hi' : ops.toList[i]? = some oi) (hk' : ops.toList[k]? = some ok) (hl' : ops.toList[l]? = some ol)
    (hr : Region.ready md ops listed = [i, k, l]) (hwi : Region.wanted oi (yielded ops a.tmps) = true) (hwk : Region.wanted ok (yielded ops a.tmps) = true) (hwl : Region.wanted ol (yielded ops a.tmps) = true)
    (h1 : ∀ K : Act → World → Prop, Shut (∀ a' w', Ext M w w' → wpAnyH P md ops Q (fun x => Ext M w' x) fuel (listed.setIfInBounds i true) a' w' → K a' w') → Oper.wp P oi a w K Q)
    (h2 : ∀ K : Act → World → Prop, Shut (∀ a' w', Ext M w w' → wpAnyH P md ops Q (fun x => Ext M w' x) fuel (listed.setIfInBounds k true) a' w' → K a' w') → Oper.wp P ok a w K Q)
    (h3 : ∀ K : Act → World → Prop, Shut (∀ a' w', Ext M w w' → wpAnyH P md ops Q (fun x => Ext M w' x) fuel (listed.setIfInBounds l true) a' w' → K a' w') → Oper.wp P ol a w K Q) :
    wpAnyH P md ops Q (fun x => Ext M w x) (fuel + 1) listed a w := by
  have hi : ops[i]? = some oi := by rw [← Array.getElem?_toList]; exact hi'
  have hk : ops[k]? = some ok := by rw [← Array.getElem?_toList]; exact hk'
  have hl : ops[l]? = some ol := by rw [← Array.getElem?_toList]; exact hl'
  refine wpAnyH_all hr (by simp) fun j hj => ?_
  have hj' : j = i ∨ j = k ∨ j = l := by simpa using hj
  rcases hj' with e | e | e
  all_goals subst e
  · have h1 := h1 (fun a' w' => Ext M w w' ∧ wpAnyH P md ops Q (fun x => Ext M w x) fuel (listed.setIfInBounds j true) a' w')
      (fun a' w' hg hW => ⟨hg, wpAnyH_mono (fun x hx => hg.trans (by exact hx)) fuel _ _ _ hW⟩)
    unfold wpOp
    simp only [hi, hwi, if_true]
    exact .inl h1
  · have h1 := h2 (fun a' w' => Ext M w w' ∧ wpAnyH P md ops Q (fun x => Ext M w x) fuel (listed.setIfInBounds j true) a' w')
      (fun a' w' hg hW => ⟨hg, wpAnyH_mono (fun x hx => hg.trans (by exact hx)) fuel _ _ _ hW⟩)
    unfold wpOp
    simp only [hk, hwk, if_true]
    exact .inl h1
  · have h1 := h3 (fun a' w' => Ext M w w' ∧ wpAnyH P md ops Q (fun x => Ext M w x) fuel (listed.setIfInBounds j true) a' w')
      (fun a' w' hg hW => ⟨hg, wpAnyH_mono (fun x hx => hg.trans (by exact hx)) fuel _ _ _ hW⟩)
    unfold wpOp
    simp only [hl, hwl, if_true]
    exact .inl h1
end
section
open Go.RowKit
/-- append(own row of structs, another's row), at one operation. -/
theorem wp_appN {w : World} {o : Oper} {a : Act} {Kk : Act → World → Prop} {Q : Exit → Act → World → Prop} (s x : Operand) (T t : TypeId) (K B : Nat) (z : Value) (hT : Tryz.prog.underlying T = some (.slice t))
    (hI : (Tryz.prog.info? t).map (fun i => (i.zero, i.size, i.bytes)) = some (some z, K, B)) (hz : z.cells.size = K) (hK : 0 < K) (hB : B ≤ 1000)
    (ho : o.op = .call { callee := .builtin .append, args := #[s, x], argTypes := #[T, T] })
    (H : Nat) (A : Option Addr) (n c k : Nat) (l : List Value) (hs : a.eval s = .slice A n c) (hown : TO w H t K A n c k l)
    (H1 : Nat) (A1 : Option Addr) (n1 c1 k1 : Nat) (l1 : List Value) (hx : a.eval x = .slice A1 n1 c1) (hsrc : TO w H1 t K A1 n1 c1 k1 l1) (h1 : ∀ u ∈ l1, u.oneCell' = true)
    (hlen : k + k1 ≤ 1000000) (hbase : H ≤ w.heap.size)
    (h : ∀ A' c' w', TO w' H t K A' (n + n1) c' (k + k1) (l ++ l1) → Below H w w' → w.grownBy w' (Value.slice A n c).ownBlock → Kk (a.put o.dst (.slice A' (n + n1) c')) w') : o.wp Tryz.prog a w Kk Q := by
  obtain ⟨i0, hi, hz0, hz1, hz2⟩ := info_parts hI
  obtain ⟨rfl, hown⟩ := hown
  obtain ⟨rfl, hsrc⟩ := hsrc
  rcases hsrc.2 with ⟨hv, h0⟩ | ⟨g1, cap1, cur, hv, _⟩
  · injection hv with e1 e2 e3
    subst e1 e2 e3
    have hl0 : l1 = [] := List.length_eq_zero_iff.1 (by rw [hsrc.1]; omega)
    subst hl0
    have hrun := run_append_owned_none (P := Tryz.prog) w H T o.type t i0 K hT hi (.slice A n c) n l hown
    unfold Oper.wp execOp
    simp only [ho, resolve, invoke, builtin, Sem.run_bind, Sem.run_pure, Result.andThen_ok, List.map_toArray, List.map_cons, List.map_nil, hs, hx, hrun]
    exact h A c w ⟨rfl, by rw [List.append_nil]; exact hown⟩ (Below.refl _ _) (World.grownBy.refl w _)
  · injection hv with e1 e2 e3
    subst e1 e3
    obtain ⟨v', w', hrun, h2, h3, _, h5⟩ := run_append_own_at (P := Tryz.prog) w H T o.type t i0 z K B hT hi hz0 hz1 hz2 hz hK _ n l hown ⟨g1, 0, none⟩ n1 c1
      l1 hsrc.1 (fun j u hu => by
        rw [Addr.add_lit, Nat.zero_add, hsrc.cellAt j (by rw [← hsrc.1]; exact (List.getElem?_eq_some_iff.1 hu).1)]
        exact hu) h1 (by unfold maxLen; omega)
      (by have : (n + n1) * B ≤ 1000000 * 1000 := Nat.mul_le_mul hlen hB; omega) hbase
    have hform : ∃ A' c', v' = Value.slice A' (n + n1) c' := by
      rcases h2.2 with ⟨hv, h0⟩ | ⟨g', cap, _, hv, _⟩
      · exact ⟨none, 0, by rw [hv, h0]⟩
      · exact ⟨_, _, hv⟩
    obtain ⟨A', c', rfl⟩ := hform
    unfold Oper.wp execOp
    simp only [ho, resolve, invoke, builtin, Sem.run_bind, Sem.run_pure, Result.andThen_ok, List.map_toArray, List.map_cons, List.map_nil, hs, hx, hrun]
    exact h A' c' w' ⟨rfl, h2⟩ ((Below.refl H w).grown h3 hbase fun k hk => (hown.lt k hk).1) h3
theorem fxL_one (l : List Fx) : ∀ u ∈ fxL l, u.oneCell' = true := by
  intro u hu
  obtain ⟨f, _, hf⟩ := List.mem_flatMap.1 hu
  simp at hf
  rcases hf with rfl | rfl | rfl | rfl | rfl | rfl | rfl | rfl | rfl | rfl <;> rfl
theorem opL_one (l : List Opn) : ∀ u ∈ opL l, u.oneCell' = true := by
  intro u hu
  obtain ⟨f, _, hf⟩ := List.mem_flatMap.1 hu
  simp at hf
  rcases hf with rfl | rfl | rfl | rfl | rfl | rfl | rfl <;> rfl
/-- The reference's configuration at block g, its rows its own. -/
abbrev RFO (w : World) (H : Nat) (A : Option Addr) (n c : Nat) (l : List Fx) : Prop := TO w H 71 10 A n c l.length (fxL l)
abbrev RPO (w : World) (H : Nat) (A : Option Addr) (n c : Nat) (l : List Opn) : Prop := TO w H 72 7 A n c l.length (opL l)
abbrev RCB (w : World) (g : Nat) (c : Cf) (vf vo : Value) : Prop := w.heap[g]? = some (.cells (cfC c vf vo) 40 (0, 0))
theorem TO.new {w : World} {H K n c k : Nat} {t : TypeId} {A : Option Addr} {l : List Value} (h : TO w H t K A n c k l) {g1 : Nat} (hg : w.heap.size ≤ g1) : some g1 ≠ (Value.slice A n c).ownBlock := fun e => by
  have := (h.lt _ e.symm).2
  omega
theorem old_ne {w : World} {g0 g1 n c : Nat} {o : Obj} (hg0 : w.heap.size = g0) (R : w.heap[g1]? = some o) : some g1 ≠ (Value.slice (some ⟨g0, 0, none⟩) n c).ownBlock := fun e => by
  have h1 := heap_lt R
  have h2 : g1 = g0 := by simpa [Value.ownBlock] using e
  omega
theorem TO.low {w : World} {H B K n c k : Nat} {t : TypeId} {A : Option Addr} {l : List Value} (h : TO w B t K A n c k l) (hHB : H ≤ B) : TO w H t K A n c k l := by
  refine ⟨h.1, h.2.1, ?_⟩
  rcases h.2.2 with hn | ⟨g, cap, cur, hv, hb, rest⟩
  · exact .inl hn
  · exact .inr ⟨g, cap, cur, hv, Nat.le_trans hHB hb, rest⟩
theorem rfo_end {w : World} {H B n c : Nat} {A : Option Addr} {lf : List Fx} {f : Fx} (hHB : H ≤ B) (E : TO w B 71 10 A n c (lf.length + 1) (fxL lf ++ (fxC f).toList)) : RFO w H A n c (lf ++ [f]) := by
  have e := (E.low hHB).2
  rw [← fxL_snoc] at e
  exact ⟨by rw [E.1]; simp, e⟩
theorem rpo_end {w : World} {H B n c : Nat} {A : Option Addr} {lo : List Opn} {f : Opn} (hHB : H ≤ B) (E : TO w B 72 7 A n c (lo.length + 1) (opL lo ++ (opC f).toList)) : RPO w H A n c (lo ++ [f]) := by
  have e := (E.low hHB).2
  rw [← opL_snoc] at e
  exact ⟨by rw [E.1]; simp, e⟩
theorem Ext.old {w w' : World} {g B : Nat} (h : Ext (fun j => j = g ∨ B ≤ j) w w') (hB : w.heap.size ≤ B) : Ext (fun j => j = g) w w' :=
  ⟨h.os, h.tape, h.output, h.size, fun k hk hn => h.block k hk (by rintro (e | e); exact hn e; omega)⟩
def RvF (w : World) (H g : Nat) (c : Cf) (vo : Value) (l : List Fx) (b : Bool) (e : Ending) (w' : World) : Prop :=
  ∃ A n k, e = .returned (.bool b) ∧ RCB w' g c (.slice A n k) vo ∧ RFO w' H A n k l ∧ Ext (fun j => j = g) w w'
set_option maxRecDepth 100000 in
set_option maxHeartbeats 4000000 in
theorem rval_fixed_no (w : World) (g : Nat) (c : Cf) (vf vo : Value) (P : RCB w g c vf vo) (v : List UInt8) (hl : v.length ≤ 20000) (h2 : (words v).length ≠ 2) :
    Calls Tryz.prog 24 #[.pointer (some ⟨g, 0, none⟩), .string (str nFixed), .string (str v)] w (RvP w g c vf vo false) := by
  have x0 : ((str nFixed).toList == [108, 97, 110]) = false := by rw [toList_str]; rfl
  have x1 : ((str nFixed).toList == [108, 97, 110, 109, 97, 99]) = false := by rw [toList_str]; rfl
  have x2 : ((str nFixed).toList == [119, 97, 110, 109, 97, 99]) = false := by rw [toList_str]; rfl
  have x3 : ((str nFixed).toList == [102, 105, 114, 115, 116]) = false := by rw [toList_str]; rfl
  have x4 : ((str nFixed).toList == [108, 97, 115, 116]) = false := by rw [toList_str]; rfl
  have x5 : ((str nFixed).toList == [100, 110, 115]) = false := by rw [toList_str]; rfl
  have x6 : ((str nFixed).toList == [102, 105, 120, 101, 100]) = true := by rw [toList_str]; rfl
  have hgl := heap_lt P
  go_enter Tryz.func24, Tryz.ntmps24
  go_wp2_with fail
  refine (rwords_any w v (by omega)).mono ?_
  rintro e w1 ⟨A, n, cc, rfl, ho, q1⟩
  have P1 := below_at q1 P hgl
  have e1 := Ext.below_all (fun j => j = g) q1
  have hn : (n : Int) ≠ 2 := by have := ho.1; omega
  clear P q1 hgl ho h2
  go_wp2_with fail
  go_ret
  exact ⟨rfl, P1, e1⟩
set_option maxRecDepth 100000 in
set_option maxHeartbeats 16000000 in
theorem rval_fixed (w : World) (g H : Nat) (hH : H ≤ w.heap.size) (c : Cf) (vo : Value) (A : Option Addr) (n k : Nat) (lf : List Fx) (P : RCB w g c (.slice A n k) vo) (F : RFO w H A n k lf) (hlf : lf.length ≤ 100000) (v : List UInt8) (hl : v.length ≤ 20000) (h2 : (words v).length = 2) :
    Calls Tryz.prog 24 #[.pointer (some ⟨g, 0, none⟩), .string (str nFixed), .string (str v)] w
      (RvF w H g c vo (lf ++ [⟨(parseMV ((words v).getD 0 [])).1, (parseV ((words v).getD 1 [])).1⟩]) (decide ((parseMV ((words v).getD 0 [])).2 = 0) && decide ((parseV ((words v).getD 1 [])).2 = 0))) := by
  have x0 : ((str nFixed).toList == [108, 97, 110]) = false := by rw [toList_str]; rfl
  have x1 : ((str nFixed).toList == [108, 97, 110, 109, 97, 99]) = false := by rw [toList_str]; rfl
  have x2 : ((str nFixed).toList == [119, 97, 110, 109, 97, 99]) = false := by rw [toList_str]; rfl
  have x3 : ((str nFixed).toList == [102, 105, 114, 115, 116]) = false := by rw [toList_str]; rfl
  have x4 : ((str nFixed).toList == [108, 97, 115, 116]) = false := by rw [toList_str]; rfl
  have x5 : ((str nFixed).toList == [100, 110, 115]) = false := by rw [toList_str]; rfl
  have x6 : ((str nFixed).toList == [102, 105, 120, 101, 100]) = true := by rw [toList_str]; rfl
  have hwd := rwords_any w v (by omega)
  have hlen : ∀ i, i < 2 → ((words v).getD i []).length ≤ 20000 := fun i hi => Nat.le_trans (words_mem v _ (List.mem_iff_getElem?.2 ⟨i, getD_some [] (by omega)⟩)) hl
  obtain ⟨L, hL⟩ : ∃ L, words v = L := ⟨_, rfl⟩
  rw [hL] at hwd hlen h2 ⊢
  obtain ⟨m, b1, hx, hb, hp⟩ := rmac_xb (L.getD 0 []) (hlen 0 (by decide))
  obtain ⟨x, b2, hx2, hb2, hq⟩ := rparse_xb (L.getD 1 []) (hlen 1 (by decide))
  rw [← hx, ← hb, ← hx2, ← hb2]
  have hgl := heap_lt P
  clear hx hb hx2 hb2 hL hlen
  go_enter Tryz.func24, Tryz.ntmps24
  go_wp2_with fail
  refine hwd.mono ?_
  rintro e w1 ⟨AW, nw, cc, rfl, ho, q1⟩
  have P1 : RCB w1 g c (.slice A n k) vo := below_at q1 P hgl
  have F1 := F.below q1
  have e1 := Ext.below_all (fun j => j = g) q1
  have hH1 : H ≤ w1.heap.size := by have := q1.size; omega
  obtain ⟨bb, o, rfl, hbl, hc0⟩ := ho.at_ (getD_some [] (show 0 < L.length by omega))
  obtain ⟨_, _, ee, _, hc1⟩ := ho.at_ (getD_some [] (show 1 < L.length by omega))
  obtain ⟨rfl, rfl⟩ : bb = _ ∧ o = _ := by injection ee with ee; injection ee with ee e2; exact ⟨ee, e2⟩
  have hn : nw = 2 := by have := ho.1; omega
  subst hn
  obtain ⟨p0, hp0⟩ : ∃ p, L.getD 0 [] = p := ⟨_, rfl⟩
  obtain ⟨p1, hp1⟩ : ∃ p, L.getD 1 [] = p := ⟨_, rfl⟩
  rw [hp0, Nat.add_zero] at hc0
  rw [hp1] at hc1
  rw [hp0] at hp
  rw [hp1] at hq
  have HC1 := Lib.hid hc1
  clear P F q1 hwd hgl ho h2 hp0 hp1 ee hc1
  go_wp2_with fail
  refine (hp w1).mono ?_
  rintro e w2 ⟨rfl, q2⟩
  have P2 : RCB w2 g c (.slice A n k) vo := below_at q2 P1 (heap_lt P1)
  have F2 := F1.below q2
  have e2 := e1.trans (Ext.below_all _ q2)
  have hH2 : H ≤ w2.heap.size := by have := q2.size; omega
  have c2 : w2.cell? ⟨bb, o + 1, none⟩ = some (.string (str p1)) := (World.cell?_of_block (w := w1) (a := ⟨bb, o + 1, none⟩) (q2.block bb hbl)).trans HC1.out
  have hbl2 : bb < w2.heap.size := by have := q2.size; omega
  clear P1 F1 q2 e1 hp hc0 HC1 hbl hH1
  go_upto_region 35 with ((with_reducible apply at_store_new 28); (case hx => exact rfl); (case hy => exact rfl); (case hg => first | rfl | simp); (case hi => kernel_rfl); (case hold => rfl); (case h1 => kernel_rfl))
  have q3 : Below w2.heap.size w2 (w2.alloc (.cells (maC m) 28)) := (Below.refl _ w2).alloc (Nat.le_refl _) _
  have P3 : RCB (w2.alloc (.cells (maC m) 28)) g c (.slice A n k) vo := below_at q3 P2 (heap_lt P2)
  have F3 := F2.below q3
  have X3 := heap_alloc_new w2 (.cells (maC m) 28)
  have e3 := e2.trans (Ext.below_all _ q3)
  have hH3 : H ≤ (w2.alloc (.cells (maC m) 28)).heap.size := by have := q3.size; omega
  have c3 : (w2.alloc (.cells (maC m) 28)).cell? ⟨bb, o + 1, none⟩ = some (.string (str p1)) := (World.cell?_of_block (w := w2) (a := ⟨bb, o + 1, none⟩) (q3.block bb hbl2)).trans c2
  obtain ⟨gm, hgm⟩ : ∃ y, w2.heap.size = y := ⟨_, rfl⟩
  have hne : gm ≠ g := by have := heap_lt P2; omega
  rw [hgm] at X3 ⊢
  generalize w2.alloc (.cells (maC m) 28) = w3 at P3 F3 X3 e3 c3 hH3 ⊢
  clear q3 P2 F2 e2 c2 hbl2 hgm hH2
  have HP3 := Lib.hid P3
  have HX3 := Lib.hid X3
  clear P3 X3
  go_wp2_with fail
  refine (hq w3).mono ?_
  rintro e w4 ⟨rfl, q4⟩
  have P4 : RCB w4 g c (.slice A n k) vo := below_at q4 HP3.out (heap_lt HP3.out)
  have F4 := F3.below q4
  have X4 := below_at q4 HX3.out (heap_lt HX3.out)
  have e4 := e3.trans (Ext.below_all _ q4)
  have hH4 : H ≤ w4.heap.size := by have := q4.size; omega
  clear F3 q4 e3 hq c3 HP3 HX3 hH3
  go_upto_region 36 with ((with_reducible apply at_store_new 24); (case hx => exact rfl); (case hy => exact rfl); (case hg => first | rfl | simp); (case hi => kernel_rfl); (case hold => rfl); (case h1 => kernel_rfl))
  have q5 : Below w4.heap.size w4 (w4.alloc (.cells (adC x) 24)) := (Below.refl _ w4).alloc (Nat.le_refl _) _
  have P : RCB (w4.alloc (.cells (adC x) 24)) g c (.slice A n k) vo := below_at q5 P4 (heap_lt P4)
  have F := F4.below q5
  have XM := below_at q5 X4 (heap_lt X4)
  have XA := heap_alloc_new w4 (.cells (adC x) 24)
  have e5 := e4.trans (Ext.below_all _ q5)
  have hH5 : H ≤ (w4.alloc (.cells (adC x) 24)).heap.size := by have := q5.size; omega
  obtain ⟨ga, hga⟩ : ∃ y, w4.heap.size = y := ⟨_, rfl⟩
  have hne2 : ga ≠ g := by have := heap_lt P4; omega
  rw [hga] at XA ⊢
  generalize w4.alloc (.cells (adC x) 24) = w5 at P F XM XA e5 hH5 ⊢
  clear q5 P4 F4 X4 e4 hga hH4
  obtain ⟨B, hB⟩ : ∃ B, w5.heap.size = B := ⟨_, rfl⟩
  have hgm : gm < B := by have := heap_lt XM; omega
  have hga : ga < B := by have := heap_lt XA; omega
  have hgB : g < B := by have := heap_lt P; omega
  have KM := Ext.at_ (w := w5.drew) (M := fun j => j = g ∨ B ≤ j) XM (by omega)
  have KA := Ext.at_ (w := w5.drew) (M := fun j => j = g ∨ B ≤ j) XA (by omega)
  have e6 : Ext (fun j => j = g) w w5.drew := e5.drew
  replace P : RCB w5.drew g c (.slice A n k) vo := P
  replace F : RFO w5.drew H A n k lf := F.below (Below.refl _ _).drew
  have hB2 : B ≤ w5.drew.heap.size := by rw [← hB]; exact Nat.le_refl _
  have hHB : H ≤ B := by omega
  have e6' := e6.more (M' := fun j => j = g ∨ B ≤ j) (fun _ h => .inl h)
  have HWB := Lib.hid (show w.heap.size ≤ B by have := e5.size; omega)
  have HHB := Lib.hid hHB
  clear XM XA e5 hH5 hB e6 hHB
  refine rg_begin (fun j => j = g ∨ B ≤ j) (by kernel_rfl) ?_
  generalize hww : w5.drew = wn at P F KM KA hB2 e6' ⊢
  have e6 := e6'
  clear hww e6'
  have kA := (cells_of P).1 38
  refine rg_take (v := ?_) 0 rfl (by kernel_rfl) (by kernel_rfl) (by kernel_rfl) (fun _ _ _ h => h) (by rfl) ?_ ?_; rotate_left
  · (intro x hx; go_simp; first | done | with_reducible rfl | (rw [if_pos (by omega)]; try with_reducible rfl) | (rw [if_neg (by omega)]; try with_reducible rfl))
  try simp only [Act.put, List.setIfInBounds_toArray, List.set_cons_zero, List.set_cons_succ]
  refine rg_take (v := ?_) 2 rfl (by kernel_rfl) (by kernel_rfl) (by kernel_rfl) (fun _ _ _ h => h) (by rfl) ?_ ?_; rotate_left
  · (intro x hx; go_simp; first | done | with_reducible rfl | (rw [if_pos (by omega)]; try with_reducible rfl) | (rw [if_neg (by omega)]; try with_reducible rfl))
  try simp only [Act.put, List.setIfInBounds_toArray, List.set_cons_zero, List.set_cons_succ]
  refine rg_take (v := ?_) 3 rfl (by kernel_rfl) (by kernel_rfl) (by kernel_rfl) (fun _ _ _ h => h) (by rfl) ?_ ?_; rotate_left
  · (intro x hx; go_simp; first | done | with_reducible rfl | (rw [if_pos (by omega)]; try with_reducible rfl) | (rw [if_neg (by omega)]; try with_reducible rfl))
  try simp only [Act.put, List.setIfInBounds_toArray, List.set_cons_zero, List.set_cons_succ]
  refine rg_take (v := ?_) 4 rfl (by kernel_rfl) (by kernel_rfl) (by kernel_rfl) (fun _ _ _ h => h) (by rfl) ?_ ?_; rotate_left
  · (intro x hx; go_simp; first | done | with_reducible rfl | (rw [if_pos (by omega)]; try with_reducible rfl) | (rw [if_neg (by omega)]; try with_reducible rfl))
  try simp only [Act.put, List.setIfInBounds_toArray, List.set_cons_zero, List.set_cons_succ]
  refine rg_take (v := .agg (maC m)) 7 rfl (by kernel_rfl) (by kernel_rfl) (by kernel_rfl) (fun _ _ _ h => h) (by rfl) ?_ ?_
  · (intro x hx; apply run_load_big; (case ho => exact rfl); (case hv => exact rfl); (case hg => exact KM x hx); (case hu => exact Tryz.underlying28); (case hd => rfl); (case hi => kernel_rfl))
  try simp only [Act.put, List.setIfInBounds_toArray, List.set_cons_zero, List.set_cons_succ]
  refine rg_take (v := .agg (adC x)) 8 rfl (by kernel_rfl) (by kernel_rfl) (by kernel_rfl) (fun _ _ _ h => h) (by rfl) ?_ ?_
  · (intro x hx; apply run_load_big; (case ho => exact rfl); (case hv => exact rfl); (case hg => exact KA x hx); (case hu => exact Tryz.underlying24); (case hd => rfl); (case hi => kernel_rfl))
  try simp only [Act.put, List.setIfInBounds_toArray, List.set_cons_zero, List.set_cons_succ]
  refine rg_take (v := ?_) 9 rfl (by kernel_rfl) (by kernel_rfl) (by kernel_rfl) (fun _ _ _ h => h) (by rfl) ?_ ?_; rotate_left
  · (intro x hx; go_simp; first | done | with_reducible rfl | (rw [if_pos (by omega)]; try with_reducible rfl) | (rw [if_neg (by omega)]; try with_reducible rfl))
  try simp only [Act.put, List.setIfInBounds_toArray, List.set_cons_zero, List.set_cons_succ]
  refine rg_three 1 5 10 rfl rfl rfl (by kernel_rfl) (by rfl) (by rfl) (by rfl) (fun K hK => ?_) (fun K hK => ?_) (fun K hK => ?_)
  · go_simp
    have q : Below wn.heap.size wn (wn.alloc (.cells #[] 71)) := (Below.refl _ _).alloc (Nat.le_refl _) _
    have E : TO (wn.alloc (.cells #[] 71)) B 71 10 (some ⟨wn.heap.size, 0, none⟩) 0 0 0 [] := ⟨rfl, World.ownsRow_lit wn #[] 0 hB2 (by unfold maxLen; omega) rfl⟩
    replace P := below_at q P (heap_lt P)
    replace F := F.below q
    replace e6 := e6.trans (Ext.below_all _ q)
    replace hB2 := Nat.le_trans hB2 q.size
    refine hK.out _ _ (Ext.below_all _ q) ?_
    obtain ⟨g0, hg0⟩ : ∃ y, wn.heap.size = y := ⟨_, rfl⟩
    try have hRE := old_ne (n := 0) (c := 0) hg0 R
    try replace R := below_at q R (heap_lt R)
    rw [hg0] at E ⊢
    clear q hg0 kA
    first | (generalize wn.alloc (.cells #[] 71) = wn at P F E R e6 hB2 ⊢) | (generalize wn.alloc (.cells #[] 71) = wn at P F E e6 hB2 ⊢)
    have kA := (cells_of P).1 38
    clear hK K; try simp only [Act.put, List.setIfInBounds_toArray, List.set_cons_zero, List.set_cons_succ]
    refine rg_two 5 10 rfl rfl (by kernel_rfl) (by rfl) (by rfl) (fun K hK => ?_) (fun K hK => ?_)
    · go_simp
      refine hK.out _ _ (Ext.refl _ _) ?_
      clear hK K; try simp only [Act.put, List.setIfInBounds_toArray, List.set_cons_zero, List.set_cons_succ]
      refine rg_two 6 10 rfl rfl (by kernel_rfl) (by rfl) (by rfl) (fun K hK => ?_) (fun K hK => ?_)
      · refine wp_appN _ _ 37 71 10 10 _ Tryz.underlying37 infoRFx rfl (by omega) (by omega) rfl B _ _ _ _ _ rfl E H _ _ _ _ _ rfl F (fxL_one lf) (by omega) hB2 ?_
        intro A2 k2 wn E2 b3 g3
        replace P := (b3.block g hgB).trans P
        have x3 := Ext.of_grown (M := fun j => j = g ∨ B ≤ j) g3 (fun j hj => .inr (E.lt j hj).1)
        try replace R := (g3.block _ (heap_lt R) hRE).trans R
        replace e6 := e6.trans x3
        replace hB2 := Nat.le_trans hB2 b3.size
        replace E := E2
        refine hK.out _ _ x3 ?_
        obtain ⟨n', hn'⟩ : ∃ y, 0 + n = y := ⟨_, rfl⟩
        rw [hn'] at E ⊢
        clear hn'
        simp only [Nat.zero_add, List.nil_append] at E
        clear x3 g3 b3 E2 kA F
        clear hK K; try simp only [Act.put, List.setIfInBounds_toArray, List.set_cons_zero, List.set_cons_succ]
        refine rg_step 10 rfl (by kernel_rfl) (by rfl) (fun K hK => ?_)
        go_simp
        have q : Below wn.heap.size wn (wn.alloc (.cells (fxC ⟨m, x⟩) 71)) := (Below.refl _ _).alloc (Nat.le_refl _) _
        have R := heap_alloc_new wn (.cells (fxC ⟨m, x⟩) 71)
        replace P := below_at q P (heap_lt P)
        try replace F := F.below q
        replace e6 := e6.trans (Ext.below_all _ q)
        replace hB2 := Nat.le_trans hB2 q.size
        refine hK.out _ _ (Ext.below_all _ q) ?_
        obtain ⟨g1, hg1⟩ : ∃ y, wn.heap.size = y := ⟨_, rfl⟩
        try have hRE := E.new (Nat.le_of_eq hg1)
        try replace E := E.below q
        rw [hg1] at R ⊢
        clear q hg1
        try clear kA
        first | (generalize wn.alloc (.cells (fxC ⟨m, x⟩) 71) = wn at P F E R e6 hB2 ⊢) | (generalize wn.alloc (.cells (fxC ⟨m, x⟩) 71) = wn at P F R e6 hB2 ⊢) | (generalize wn.alloc (.cells (fxC ⟨m, x⟩) 71) = wn at P E R e6 hB2 ⊢)
        have kA := (cells_of P).1 38
        clear hK K; try simp only [Act.put, List.setIfInBounds_toArray, List.set_cons_zero, List.set_cons_succ]
        refine rg_step 11 rfl (by kernel_rfl) (by rfl) (fun K hK => ?_)
        refine wp_appT _ _ 37 71 10 10 _ Tryz.underlying37 infoRFx rfl (by omega) (by omega) rfl B _ _ _ _ _ rfl E _ _ rfl (fxC ⟨m, x⟩) rfl R (by simp [Value.oneCell']) (by omega) hB2 ?_
        intro A3 k3 wn E3 b3 g3
        replace P := (b3.block g hgB).trans P
        have x3 := Ext.of_grown (M := fun j => j = g ∨ B ≤ j) g3 (fun j hj => .inr (E.lt j hj).1)
        replace e6 := e6.trans x3
        replace E := E3
        refine hK.out _ _ x3 ?_
        clear x3 g3 b3 E3
        try clear kA
        clear hK K; try simp only [Act.put, List.setIfInBounds_toArray, List.set_cons_zero, List.set_cons_succ]
        refine rg_take (v := ?_) 12 rfl (by kernel_rfl) (by kernel_rfl) (by kernel_rfl) (fun _ _ _ h => h) (by rfl) ?_ ?_; rotate_left
        · (intro x hx; go_simp; first | done | with_reducible rfl | (rw [if_pos (by omega)]; try with_reducible rfl) | (rw [if_neg (by omega)]; try with_reducible rfl))
        try simp only [Act.put, List.setIfInBounds_toArray, List.set_cons_zero, List.set_cons_succ]
        refine rg_take (v := ?_) 13 rfl (by kernel_rfl) (by kernel_rfl) (by kernel_rfl) (fun _ _ _ h => h) (by rfl) ?_ ?_; rotate_left
        · (intro x hx; go_simp; first | done | with_reducible rfl | (rw [if_pos (by omega)]; try with_reducible rfl) | (rw [if_neg (by omega)]; try with_reducible rfl))
        try simp only [Act.put, List.setIfInBounds_toArray, List.set_cons_zero, List.set_cons_succ]
        refine rg_step 14 rfl (by kernel_rfl) (by rfl) (fun K hK => ?_)
        --RAW
        apply wp_store_one 37
        case ho => exact rfl
        case hx => exact rfl
        case hy => exact rfl
        case hg => exact P
        case hle => simp
        case hv => rfl
        case hi => kernel_rfl
        case h1 => rfl
        intro wn g5 P5
        have x5 := Ext.of_grown (M := fun j => j = g ∨ B ≤ j) g5 (fun j h => by injection h with h; exact .inl h.symm)
        replace e6 := e6.trans x5
        replace E := E.kept g5 (E.ne P (by decide))
        refine hK.out _ _ x5 ?_
        clear hK K
        refine rg_done (by kernel_rfl) ?_
        --TAIL
        replace E := rfo_end HHB.out E
        replace e6 := e6.old HWB.out
        clear P g5 x5 hB2 KM KA
        rcases b1 with _ | _
        all_goals
          go_wp2_with fail
          go_ret
          exact ⟨A3, _, k3, rfl, P5, E, e6⟩
      · go_simp
        have q : Below wn.heap.size wn (wn.alloc (.cells (fxC ⟨m, x⟩) 71)) := (Below.refl _ _).alloc (Nat.le_refl _) _
        have R := heap_alloc_new wn (.cells (fxC ⟨m, x⟩) 71)
        replace P := below_at q P (heap_lt P)
        try replace F := F.below q
        replace e6 := e6.trans (Ext.below_all _ q)
        replace hB2 := Nat.le_trans hB2 q.size
        refine hK.out _ _ (Ext.below_all _ q) ?_
        obtain ⟨g1, hg1⟩ : ∃ y, wn.heap.size = y := ⟨_, rfl⟩
        try have hRE := E.new (Nat.le_of_eq hg1)
        try replace E := E.below q
        rw [hg1] at R ⊢
        clear q hg1
        try clear kA
        first | (generalize wn.alloc (.cells (fxC ⟨m, x⟩) 71) = wn at P F E R e6 hB2 ⊢) | (generalize wn.alloc (.cells (fxC ⟨m, x⟩) 71) = wn at P F R e6 hB2 ⊢) | (generalize wn.alloc (.cells (fxC ⟨m, x⟩) 71) = wn at P E R e6 hB2 ⊢)
        have kA := (cells_of P).1 38
        clear hK K; try simp only [Act.put, List.setIfInBounds_toArray, List.set_cons_zero, List.set_cons_succ]
        refine rg_step 6 rfl (by kernel_rfl) (by rfl) (fun K hK => ?_)
        refine wp_appN _ _ 37 71 10 10 _ Tryz.underlying37 infoRFx rfl (by omega) (by omega) rfl B _ _ _ _ _ rfl E H _ _ _ _ _ rfl F (fxL_one lf) (by omega) hB2 ?_
        intro A2 k2 wn E2 b3 g3
        replace P := (b3.block g hgB).trans P
        have x3 := Ext.of_grown (M := fun j => j = g ∨ B ≤ j) g3 (fun j hj => .inr (E.lt j hj).1)
        try replace R := (g3.block _ (heap_lt R) hRE).trans R
        replace e6 := e6.trans x3
        replace hB2 := Nat.le_trans hB2 b3.size
        replace E := E2
        refine hK.out _ _ x3 ?_
        obtain ⟨n', hn'⟩ : ∃ y, 0 + n = y := ⟨_, rfl⟩
        rw [hn'] at E ⊢
        clear hn'
        simp only [Nat.zero_add, List.nil_append] at E
        clear x3 g3 b3 E2 kA F
        clear hK K; try simp only [Act.put, List.setIfInBounds_toArray, List.set_cons_zero, List.set_cons_succ]
        refine rg_step 11 rfl (by kernel_rfl) (by rfl) (fun K hK => ?_)
        refine wp_appT _ _ 37 71 10 10 _ Tryz.underlying37 infoRFx rfl (by omega) (by omega) rfl B _ _ _ _ _ rfl E _ _ rfl (fxC ⟨m, x⟩) rfl R (by simp [Value.oneCell']) (by omega) hB2 ?_
        intro A3 k3 wn E3 b3 g3
        replace P := (b3.block g hgB).trans P
        have x3 := Ext.of_grown (M := fun j => j = g ∨ B ≤ j) g3 (fun j hj => .inr (E.lt j hj).1)
        replace e6 := e6.trans x3
        replace E := E3
        refine hK.out _ _ x3 ?_
        clear x3 g3 b3 E3
        try clear kA
        clear hK K; try simp only [Act.put, List.setIfInBounds_toArray, List.set_cons_zero, List.set_cons_succ]
        refine rg_take (v := ?_) 12 rfl (by kernel_rfl) (by kernel_rfl) (by kernel_rfl) (fun _ _ _ h => h) (by rfl) ?_ ?_; rotate_left
        · (intro x hx; go_simp; first | done | with_reducible rfl | (rw [if_pos (by omega)]; try with_reducible rfl) | (rw [if_neg (by omega)]; try with_reducible rfl))
        try simp only [Act.put, List.setIfInBounds_toArray, List.set_cons_zero, List.set_cons_succ]
        refine rg_take (v := ?_) 13 rfl (by kernel_rfl) (by kernel_rfl) (by kernel_rfl) (fun _ _ _ h => h) (by rfl) ?_ ?_; rotate_left
        · (intro x hx; go_simp; first | done | with_reducible rfl | (rw [if_pos (by omega)]; try with_reducible rfl) | (rw [if_neg (by omega)]; try with_reducible rfl))
        try simp only [Act.put, List.setIfInBounds_toArray, List.set_cons_zero, List.set_cons_succ]
        refine rg_step 14 rfl (by kernel_rfl) (by rfl) (fun K hK => ?_)
        --RAW
        apply wp_store_one 37
        case ho => exact rfl
        case hx => exact rfl
        case hy => exact rfl
        case hg => exact P
        case hle => simp
        case hv => rfl
        case hi => kernel_rfl
        case h1 => rfl
        intro wn g5 P5
        have x5 := Ext.of_grown (M := fun j => j = g ∨ B ≤ j) g5 (fun j h => by injection h with h; exact .inl h.symm)
        replace e6 := e6.trans x5
        replace E := E.kept g5 (E.ne P (by decide))
        refine hK.out _ _ x5 ?_
        clear hK K
        refine rg_done (by kernel_rfl) ?_
        --TAIL
        replace E := rfo_end HHB.out E
        replace e6 := e6.old HWB.out
        clear P g5 x5 hB2 KM KA
        rcases b1 with _ | _
        all_goals
          go_wp2_with fail
          go_ret
          exact ⟨A3, _, k3, rfl, P5, E, e6⟩
    · go_simp
      have q : Below wn.heap.size wn (wn.alloc (.cells (fxC ⟨m, x⟩) 71)) := (Below.refl _ _).alloc (Nat.le_refl _) _
      have R := heap_alloc_new wn (.cells (fxC ⟨m, x⟩) 71)
      replace P := below_at q P (heap_lt P)
      try replace F := F.below q
      replace e6 := e6.trans (Ext.below_all _ q)
      replace hB2 := Nat.le_trans hB2 q.size
      refine hK.out _ _ (Ext.below_all _ q) ?_
      obtain ⟨g1, hg1⟩ : ∃ y, wn.heap.size = y := ⟨_, rfl⟩
      try have hRE := E.new (Nat.le_of_eq hg1)
      try replace E := E.below q
      rw [hg1] at R ⊢
      clear q hg1
      try clear kA
      first | (generalize wn.alloc (.cells (fxC ⟨m, x⟩) 71) = wn at P F E R e6 hB2 ⊢) | (generalize wn.alloc (.cells (fxC ⟨m, x⟩) 71) = wn at P F R e6 hB2 ⊢) | (generalize wn.alloc (.cells (fxC ⟨m, x⟩) 71) = wn at P E R e6 hB2 ⊢)
      have kA := (cells_of P).1 38
      clear hK K; try simp only [Act.put, List.setIfInBounds_toArray, List.set_cons_zero, List.set_cons_succ]
      refine rg_step 5 rfl (by kernel_rfl) (by rfl) (fun K hK => ?_)
      go_simp
      refine hK.out _ _ (Ext.refl _ _) ?_
      clear hK K; try simp only [Act.put, List.setIfInBounds_toArray, List.set_cons_zero, List.set_cons_succ]
      refine rg_step 6 rfl (by kernel_rfl) (by rfl) (fun K hK => ?_)
      refine wp_appN _ _ 37 71 10 10 _ Tryz.underlying37 infoRFx rfl (by omega) (by omega) rfl B _ _ _ _ _ rfl E H _ _ _ _ _ rfl F (fxL_one lf) (by omega) hB2 ?_
      intro A2 k2 wn E2 b3 g3
      replace P := (b3.block g hgB).trans P
      have x3 := Ext.of_grown (M := fun j => j = g ∨ B ≤ j) g3 (fun j hj => .inr (E.lt j hj).1)
      try replace R := (g3.block _ (heap_lt R) hRE).trans R
      replace e6 := e6.trans x3
      replace hB2 := Nat.le_trans hB2 b3.size
      replace E := E2
      refine hK.out _ _ x3 ?_
      obtain ⟨n', hn'⟩ : ∃ y, 0 + n = y := ⟨_, rfl⟩
      rw [hn'] at E ⊢
      clear hn'
      simp only [Nat.zero_add, List.nil_append] at E
      clear x3 g3 b3 E2 kA F
      clear hK K; try simp only [Act.put, List.setIfInBounds_toArray, List.set_cons_zero, List.set_cons_succ]
      refine rg_step 11 rfl (by kernel_rfl) (by rfl) (fun K hK => ?_)
      refine wp_appT _ _ 37 71 10 10 _ Tryz.underlying37 infoRFx rfl (by omega) (by omega) rfl B _ _ _ _ _ rfl E _ _ rfl (fxC ⟨m, x⟩) rfl R (by simp [Value.oneCell']) (by omega) hB2 ?_
      intro A3 k3 wn E3 b3 g3
      replace P := (b3.block g hgB).trans P
      have x3 := Ext.of_grown (M := fun j => j = g ∨ B ≤ j) g3 (fun j hj => .inr (E.lt j hj).1)
      replace e6 := e6.trans x3
      replace E := E3
      refine hK.out _ _ x3 ?_
      clear x3 g3 b3 E3
      try clear kA
      clear hK K; try simp only [Act.put, List.setIfInBounds_toArray, List.set_cons_zero, List.set_cons_succ]
      refine rg_take (v := ?_) 12 rfl (by kernel_rfl) (by kernel_rfl) (by kernel_rfl) (fun _ _ _ h => h) (by rfl) ?_ ?_; rotate_left
      · (intro x hx; go_simp; first | done | with_reducible rfl | (rw [if_pos (by omega)]; try with_reducible rfl) | (rw [if_neg (by omega)]; try with_reducible rfl))
      try simp only [Act.put, List.setIfInBounds_toArray, List.set_cons_zero, List.set_cons_succ]
      refine rg_take (v := ?_) 13 rfl (by kernel_rfl) (by kernel_rfl) (by kernel_rfl) (fun _ _ _ h => h) (by rfl) ?_ ?_; rotate_left
      · (intro x hx; go_simp; first | done | with_reducible rfl | (rw [if_pos (by omega)]; try with_reducible rfl) | (rw [if_neg (by omega)]; try with_reducible rfl))
      try simp only [Act.put, List.setIfInBounds_toArray, List.set_cons_zero, List.set_cons_succ]
      refine rg_step 14 rfl (by kernel_rfl) (by rfl) (fun K hK => ?_)
      --RAW
      apply wp_store_one 37
      case ho => exact rfl
      case hx => exact rfl
      case hy => exact rfl
      case hg => exact P
      case hle => simp
      case hv => rfl
      case hi => kernel_rfl
      case h1 => rfl
      intro wn g5 P5
      have x5 := Ext.of_grown (M := fun j => j = g ∨ B ≤ j) g5 (fun j h => by injection h with h; exact .inl h.symm)
      replace e6 := e6.trans x5
      replace E := E.kept g5 (E.ne P (by decide))
      refine hK.out _ _ x5 ?_
      clear hK K
      refine rg_done (by kernel_rfl) ?_
      --TAIL
      replace E := rfo_end HHB.out E
      replace e6 := e6.old HWB.out
      clear P g5 x5 hB2 KM KA
      rcases b1 with _ | _
      all_goals
        go_wp2_with fail
        go_ret
        exact ⟨A3, _, k3, rfl, P5, E, e6⟩
  · go_simp
    refine hK.out _ _ (Ext.refl _ _) ?_
    clear hK K; try simp only [Act.put, List.setIfInBounds_toArray, List.set_cons_zero, List.set_cons_succ]
    refine rg_two 1 10 rfl rfl (by kernel_rfl) (by rfl) (by rfl) (fun K hK => ?_) (fun K hK => ?_)
    · go_simp
      have q : Below wn.heap.size wn (wn.alloc (.cells #[] 71)) := (Below.refl _ _).alloc (Nat.le_refl _) _
      have E : TO (wn.alloc (.cells #[] 71)) B 71 10 (some ⟨wn.heap.size, 0, none⟩) 0 0 0 [] := ⟨rfl, World.ownsRow_lit wn #[] 0 hB2 (by unfold maxLen; omega) rfl⟩
      replace P := below_at q P (heap_lt P)
      replace F := F.below q
      replace e6 := e6.trans (Ext.below_all _ q)
      replace hB2 := Nat.le_trans hB2 q.size
      refine hK.out _ _ (Ext.below_all _ q) ?_
      obtain ⟨g0, hg0⟩ : ∃ y, wn.heap.size = y := ⟨_, rfl⟩
      try have hRE := old_ne (n := 0) (c := 0) hg0 R
      try replace R := below_at q R (heap_lt R)
      rw [hg0] at E ⊢
      clear q hg0 kA
      first | (generalize wn.alloc (.cells #[] 71) = wn at P F E R e6 hB2 ⊢) | (generalize wn.alloc (.cells #[] 71) = wn at P F E e6 hB2 ⊢)
      have kA := (cells_of P).1 38
      clear hK K; try simp only [Act.put, List.setIfInBounds_toArray, List.set_cons_zero, List.set_cons_succ]
      refine rg_two 6 10 rfl rfl (by kernel_rfl) (by rfl) (by rfl) (fun K hK => ?_) (fun K hK => ?_)
      · refine wp_appN _ _ 37 71 10 10 _ Tryz.underlying37 infoRFx rfl (by omega) (by omega) rfl B _ _ _ _ _ rfl E H _ _ _ _ _ rfl F (fxL_one lf) (by omega) hB2 ?_
        intro A2 k2 wn E2 b3 g3
        replace P := (b3.block g hgB).trans P
        have x3 := Ext.of_grown (M := fun j => j = g ∨ B ≤ j) g3 (fun j hj => .inr (E.lt j hj).1)
        try replace R := (g3.block _ (heap_lt R) hRE).trans R
        replace e6 := e6.trans x3
        replace hB2 := Nat.le_trans hB2 b3.size
        replace E := E2
        refine hK.out _ _ x3 ?_
        obtain ⟨n', hn'⟩ : ∃ y, 0 + n = y := ⟨_, rfl⟩
        rw [hn'] at E ⊢
        clear hn'
        simp only [Nat.zero_add, List.nil_append] at E
        clear x3 g3 b3 E2 kA F
        clear hK K; try simp only [Act.put, List.setIfInBounds_toArray, List.set_cons_zero, List.set_cons_succ]
        refine rg_step 10 rfl (by kernel_rfl) (by rfl) (fun K hK => ?_)
        go_simp
        have q : Below wn.heap.size wn (wn.alloc (.cells (fxC ⟨m, x⟩) 71)) := (Below.refl _ _).alloc (Nat.le_refl _) _
        have R := heap_alloc_new wn (.cells (fxC ⟨m, x⟩) 71)
        replace P := below_at q P (heap_lt P)
        try replace F := F.below q
        replace e6 := e6.trans (Ext.below_all _ q)
        replace hB2 := Nat.le_trans hB2 q.size
        refine hK.out _ _ (Ext.below_all _ q) ?_
        obtain ⟨g1, hg1⟩ : ∃ y, wn.heap.size = y := ⟨_, rfl⟩
        try have hRE := E.new (Nat.le_of_eq hg1)
        try replace E := E.below q
        rw [hg1] at R ⊢
        clear q hg1
        try clear kA
        first | (generalize wn.alloc (.cells (fxC ⟨m, x⟩) 71) = wn at P F E R e6 hB2 ⊢) | (generalize wn.alloc (.cells (fxC ⟨m, x⟩) 71) = wn at P F R e6 hB2 ⊢) | (generalize wn.alloc (.cells (fxC ⟨m, x⟩) 71) = wn at P E R e6 hB2 ⊢)
        have kA := (cells_of P).1 38
        clear hK K; try simp only [Act.put, List.setIfInBounds_toArray, List.set_cons_zero, List.set_cons_succ]
        refine rg_step 11 rfl (by kernel_rfl) (by rfl) (fun K hK => ?_)
        refine wp_appT _ _ 37 71 10 10 _ Tryz.underlying37 infoRFx rfl (by omega) (by omega) rfl B _ _ _ _ _ rfl E _ _ rfl (fxC ⟨m, x⟩) rfl R (by simp [Value.oneCell']) (by omega) hB2 ?_
        intro A3 k3 wn E3 b3 g3
        replace P := (b3.block g hgB).trans P
        have x3 := Ext.of_grown (M := fun j => j = g ∨ B ≤ j) g3 (fun j hj => .inr (E.lt j hj).1)
        replace e6 := e6.trans x3
        replace E := E3
        refine hK.out _ _ x3 ?_
        clear x3 g3 b3 E3
        try clear kA
        clear hK K; try simp only [Act.put, List.setIfInBounds_toArray, List.set_cons_zero, List.set_cons_succ]
        refine rg_take (v := ?_) 12 rfl (by kernel_rfl) (by kernel_rfl) (by kernel_rfl) (fun _ _ _ h => h) (by rfl) ?_ ?_; rotate_left
        · (intro x hx; go_simp; first | done | with_reducible rfl | (rw [if_pos (by omega)]; try with_reducible rfl) | (rw [if_neg (by omega)]; try with_reducible rfl))
        try simp only [Act.put, List.setIfInBounds_toArray, List.set_cons_zero, List.set_cons_succ]
        refine rg_take (v := ?_) 13 rfl (by kernel_rfl) (by kernel_rfl) (by kernel_rfl) (fun _ _ _ h => h) (by rfl) ?_ ?_; rotate_left
        · (intro x hx; go_simp; first | done | with_reducible rfl | (rw [if_pos (by omega)]; try with_reducible rfl) | (rw [if_neg (by omega)]; try with_reducible rfl))
        try simp only [Act.put, List.setIfInBounds_toArray, List.set_cons_zero, List.set_cons_succ]
        refine rg_step 14 rfl (by kernel_rfl) (by rfl) (fun K hK => ?_)
        --RAW
        apply wp_store_one 37
        case ho => exact rfl
        case hx => exact rfl
        case hy => exact rfl
        case hg => exact P
        case hle => simp
        case hv => rfl
        case hi => kernel_rfl
        case h1 => rfl
        intro wn g5 P5
        have x5 := Ext.of_grown (M := fun j => j = g ∨ B ≤ j) g5 (fun j h => by injection h with h; exact .inl h.symm)
        replace e6 := e6.trans x5
        replace E := E.kept g5 (E.ne P (by decide))
        refine hK.out _ _ x5 ?_
        clear hK K
        refine rg_done (by kernel_rfl) ?_
        --TAIL
        replace E := rfo_end HHB.out E
        replace e6 := e6.old HWB.out
        clear P g5 x5 hB2 KM KA
        rcases b1 with _ | _
        all_goals
          go_wp2_with fail
          go_ret
          exact ⟨A3, _, k3, rfl, P5, E, e6⟩
      · go_simp
        have q : Below wn.heap.size wn (wn.alloc (.cells (fxC ⟨m, x⟩) 71)) := (Below.refl _ _).alloc (Nat.le_refl _) _
        have R := heap_alloc_new wn (.cells (fxC ⟨m, x⟩) 71)
        replace P := below_at q P (heap_lt P)
        try replace F := F.below q
        replace e6 := e6.trans (Ext.below_all _ q)
        replace hB2 := Nat.le_trans hB2 q.size
        refine hK.out _ _ (Ext.below_all _ q) ?_
        obtain ⟨g1, hg1⟩ : ∃ y, wn.heap.size = y := ⟨_, rfl⟩
        try have hRE := E.new (Nat.le_of_eq hg1)
        try replace E := E.below q
        rw [hg1] at R ⊢
        clear q hg1
        try clear kA
        first | (generalize wn.alloc (.cells (fxC ⟨m, x⟩) 71) = wn at P F E R e6 hB2 ⊢) | (generalize wn.alloc (.cells (fxC ⟨m, x⟩) 71) = wn at P F R e6 hB2 ⊢) | (generalize wn.alloc (.cells (fxC ⟨m, x⟩) 71) = wn at P E R e6 hB2 ⊢)
        have kA := (cells_of P).1 38
        clear hK K; try simp only [Act.put, List.setIfInBounds_toArray, List.set_cons_zero, List.set_cons_succ]
        refine rg_step 6 rfl (by kernel_rfl) (by rfl) (fun K hK => ?_)
        refine wp_appN _ _ 37 71 10 10 _ Tryz.underlying37 infoRFx rfl (by omega) (by omega) rfl B _ _ _ _ _ rfl E H _ _ _ _ _ rfl F (fxL_one lf) (by omega) hB2 ?_
        intro A2 k2 wn E2 b3 g3
        replace P := (b3.block g hgB).trans P
        have x3 := Ext.of_grown (M := fun j => j = g ∨ B ≤ j) g3 (fun j hj => .inr (E.lt j hj).1)
        try replace R := (g3.block _ (heap_lt R) hRE).trans R
        replace e6 := e6.trans x3
        replace hB2 := Nat.le_trans hB2 b3.size
        replace E := E2
        refine hK.out _ _ x3 ?_
        obtain ⟨n', hn'⟩ : ∃ y, 0 + n = y := ⟨_, rfl⟩
        rw [hn'] at E ⊢
        clear hn'
        simp only [Nat.zero_add, List.nil_append] at E
        clear x3 g3 b3 E2 kA F
        clear hK K; try simp only [Act.put, List.setIfInBounds_toArray, List.set_cons_zero, List.set_cons_succ]
        refine rg_step 11 rfl (by kernel_rfl) (by rfl) (fun K hK => ?_)
        refine wp_appT _ _ 37 71 10 10 _ Tryz.underlying37 infoRFx rfl (by omega) (by omega) rfl B _ _ _ _ _ rfl E _ _ rfl (fxC ⟨m, x⟩) rfl R (by simp [Value.oneCell']) (by omega) hB2 ?_
        intro A3 k3 wn E3 b3 g3
        replace P := (b3.block g hgB).trans P
        have x3 := Ext.of_grown (M := fun j => j = g ∨ B ≤ j) g3 (fun j hj => .inr (E.lt j hj).1)
        replace e6 := e6.trans x3
        replace E := E3
        refine hK.out _ _ x3 ?_
        clear x3 g3 b3 E3
        try clear kA
        clear hK K; try simp only [Act.put, List.setIfInBounds_toArray, List.set_cons_zero, List.set_cons_succ]
        refine rg_take (v := ?_) 12 rfl (by kernel_rfl) (by kernel_rfl) (by kernel_rfl) (fun _ _ _ h => h) (by rfl) ?_ ?_; rotate_left
        · (intro x hx; go_simp; first | done | with_reducible rfl | (rw [if_pos (by omega)]; try with_reducible rfl) | (rw [if_neg (by omega)]; try with_reducible rfl))
        try simp only [Act.put, List.setIfInBounds_toArray, List.set_cons_zero, List.set_cons_succ]
        refine rg_take (v := ?_) 13 rfl (by kernel_rfl) (by kernel_rfl) (by kernel_rfl) (fun _ _ _ h => h) (by rfl) ?_ ?_; rotate_left
        · (intro x hx; go_simp; first | done | with_reducible rfl | (rw [if_pos (by omega)]; try with_reducible rfl) | (rw [if_neg (by omega)]; try with_reducible rfl))
        try simp only [Act.put, List.setIfInBounds_toArray, List.set_cons_zero, List.set_cons_succ]
        refine rg_step 14 rfl (by kernel_rfl) (by rfl) (fun K hK => ?_)
        --RAW
        apply wp_store_one 37
        case ho => exact rfl
        case hx => exact rfl
        case hy => exact rfl
        case hg => exact P
        case hle => simp
        case hv => rfl
        case hi => kernel_rfl
        case h1 => rfl
        intro wn g5 P5
        have x5 := Ext.of_grown (M := fun j => j = g ∨ B ≤ j) g5 (fun j h => by injection h with h; exact .inl h.symm)
        replace e6 := e6.trans x5
        replace E := E.kept g5 (E.ne P (by decide))
        refine hK.out _ _ x5 ?_
        clear hK K
        refine rg_done (by kernel_rfl) ?_
        --TAIL
        replace E := rfo_end HHB.out E
        replace e6 := e6.old HWB.out
        clear P g5 x5 hB2 KM KA
        rcases b1 with _ | _
        all_goals
          go_wp2_with fail
          go_ret
          exact ⟨A3, _, k3, rfl, P5, E, e6⟩
    · go_simp
      have q : Below wn.heap.size wn (wn.alloc (.cells (fxC ⟨m, x⟩) 71)) := (Below.refl _ _).alloc (Nat.le_refl _) _
      have R := heap_alloc_new wn (.cells (fxC ⟨m, x⟩) 71)
      replace P := below_at q P (heap_lt P)
      try replace F := F.below q
      replace e6 := e6.trans (Ext.below_all _ q)
      replace hB2 := Nat.le_trans hB2 q.size
      refine hK.out _ _ (Ext.below_all _ q) ?_
      obtain ⟨g1, hg1⟩ : ∃ y, wn.heap.size = y := ⟨_, rfl⟩
      try have hRE := E.new (Nat.le_of_eq hg1)
      try replace E := E.below q
      rw [hg1] at R ⊢
      clear q hg1
      try clear kA
      first | (generalize wn.alloc (.cells (fxC ⟨m, x⟩) 71) = wn at P F E R e6 hB2 ⊢) | (generalize wn.alloc (.cells (fxC ⟨m, x⟩) 71) = wn at P F R e6 hB2 ⊢) | (generalize wn.alloc (.cells (fxC ⟨m, x⟩) 71) = wn at P E R e6 hB2 ⊢)
      have kA := (cells_of P).1 38
      clear hK K; try simp only [Act.put, List.setIfInBounds_toArray, List.set_cons_zero, List.set_cons_succ]
      refine rg_step 1 rfl (by kernel_rfl) (by rfl) (fun K hK => ?_)
      go_simp
      have q : Below wn.heap.size wn (wn.alloc (.cells #[] 71)) := (Below.refl _ _).alloc (Nat.le_refl _) _
      have E : TO (wn.alloc (.cells #[] 71)) B 71 10 (some ⟨wn.heap.size, 0, none⟩) 0 0 0 [] := ⟨rfl, World.ownsRow_lit wn #[] 0 hB2 (by unfold maxLen; omega) rfl⟩
      replace P := below_at q P (heap_lt P)
      replace F := F.below q
      replace e6 := e6.trans (Ext.below_all _ q)
      replace hB2 := Nat.le_trans hB2 q.size
      refine hK.out _ _ (Ext.below_all _ q) ?_
      obtain ⟨g0, hg0⟩ : ∃ y, wn.heap.size = y := ⟨_, rfl⟩
      try have hRE := old_ne (n := 0) (c := 0) hg0 R
      try replace R := below_at q R (heap_lt R)
      rw [hg0] at E ⊢
      clear q hg0 kA
      first | (generalize wn.alloc (.cells #[] 71) = wn at P F E R e6 hB2 ⊢) | (generalize wn.alloc (.cells #[] 71) = wn at P F E e6 hB2 ⊢)
      have kA := (cells_of P).1 38
      clear hK K; try simp only [Act.put, List.setIfInBounds_toArray, List.set_cons_zero, List.set_cons_succ]
      refine rg_step 6 rfl (by kernel_rfl) (by rfl) (fun K hK => ?_)
      refine wp_appN _ _ 37 71 10 10 _ Tryz.underlying37 infoRFx rfl (by omega) (by omega) rfl B _ _ _ _ _ rfl E H _ _ _ _ _ rfl F (fxL_one lf) (by omega) hB2 ?_
      intro A2 k2 wn E2 b3 g3
      replace P := (b3.block g hgB).trans P
      have x3 := Ext.of_grown (M := fun j => j = g ∨ B ≤ j) g3 (fun j hj => .inr (E.lt j hj).1)
      try replace R := (g3.block _ (heap_lt R) hRE).trans R
      replace e6 := e6.trans x3
      replace hB2 := Nat.le_trans hB2 b3.size
      replace E := E2
      refine hK.out _ _ x3 ?_
      obtain ⟨n', hn'⟩ : ∃ y, 0 + n = y := ⟨_, rfl⟩
      rw [hn'] at E ⊢
      clear hn'
      simp only [Nat.zero_add, List.nil_append] at E
      clear x3 g3 b3 E2 kA F
      clear hK K; try simp only [Act.put, List.setIfInBounds_toArray, List.set_cons_zero, List.set_cons_succ]
      refine rg_step 11 rfl (by kernel_rfl) (by rfl) (fun K hK => ?_)
      refine wp_appT _ _ 37 71 10 10 _ Tryz.underlying37 infoRFx rfl (by omega) (by omega) rfl B _ _ _ _ _ rfl E _ _ rfl (fxC ⟨m, x⟩) rfl R (by simp [Value.oneCell']) (by omega) hB2 ?_
      intro A3 k3 wn E3 b3 g3
      replace P := (b3.block g hgB).trans P
      have x3 := Ext.of_grown (M := fun j => j = g ∨ B ≤ j) g3 (fun j hj => .inr (E.lt j hj).1)
      replace e6 := e6.trans x3
      replace E := E3
      refine hK.out _ _ x3 ?_
      clear x3 g3 b3 E3
      try clear kA
      clear hK K; try simp only [Act.put, List.setIfInBounds_toArray, List.set_cons_zero, List.set_cons_succ]
      refine rg_take (v := ?_) 12 rfl (by kernel_rfl) (by kernel_rfl) (by kernel_rfl) (fun _ _ _ h => h) (by rfl) ?_ ?_; rotate_left
      · (intro x hx; go_simp; first | done | with_reducible rfl | (rw [if_pos (by omega)]; try with_reducible rfl) | (rw [if_neg (by omega)]; try with_reducible rfl))
      try simp only [Act.put, List.setIfInBounds_toArray, List.set_cons_zero, List.set_cons_succ]
      refine rg_take (v := ?_) 13 rfl (by kernel_rfl) (by kernel_rfl) (by kernel_rfl) (fun _ _ _ h => h) (by rfl) ?_ ?_; rotate_left
      · (intro x hx; go_simp; first | done | with_reducible rfl | (rw [if_pos (by omega)]; try with_reducible rfl) | (rw [if_neg (by omega)]; try with_reducible rfl))
      try simp only [Act.put, List.setIfInBounds_toArray, List.set_cons_zero, List.set_cons_succ]
      refine rg_step 14 rfl (by kernel_rfl) (by rfl) (fun K hK => ?_)
      --RAW
      apply wp_store_one 37
      case ho => exact rfl
      case hx => exact rfl
      case hy => exact rfl
      case hg => exact P
      case hle => simp
      case hv => rfl
      case hi => kernel_rfl
      case h1 => rfl
      intro wn g5 P5
      have x5 := Ext.of_grown (M := fun j => j = g ∨ B ≤ j) g5 (fun j h => by injection h with h; exact .inl h.symm)
      replace e6 := e6.trans x5
      replace E := E.kept g5 (E.ne P (by decide))
      refine hK.out _ _ x5 ?_
      clear hK K
      refine rg_done (by kernel_rfl) ?_
      --TAIL
      replace E := rfo_end HHB.out E
      replace e6 := e6.old HWB.out
      clear P g5 x5 hB2 KM KA
      rcases b1 with _ | _
      all_goals
        go_wp2_with fail
        go_ret
        exact ⟨A3, _, k3, rfl, P5, E, e6⟩
  · go_simp
    have q : Below wn.heap.size wn (wn.alloc (.cells (fxC ⟨m, x⟩) 71)) := (Below.refl _ _).alloc (Nat.le_refl _) _
    have R := heap_alloc_new wn (.cells (fxC ⟨m, x⟩) 71)
    replace P := below_at q P (heap_lt P)
    try replace F := F.below q
    replace e6 := e6.trans (Ext.below_all _ q)
    replace hB2 := Nat.le_trans hB2 q.size
    refine hK.out _ _ (Ext.below_all _ q) ?_
    obtain ⟨g1, hg1⟩ : ∃ y, wn.heap.size = y := ⟨_, rfl⟩
    try have hRE := E.new (Nat.le_of_eq hg1)
    try replace E := E.below q
    rw [hg1] at R ⊢
    clear q hg1
    try clear kA
    first | (generalize wn.alloc (.cells (fxC ⟨m, x⟩) 71) = wn at P F E R e6 hB2 ⊢) | (generalize wn.alloc (.cells (fxC ⟨m, x⟩) 71) = wn at P F R e6 hB2 ⊢) | (generalize wn.alloc (.cells (fxC ⟨m, x⟩) 71) = wn at P E R e6 hB2 ⊢)
    have kA := (cells_of P).1 38
    clear hK K; try simp only [Act.put, List.setIfInBounds_toArray, List.set_cons_zero, List.set_cons_succ]
    refine rg_two 1 5 rfl rfl (by kernel_rfl) (by rfl) (by rfl) (fun K hK => ?_) (fun K hK => ?_)
    · go_simp
      have q : Below wn.heap.size wn (wn.alloc (.cells #[] 71)) := (Below.refl _ _).alloc (Nat.le_refl _) _
      have E : TO (wn.alloc (.cells #[] 71)) B 71 10 (some ⟨wn.heap.size, 0, none⟩) 0 0 0 [] := ⟨rfl, World.ownsRow_lit wn #[] 0 hB2 (by unfold maxLen; omega) rfl⟩
      replace P := below_at q P (heap_lt P)
      replace F := F.below q
      replace e6 := e6.trans (Ext.below_all _ q)
      replace hB2 := Nat.le_trans hB2 q.size
      refine hK.out _ _ (Ext.below_all _ q) ?_
      obtain ⟨g0, hg0⟩ : ∃ y, wn.heap.size = y := ⟨_, rfl⟩
      try have hRE := old_ne (n := 0) (c := 0) hg0 R
      try replace R := below_at q R (heap_lt R)
      rw [hg0] at E ⊢
      clear q hg0 kA
      first | (generalize wn.alloc (.cells #[] 71) = wn at P F E R e6 hB2 ⊢) | (generalize wn.alloc (.cells #[] 71) = wn at P F E e6 hB2 ⊢)
      have kA := (cells_of P).1 38
      clear hK K; try simp only [Act.put, List.setIfInBounds_toArray, List.set_cons_zero, List.set_cons_succ]
      refine rg_step 5 rfl (by kernel_rfl) (by rfl) (fun K hK => ?_)
      go_simp
      refine hK.out _ _ (Ext.refl _ _) ?_
      clear hK K; try simp only [Act.put, List.setIfInBounds_toArray, List.set_cons_zero, List.set_cons_succ]
      refine rg_step 6 rfl (by kernel_rfl) (by rfl) (fun K hK => ?_)
      refine wp_appN _ _ 37 71 10 10 _ Tryz.underlying37 infoRFx rfl (by omega) (by omega) rfl B _ _ _ _ _ rfl E H _ _ _ _ _ rfl F (fxL_one lf) (by omega) hB2 ?_
      intro A2 k2 wn E2 b3 g3
      replace P := (b3.block g hgB).trans P
      have x3 := Ext.of_grown (M := fun j => j = g ∨ B ≤ j) g3 (fun j hj => .inr (E.lt j hj).1)
      try replace R := (g3.block _ (heap_lt R) hRE).trans R
      replace e6 := e6.trans x3
      replace hB2 := Nat.le_trans hB2 b3.size
      replace E := E2
      refine hK.out _ _ x3 ?_
      obtain ⟨n', hn'⟩ : ∃ y, 0 + n = y := ⟨_, rfl⟩
      rw [hn'] at E ⊢
      clear hn'
      simp only [Nat.zero_add, List.nil_append] at E
      clear x3 g3 b3 E2 kA F
      clear hK K; try simp only [Act.put, List.setIfInBounds_toArray, List.set_cons_zero, List.set_cons_succ]
      refine rg_step 11 rfl (by kernel_rfl) (by rfl) (fun K hK => ?_)
      refine wp_appT _ _ 37 71 10 10 _ Tryz.underlying37 infoRFx rfl (by omega) (by omega) rfl B _ _ _ _ _ rfl E _ _ rfl (fxC ⟨m, x⟩) rfl R (by simp [Value.oneCell']) (by omega) hB2 ?_
      intro A3 k3 wn E3 b3 g3
      replace P := (b3.block g hgB).trans P
      have x3 := Ext.of_grown (M := fun j => j = g ∨ B ≤ j) g3 (fun j hj => .inr (E.lt j hj).1)
      replace e6 := e6.trans x3
      replace E := E3
      refine hK.out _ _ x3 ?_
      clear x3 g3 b3 E3
      try clear kA
      clear hK K; try simp only [Act.put, List.setIfInBounds_toArray, List.set_cons_zero, List.set_cons_succ]
      refine rg_take (v := ?_) 12 rfl (by kernel_rfl) (by kernel_rfl) (by kernel_rfl) (fun _ _ _ h => h) (by rfl) ?_ ?_; rotate_left
      · (intro x hx; go_simp; first | done | with_reducible rfl | (rw [if_pos (by omega)]; try with_reducible rfl) | (rw [if_neg (by omega)]; try with_reducible rfl))
      try simp only [Act.put, List.setIfInBounds_toArray, List.set_cons_zero, List.set_cons_succ]
      refine rg_take (v := ?_) 13 rfl (by kernel_rfl) (by kernel_rfl) (by kernel_rfl) (fun _ _ _ h => h) (by rfl) ?_ ?_; rotate_left
      · (intro x hx; go_simp; first | done | with_reducible rfl | (rw [if_pos (by omega)]; try with_reducible rfl) | (rw [if_neg (by omega)]; try with_reducible rfl))
      try simp only [Act.put, List.setIfInBounds_toArray, List.set_cons_zero, List.set_cons_succ]
      refine rg_step 14 rfl (by kernel_rfl) (by rfl) (fun K hK => ?_)
      --RAW
      apply wp_store_one 37
      case ho => exact rfl
      case hx => exact rfl
      case hy => exact rfl
      case hg => exact P
      case hle => simp
      case hv => rfl
      case hi => kernel_rfl
      case h1 => rfl
      intro wn g5 P5
      have x5 := Ext.of_grown (M := fun j => j = g ∨ B ≤ j) g5 (fun j h => by injection h with h; exact .inl h.symm)
      replace e6 := e6.trans x5
      replace E := E.kept g5 (E.ne P (by decide))
      refine hK.out _ _ x5 ?_
      clear hK K
      refine rg_done (by kernel_rfl) ?_
      --TAIL
      replace E := rfo_end HHB.out E
      replace e6 := e6.old HWB.out
      clear P g5 x5 hB2 KM KA
      rcases b1 with _ | _
      all_goals
        go_wp2_with fail
        go_ret
        exact ⟨A3, _, k3, rfl, P5, E, e6⟩
    · go_simp
      refine hK.out _ _ (Ext.refl _ _) ?_
      clear hK K; try simp only [Act.put, List.setIfInBounds_toArray, List.set_cons_zero, List.set_cons_succ]
      refine rg_step 1 rfl (by kernel_rfl) (by rfl) (fun K hK => ?_)
      go_simp
      have q : Below wn.heap.size wn (wn.alloc (.cells #[] 71)) := (Below.refl _ _).alloc (Nat.le_refl _) _
      have E : TO (wn.alloc (.cells #[] 71)) B 71 10 (some ⟨wn.heap.size, 0, none⟩) 0 0 0 [] := ⟨rfl, World.ownsRow_lit wn #[] 0 hB2 (by unfold maxLen; omega) rfl⟩
      replace P := below_at q P (heap_lt P)
      replace F := F.below q
      replace e6 := e6.trans (Ext.below_all _ q)
      replace hB2 := Nat.le_trans hB2 q.size
      refine hK.out _ _ (Ext.below_all _ q) ?_
      obtain ⟨g0, hg0⟩ : ∃ y, wn.heap.size = y := ⟨_, rfl⟩
      try have hRE := old_ne (n := 0) (c := 0) hg0 R
      try replace R := below_at q R (heap_lt R)
      rw [hg0] at E ⊢
      clear q hg0 kA
      first | (generalize wn.alloc (.cells #[] 71) = wn at P F E R e6 hB2 ⊢) | (generalize wn.alloc (.cells #[] 71) = wn at P F E e6 hB2 ⊢)
      have kA := (cells_of P).1 38
      clear hK K; try simp only [Act.put, List.setIfInBounds_toArray, List.set_cons_zero, List.set_cons_succ]
      refine rg_step 6 rfl (by kernel_rfl) (by rfl) (fun K hK => ?_)
      refine wp_appN _ _ 37 71 10 10 _ Tryz.underlying37 infoRFx rfl (by omega) (by omega) rfl B _ _ _ _ _ rfl E H _ _ _ _ _ rfl F (fxL_one lf) (by omega) hB2 ?_
      intro A2 k2 wn E2 b3 g3
      replace P := (b3.block g hgB).trans P
      have x3 := Ext.of_grown (M := fun j => j = g ∨ B ≤ j) g3 (fun j hj => .inr (E.lt j hj).1)
      try replace R := (g3.block _ (heap_lt R) hRE).trans R
      replace e6 := e6.trans x3
      replace hB2 := Nat.le_trans hB2 b3.size
      replace E := E2
      refine hK.out _ _ x3 ?_
      obtain ⟨n', hn'⟩ : ∃ y, 0 + n = y := ⟨_, rfl⟩
      rw [hn'] at E ⊢
      clear hn'
      simp only [Nat.zero_add, List.nil_append] at E
      clear x3 g3 b3 E2 kA F
      clear hK K; try simp only [Act.put, List.setIfInBounds_toArray, List.set_cons_zero, List.set_cons_succ]
      refine rg_step 11 rfl (by kernel_rfl) (by rfl) (fun K hK => ?_)
      refine wp_appT _ _ 37 71 10 10 _ Tryz.underlying37 infoRFx rfl (by omega) (by omega) rfl B _ _ _ _ _ rfl E _ _ rfl (fxC ⟨m, x⟩) rfl R (by simp [Value.oneCell']) (by omega) hB2 ?_
      intro A3 k3 wn E3 b3 g3
      replace P := (b3.block g hgB).trans P
      have x3 := Ext.of_grown (M := fun j => j = g ∨ B ≤ j) g3 (fun j hj => .inr (E.lt j hj).1)
      replace e6 := e6.trans x3
      replace E := E3
      refine hK.out _ _ x3 ?_
      clear x3 g3 b3 E3
      try clear kA
      clear hK K; try simp only [Act.put, List.setIfInBounds_toArray, List.set_cons_zero, List.set_cons_succ]
      refine rg_take (v := ?_) 12 rfl (by kernel_rfl) (by kernel_rfl) (by kernel_rfl) (fun _ _ _ h => h) (by rfl) ?_ ?_; rotate_left
      · (intro x hx; go_simp; first | done | with_reducible rfl | (rw [if_pos (by omega)]; try with_reducible rfl) | (rw [if_neg (by omega)]; try with_reducible rfl))
      try simp only [Act.put, List.setIfInBounds_toArray, List.set_cons_zero, List.set_cons_succ]
      refine rg_take (v := ?_) 13 rfl (by kernel_rfl) (by kernel_rfl) (by kernel_rfl) (fun _ _ _ h => h) (by rfl) ?_ ?_; rotate_left
      · (intro x hx; go_simp; first | done | with_reducible rfl | (rw [if_pos (by omega)]; try with_reducible rfl) | (rw [if_neg (by omega)]; try with_reducible rfl))
      try simp only [Act.put, List.setIfInBounds_toArray, List.set_cons_zero, List.set_cons_succ]
      refine rg_step 14 rfl (by kernel_rfl) (by rfl) (fun K hK => ?_)
      --RAW
      apply wp_store_one 37
      case ho => exact rfl
      case hx => exact rfl
      case hy => exact rfl
      case hg => exact P
      case hle => simp
      case hv => rfl
      case hi => kernel_rfl
      case h1 => rfl
      intro wn g5 P5
      have x5 := Ext.of_grown (M := fun j => j = g ∨ B ≤ j) g5 (fun j h => by injection h with h; exact .inl h.symm)
      replace e6 := e6.trans x5
      replace E := E.kept g5 (E.ne P (by decide))
      refine hK.out _ _ x5 ?_
      clear hK K
      refine rg_done (by kernel_rfl) ?_
      --TAIL
      replace E := rfo_end HHB.out E
      replace e6 := e6.old HWB.out
      clear P g5 x5 hB2 KM KA
      rcases b1 with _ | _
      all_goals
        go_wp2_with fail
        go_ret
        exact ⟨A3, _, k3, rfl, P5, E, e6⟩
end
end Go.Proofs.YtnmdiageigbphaaGreatDoor
