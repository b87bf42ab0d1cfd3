/-
  Contract of the client's bound.
-/
import Derived.Test.YtjpmfmmgmlnanaaLs9
namespace Go.Proofs.Ytjpmfmmgmlnanaa
open Go.RowKit

abbrev bdC (a m r s : Ad4) (t : Int) : Array Value := #[.int .u8 (a.a.toNat : Int), .int .u8 (a.b.toNat : Int), .int .u8 (a.c.toNat : Int), .int .u8 (a.d.toNat : Int),
  .int .u8 (m.a.toNat : Int), .int .u8 (m.b.toNat : Int), .int .u8 (m.c.toNat : Int), .int .u8 (m.d.toNat : Int),
  .int .u8 (r.a.toNat : Int), .int .u8 (r.b.toNat : Int), .int .u8 (r.c.toNat : Int), .int .u8 (r.d.toNat : Int),
  .int .u8 (s.a.toNat : Int), .int .u8 (s.b.toNat : Int), .int .u8 (s.c.toNat : Int), .int .u8 (s.d.toNat : Int), .int .i64 t]
theorem bdC_new (a s : Ad4) (t : Int) : #[.int .u8 (a.a.toNat : Int), .int .u8 (a.b.toNat : Int), .int .u8 (a.c.toNat : Int), .int .u8 (a.d.toNat : Int),
  .int .u8 0, .int .u8 0, .int .u8 0, .int .u8 0, .int .u8 0, .int .u8 0, .int .u8 0, .int .u8 0,
  .int .u8 (s.a.toNat : Int), .int .u8 (s.b.toNat : Int), .int .u8 (s.c.toNat : Int), .int .u8 (s.d.toNat : Int), .int .i64 t] = bdC a ad0 ad0 s t := by simp [ad0]
/-- Behind the literal of what is had. -/
def BCut (w2 : World) (bd : Array Value) (v : Value) (wx : World) : Prop := ∃ p, v = .pointer (some ⟨p, 0, none⟩) ∧ w2.heap.size ≤ p ∧ wx.heap[p]? = some (.cells bd 41 (0, 0)) ∧ Below w2.heap.size w2 wx
theorem splice_bd (a m s : Ad4) (t : Int) (l : List UInt8) (hl : l.length = 4) : splice8 (bdC a m ad0 s t) 8 l = bdC a m (adOf l) s t := by
  match l, hl with
  | [x, y, z, u], _ => simp [splice8, bv, adOf]
def Cl.heldAt (c : Cl) (m : Hd) (os : List Ob) (src : Ad4) (N now : Int) : Cl :=
  { c with addr := m.yo, mask := oA os 1, router := if 4 ≤ (oB os 3).length then adOf (oB os 3) else ad0, server := src, til := now + min N 1000000000, had := now, state := 3 }

set_option maxRecDepth 100000 in
set_option maxHeartbeats 4000000 in
theorem cbound_any (w : World) (g : Nat) (c : Cl) (h : CB w g c) (m : Hd) (A : Option Addr) (n cc : Nat) (l : List Op1) (ho : OS w w.heap.size A n cc l) (hB : ∀ o ∈ l, o.body.length ≤ 1099511627776)
    (src : Ad4) (N now : Int) (hN0 : 0 ≤ N) (hN1 : N < 4294967296) (hn0 : 0 ≤ now) (hn1 : now ≤ 1099511627776) (hR : (oB (obs l) 3).length ≤ 4) :
    Calls Try.prog 28 #[.pointer (some ⟨g, 0, none⟩), msV m A n cc, adV src, .int .u32 N, .int .i64 now] w (RefPost w g (c.heldAt m (obs l) src N now) (!(decide (3 ≤ c.state)) || !adeq c.addr m.yo)) := by
  have hb0 : ∀ o1 o2, Below w.heap.size w ((w.alloc o1).alloc o2) := fun o1 o2 => ((Below.refl _ w).alloc (Nat.le_refl _) o1).alloc (by simp) o2
  have b0 := hb0 (.cells (msC m A n cc) 37) (.cells (adC src) 34)
  have P0 : ((w.alloc (.cells (msC m A n cc) 37)).alloc (.cells (adC src) 34)).heap[w.heap.size]? = some (.cells (msC m A n cc) 37 (0, 0)) := heap_alloc_of (heap_alloc_new w _)
  have S0 : ((w.alloc (.cells (msC m A n cc) 37)).alloc (.cells (adC src) 34)).heap[w.heap.size + 1]? = some (.cells (adC src) 34 (0, 0)) := heap_alloc_at (by simp)
  have C0 : CB ((w.alloc (.cells (msC m A n cc) 37)).alloc (.cells (adC src) 34)) g c := h.below b0
  have gl := heap_lt h
  clear h hb0
  go_enter Try.func28, Try.ntmps28
  go_upto_region 1 with fail
  generalize (w.alloc (.cells (msC m A n cc) 37)).alloc (.cells (adC src) 34) = w1 at b0 P0 S0 C0 ⊢
  obtain ⟨b, hb⟩ : ∃ b, w.heap.size = b := ⟨_, rfl⟩
  have P1 := P0
  have S1 := S0
  rw [hb] at P1 S1 ⊢
  have hgb : g < b := by omega
  have HBB := Lib.hid hb
  clear P0 S0 hb
  have f1 := Ext.cells (w := w1.drew) (M := fun x => b + 1 < x) C0 (by omega)
  have l1 := heap_lt S1
  refine rg_begin (fun x => b + 1 < x) (by kernel_rfl) ?_
  refine rg_take (v := ?_) 0 rfl (by kernel_rfl) (by kernel_rfl) (by kernel_rfl) (fun _ _ _ h => h) (by rfl) ?_ ?_; rotate_left
  · (intro x hx; go_simp; first | done | with_reducible rfl | (rw [if_pos (by omega)]; try with_reducible rfl) | (rw [if_neg (by omega)]; try with_reducible rfl))
  try simp only [Act.put, List.setIfInBounds_toArray, List.set_cons_zero, List.set_cons_succ]
  refine rg_take (v := ?_) 1 rfl (by kernel_rfl) (by kernel_rfl) (by kernel_rfl) (fun _ _ _ h => h) (by rfl) ?_ ?_; rotate_left
  · (intro x hx; go_simp; first | done | with_reducible rfl | (rw [if_pos (by omega)]; try with_reducible rfl) | (rw [if_neg (by omega)]; try with_reducible rfl))
  try simp only [Act.put, List.setIfInBounds_toArray, List.set_cons_zero, List.set_cons_succ]
  refine rg_take (v := ?_) 2 rfl (by kernel_rfl) (by kernel_rfl) (by kernel_rfl) (fun _ _ _ h => h) (by rfl) ?_ ?_; rotate_left
  · (intro x hx; go_simp; first | done | with_reducible rfl | (rw [if_pos (by omega)]; try with_reducible rfl) | (rw [if_neg (by omega)]; try with_reducible rfl))
  try simp only [Act.put, List.setIfInBounds_toArray, List.set_cons_zero, List.set_cons_succ]
  refine rg_take (v := ?_) 3 rfl (by kernel_rfl) (by kernel_rfl) (by kernel_rfl) (fun _ _ _ h => h) (by rfl) ?_ ?_; rotate_left
  · (intro x hx; go_simp; first | done | with_reducible rfl | (rw [if_pos (by omega)]; try with_reducible rfl) | (rw [if_neg (by omega)]; try with_reducible rfl))
  try simp only [Act.put, List.setIfInBounds_toArray, List.set_cons_zero, List.set_cons_succ]
  refine rg_take (v := ?_) 4 rfl (by kernel_rfl) (by kernel_rfl) (by kernel_rfl) (fun _ _ _ h => h) (by rfl) ?_ ?_; rotate_left
  · (intro x hx; go_simp; first | done | with_reducible rfl | (rw [if_pos (by omega)]; try with_reducible rfl) | (rw [if_neg (by omega)]; try with_reducible rfl))
  try simp only [Act.put, List.setIfInBounds_toArray, List.set_cons_zero, List.set_cons_succ]
  refine rg_take (v := ?_) 5 rfl (by kernel_rfl) (by kernel_rfl) (by kernel_rfl) (fun _ _ _ h => h) (by rfl) ?_ ?_; rotate_left
  · (intro x hx; go_simp; first | done | with_reducible rfl | (rw [if_pos (by omega)]; try with_reducible rfl) | (rw [if_neg (by omega)]; try with_reducible rfl))
  try simp only [Act.put, List.setIfInBounds_toArray, List.set_cons_zero, List.set_cons_succ]
  refine rg_take (v := ?_) 6 rfl (by kernel_rfl) (by kernel_rfl) (by kernel_rfl) (fun _ _ _ h => h) (by rfl) ?_ ?_; rotate_left
  · (intro x hx; go_simp; first | done | with_reducible rfl | (rw [if_pos (by omega)]; try with_reducible rfl) | (rw [if_neg (by omega)]; try with_reducible rfl))
  try simp only [Act.put, List.setIfInBounds_toArray, List.set_cons_zero, List.set_cons_succ]
  refine rg_take (v := ?_) 7 rfl (by kernel_rfl) (by kernel_rfl) (by kernel_rfl) (fun _ _ _ h => h) (by rfl) ?_ ?_; rotate_left
  · (intro x hx; go_simp; first | done | with_reducible rfl | (rw [if_pos (by omega)]; try with_reducible rfl) | (rw [if_neg (by omega)]; try with_reducible rfl))
  try simp only [Act.put, List.setIfInBounds_toArray, List.set_cons_zero, List.set_cons_succ]
  refine rg_take (v := ?_) 8 rfl (by kernel_rfl) (by kernel_rfl) (by kernel_rfl) (fun _ _ _ h => h) (by rfl) ?_ ?_; rotate_left
  · (intro x hx; go_simp; first | done | with_reducible rfl | (rw [if_pos (by omega)]; try with_reducible rfl) | (rw [if_neg (by omega)]; try with_reducible rfl))
  try simp only [Act.put, List.setIfInBounds_toArray, List.set_cons_zero, List.set_cons_succ]
  refine rg_take (v := ?_) 9 rfl (by kernel_rfl) (by kernel_rfl) (by kernel_rfl) (fun _ _ _ h => h) (by rfl) ?_ ?_; rotate_left
  · (intro x hx; go_simp; first | done | with_reducible rfl | (rw [if_pos (by omega)]; try with_reducible rfl) | (rw [if_neg (by omega)]; try with_reducible rfl))
  try simp only [Act.put, List.setIfInBounds_toArray, List.set_cons_zero, List.set_cons_succ]
  refine rg_step 10 rfl (by kernel_rfl) (by rfl) (fun K hK => ?_)
  go_simp
  refine hK.out _ _ ((Ext.refl _ _).alloc _) ?_
  clear hK K; try simp only [Act.put, List.setIfInBounds_toArray, List.set_cons_zero, List.set_cons_succ]
  refine rg_step 11 rfl (by kernel_rfl) (by rfl) (fun K hK => ?_)
  --RAW
  apply wp_store_part 34
  case ho => exact rfl
  case hx => exact rfl
  case hy => exact rfl
  case hg => exact heap_alloc_at rfl
  case hle => simp
  case hi => kernel_rfl
  case h1 => kernel_rfl
  intro w2 g2 W2
  refine hK.out _ _ (Ext.of_grown g2 fun x hx => by injection hx with e; have e' : w1.drew.heap.size = w1.heap.size := rfl; omega) ?_
  clear hK K
  refine rg_take (v := ?_) 12 rfl (by kernel_rfl) (by kernel_rfl) (by kernel_rfl) (fun _ _ _ h => h) (by rfl) ?_ ?_; rotate_left
  · (intro x hx; go_simp; first | done | with_reducible rfl | (rw [if_pos (by omega)]; try with_reducible rfl) | (rw [if_neg (by omega)]; try with_reducible rfl))
  try simp only [Act.put, List.setIfInBounds_toArray, List.set_cons_zero, List.set_cons_succ]
  refine rg_done (by kernel_rfl) ?_
  have b12 : Below w1.heap.size w1 w2 := below_grown ((Below.refl _ w1).drew.alloc (Nat.le_refl _) _) g2 (by simp) (Nat.le_refl _)
  have W2' : w2.heap[w1.heap.size]? = some (.cells (adC c.addr) 34 (0, 0)) := W2
  obtain ⟨u, hu⟩ : ∃ u, w1.heap.size = u := ⟨_, rfl⟩
  have C2 := C0.below b12
  have P2 := below_at b12 P1 (heap_lt P1)
  have S2 := below_at b12 S1 l1
  have o2 := ((ho.below b0).below (b12.mono b0.size)).more (Nat.le_trans b0.size b12.size)
  have Q2 := b0.trans (b12.mono b0.size)
  have l2 := heap_lt W2'
  have Q2z := Q2.size
  have W2'' := W2'
  rw [hu] at W2'' l1 l2 ⊢
  clear W2 W2' b12 C0 P1 S1 f1 g2 b0 hu
  obtain ⟨hc, _⟩ := cells_of P2
  have y9 : w2.cell? ⟨b, 9, none⟩ = some (.int .u8 (m.yo.a.toNat : Int)) := hc 9
  have y10 : w2.cell? ⟨b, 10, none⟩ = some (.int .u8 (m.yo.b.toNat : Int)) := hc 10
  have y11 : w2.cell? ⟨b, 11, none⟩ = some (.int .u8 (m.yo.c.toNat : Int)) := hc 11
  have y12 : w2.cell? ⟨b, 12, none⟩ = some (.int .u8 (m.yo.d.toNat : Int)) := hc 12
  obtain ⟨hs, _⟩ := cells_of S2
  have e1 : IntKind.i64.wrap N = N := IntWalk.i64_in _ (by omega)
  clear hc
  obtain ⟨T, hT⟩ : ∃ T, min N 1000000000 = T := ⟨_, rfl⟩
  have hT0 : 0 ≤ T ∧ T ≤ 1000000000 := by omega
  have HT := Lib.hid hT
  go_upto_region 2 with fail
  go_cut [13] (fun v wx => BCut w2 (bdC m.yo ad0 ad0 src (now + T)) v wx)
  case first =>
    by_cases hN : N ≤ 1000000000
    · have hTN : T = N := by omega
      subst hTN
      have e2 : IntKind.i64.wrap (now + T) = now + T := IntWalk.i64_in _ (by omega)
      clear hT
      go_wp2_with ((with_reducible apply at_store_new 41); (case hx => exact rfl); (case hy => exact rfl); (case hg => first | rfl | simp); (case hi => kernel_rfl); (case hold => rfl); (case h1 => kernel_rfl))
      go_meet
      exact ⟨w2.heap.size, rfl, Nat.le_refl _, by rw [← bdC_new]; exact heap_alloc_new w2 _, (Below.refl _ w2).alloc (Nat.le_refl _) _⟩
    · have hTN : T = 1000000000 := by omega
      subst hTN
      clear hT
      go_wp2_with ((with_reducible apply at_store_new 41); (case hx => exact rfl); (case hy => exact rfl); (case hg => first | rfl | simp); (case hi => kernel_rfl); (case hold => rfl); (case h1 => kernel_rfl))
      go_meet
      exact ⟨w2.heap.size, rfl, Nat.le_refl _, by rw [← bdC_new]; exact heap_alloc_new w2 _, (Below.refl _ w2).alloc (Nat.le_refl _) _⟩
  case rest =>
    obtain ⟨p, rfl, hp, B3, b3⟩ := hcut
    have C3 := C2.below b3
    have P3 := below_at b3 P2 (heap_lt P2)
    have W3 := below_at b3 W2'' l2
    have o3 := (o2.below b3).more b3.size
    have Q3 := Q2.trans (b3.mono Q2.size)
    clear C2 P2 S2 o2 Q2 y9 y10 y11 y12 hs e1 hT b3
    have pb : b < p := by have := heap_lt W2''; omega
    have pu : u < p := by have := heap_lt W2''; omega
    obtain ⟨hc, _⟩ := cells_of P3
    have d27 : wc.cell? ⟨b, 27, none⟩ = some (.slice A n cc) := hc 27
    clear hc W2''
    go_wp2_with fail
    refine (oaddr_any wc A n cc l 1 o3 hB).mono ?_
    rw [← oA_obs, ← oK_obs]
    rintro e w4 ⟨rfl, b4⟩
    have C4 := C3.below b4
    have P4 := below_at b4 P3 (heap_lt P3)
    have W4 := below_at b4 W3 (heap_lt W3)
    have B4 := below_at b4 B3 (heap_lt B3)
    have o4 := (o3.below b4).more b4.size
    have Q4 := Q3.trans (b4.mono Q3.size)
    clear C3 P3 W3 B3 o3 Q3 b4 d27
    go_wp2_with (((with_reducible apply at_store_part 34); (case hx => exact rfl); (case hy => exact rfl); (case hg => exact B4); (case hle => simp); (case hi => kernel_rfl); (case h1 => kernel_rfl); (intro w5 g5 B5; replace B5 := Lib.hid B5)); (refine Hid.out ?_))
    refine Lib.hid ?_
    have B5' : w5.heap[p]? = some (.cells (bdC m.yo (oA (obs l) 1) ad0 src (now + T)) 41 (0, 0)) := B5.out
    have C5 : CB w5 g c := grown_at g5 C4 (by omega)
    have P5 := grown_at g5 P4 (by omega)
    have W5 := grown_at g5 W4 (by omega)
    have Q5 : Below w.heap.size w w5 := below_grown Q4 g5 Q4.size (by have := Q2z; omega)
    have o5 := (ho.below Q5).more Q5.size
    clear C4 P4 W4 B4 B5 o4 Q4 g5
    obtain ⟨hc, _⟩ := cells_of P5
    have d27 : w5.cell? ⟨b, 27, none⟩ = some (.slice A n cc) := hc 27
    clear hc
    go_wp2_with fail
    refine (find_any w5 A n cc l 3 o5 hB).mono ?_
    rw [← oB_obs]
    rintro e w6 ⟨A6, n6, c6, rfl, ob6, b6⟩
    have hn6 := ob6.1
    have C6 := C5.below b6
    have W6 := below_at b6 W5 (heap_lt W5)
    have B6 := below_at b6 B5' (heap_lt B5')
    have Q6 := Q5.trans (b6.mono Q5.size)
    clear C5 P5 W5 B5' o5 Q5 b6 d27
    obtain ⟨Rt, hRt⟩ : ∃ Rt, (if 4 ≤ (oB (obs l) 3).length then adOf (oB (obs l) 3) else ad0) = Rt := ⟨_, rfl⟩
    have HRT := Lib.hid hRt
    obtain ⟨rb, hrb⟩ : ∃ rb, oB (obs l) 3 = rb := ⟨_, rfl⟩
    rw [hrb] at hRt ob6 hn6 hR
    have HRB := Lib.hid hrb
    by_cases h4 : 4 ≤ n6
    case' pos =>
      have hn4 : n6 = 4 := by omega
      subst hn4
      have h4' : rb.length = 4 := hn6.symm
      rw [if_pos (by omega)] at hRt
      have HLN := Lib.hid h4'
      have hRt' := Lib.hid hRt
      clear hn6 hrb hRt h4 h4' hR
      go_upto_region 7 with (refine wpList_copy8 rfl _ _ rfl p 8 4 4 _ 41 rfl B6 w6.heap.size 4 c6 A6 rb rfl ob6.bs (Nat.le_refl _) (by simp) ?_; intro w7 B7 g7; replace B7 := Lib.hid B7)
      have B7' : w7.heap[p]? = some (.cells (bdC m.yo (oA (obs l) 1) Rt src (now + T)) 41 (0, 0)) := by
        have e := B7.out
        rw [splice_bd _ _ _ _ _ HLN.out, hRt'.out] at e
        exact e
      have C7 : CB w7 g c := grown_at g7 C6 (by omega)
      have W7 := grown_at g7 W6 (by omega)
      have Q7 : Below w.heap.size w w7 := below_grown Q6 g7 Q6.size (by have := Q2z; omega)
      clear B6 C6 W6 Q6 g7 B7 ob6
    case' neg =>
      rw [if_neg (by omega)] at hRt
      have hRt' := Lib.hid hRt
      have hn3 : n6 ≤ 3 := by omega
      clear hn6 hrb hRt h4 hR
      go_upto_region 7 with fail
      have B7' : w6.heap[p]? = some (.cells (bdC m.yo (oA (obs l) 1) Rt src (now + T)) 41 (0, 0)) := by rw [← hRt'.out]; exact B6
      have C7 := C6
      have W7 := W6
      have Q7 := Q6
      clear B6 C6 W6 Q6 ob6
      obtain ⟨w7, hw7⟩ : ∃ w7, w6 = w7 := ⟨_, rfl⟩
      rw [hw7] at B7' C7 W7 Q7 ⊢
      clear hw7
    all_goals
      go_wp2_with (first | ((with_reducible apply at_load_row 41); (case hx => exact rfl); (case hg => exact B7'); (case hu => exact Try.underlying41); (case hd => rfl); (case hi => kernel_rfl)) | (((with_reducible apply at_store_part 41); (case hx => exact rfl); (case hy => exact rfl); (case hg => exact C7); (case hle => simp); (case hi => kernel_rfl); (case h1 => kernel_rfl); (intro w8 g8 C8; replace C8 := Lib.hid C8)); (refine Hid.out ?_)))
      refine Lib.hid ?_
      have C8' : CB w8 g { c with addr := m.yo, mask := oA (obs l) 1, router := Rt, server := src, til := now + T } := C8.out
      have W8 := grown_at g8 W7 (by omega)
      have B8 := grown_at g8 B7' (by omega)
      clear C7 W7 B7' C8
      go_wp2_with (((with_reducible apply at_store_one 2); (case hx => exact rfl); (case hy => exact rfl); (case hg => exact C8'); (case hle => simp); (case hv => rfl); (case hi => kernel_rfl); (case h1 => rfl); (intro w9 g9 C9; replace C9 := Lib.hid C9)); (refine Hid.out ?_))
      refine Lib.hid ?_
      have C9' : CB w9 g { c with addr := m.yo, mask := oA (obs l) 1, router := Rt, server := src, til := now + T, had := now } := C9.out
      have W9 := grown_at g9 W8 (by omega)
      have B9 := grown_at g9 B8 (by omega)
      clear C8' W8 B8 C9
      go_wp2_with (((with_reducible apply at_store_one 3); (case hx => exact rfl); (case hy => exact rfl); (case hg => exact C9'); (case hle => simp); (case hv => rfl); (case hi => kernel_rfl); (case h1 => rfl); (intro w10 g10 C10; replace C10 := Lib.hid C10)); (refine Hid.out ?_))
      refine Lib.hid ?_
      have C10' : CB w10 g (c.heldAt m (obs l) src N now) := by rw [Cl.heldAt, HRT.out, HT.out]; exact C10.out
      have W10 := grown_at g10 W9 (by omega)
      have B10 := grown_at g10 B9 (by omega)
      have GG : w.grownBy w10 (some g) := by
        have h1 : w.grownBy w7 (some g) := ⟨Q7.os, Q7.tape, Q7.output, Q7.size, fun k hk _ => Q7.block k hk⟩
        exact grown_trans (grown_trans (grown_trans h1 g8) g9) g10
      clear C9' W9 B9 C10 g8 g9 g10 Q7
      obtain ⟨hcu, _⟩ := cells_of W10
      obtain ⟨hcb, _⟩ := cells_of B10
      have em := fun w => run_neq_ad w c.addr m.yo
      by_cases hs : 3 ≤ c.state
      · have t1 : decide (3 ≤ c.state) = true := decide_eq_true hs
        have T1 := Lib.hid t1
        clear W10 B10
        go_wp2_with fail
        go_ret
        try rw [T1.out]
        exact ⟨rfl, C10', GG⟩
      · have t1 : decide (3 ≤ c.state) = false := decide_eq_false hs
        have T1 := Lib.hid t1
        clear W10 B10
        go_wp2_with fail
        go_ret
        try rw [T1.out]
        exact ⟨rfl, C10', GG⟩
end Go.Proofs.Ytjpmfmmgmlnanaa
