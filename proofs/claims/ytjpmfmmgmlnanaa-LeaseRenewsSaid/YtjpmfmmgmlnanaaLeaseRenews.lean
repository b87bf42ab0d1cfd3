/-
  The walk of the statement LeaseRenews.
-/
import Derived.Test.YtjpmfmmgmlnanaaLeaseNaks
namespace Go.Proofs.Ytjpmfmmgmlnanaa
open Go.RowKit

def a5C : Array Value := #[.int .u8 10, .int .u8 0, .int .u8 0, .int .u8 5]
def bdU (t : Int) : Array Value := bdC a5 ⟨255, 0, 0, 0⟩ ⟨10, 0, 0, 253⟩ s254 t
def hR (xid : Int) : Hd := ⟨1, 0, xid, 0, 0, a5, ad0, ad0, ad0, lmac⟩
/-- It has the address, and has looked at the clock. -/
def cP (t0 secs now : Int) : Cl := ⟨lmac, 3, now, 7, a5, ⟨255, 0, 0, 0⟩, ⟨10, 0, 0, 253⟩, s254, t0 + secs, t0, a5, s254, t0, 4, 1⟩
section
variable (t0 secs : Int) (h0 : 0 ≤ t0) (h1 : t0 ≤ 1073741824) (s0 : 60 ≤ secs) (s1 : secs ≤ 5000)
include h0 h1 s0 s1
theorem cH_early : (cH t0 7 secs t0).tick (t0 + secs / 2 - 1) 8 = (cP t0 secs (t0 + secs / 2 - 1), false) := by
  have e1 : t0 < t0 + secs / 2 - 1 := by omega
  have e2 : t0 + secs / 2 - 1 ≤ 1099511627776 := by omega
  have e3 : ¬ t0 + secs ≤ t0 + secs / 2 - 1 := by omega
  have e4 : t0 + secs / 2 - 1 < t0 + (t0 + secs - t0) / 2 := by omega
  simp only [Cl.tick, Cl.time, cH, e1, e2, and_self, if_true, Cl.late, e3, and_false, if_false, Cl.go, e4, cP]
  simp
theorem cP_half : (cP t0 secs (t0 + secs / 2 - 1)).tick (t0 + secs / 2) 9 = (cR t0 secs 9 1, true) := by
  have e1 : t0 + secs / 2 - 1 < t0 + secs / 2 := by omega
  have e2 : t0 + secs / 2 ≤ 1099511627776 := by omega
  have e3 : ¬ t0 + secs ≤ t0 + secs / 2 := by omega
  have e4 : (t0 + secs - t0) / 2 = secs / 2 := by omega
  simp only [Cl.tick, Cl.time, cP, e1, e2, and_self, if_true, Cl.late, e3, and_false, if_false, Cl.go, e4, Int.lt_irrefl, Cl.start, cR]
  simp
theorem cP_ok : (cP t0 secs (t0 + secs / 2 - 1)).ok := by constructor <;> simp only [cP] <;> omega
omit h0 h1 in
theorem cR_acked : ((cR t0 secs 9 1).acked a5 secs).til = t0 + secs / 2 + secs := by
  simp only [Cl.acked, cR]
  omega
end
theorem cR_msg (t0 secs xid n : Int) : (cR t0 secs xid n).msg = (hR xid, [(53, [3])]) := by simp [Cl.msg, cR, hR]
theorem cQ_msg (t0 secs xid : Int) : (cQ t0 secs xid).msg = (hR xid, [(53, [3])]) := by simp [Cl.msg, cQ, hR]

set_option maxRecDepth 100000 in
set_option maxHeartbeats 4000000 in
theorem leaseRenews_in (w : World) (secs at0 : Int) (ans : Bool) (s0 : 60 ≤ secs) (s1 : secs ≤ 5000) (h0 : 0 ≤ at0) (h1 : at0 ≤ 1073741824) :
    Calls Try.prog 7 #[.int .u32 secs, .int .i64 at0, .bool ans] w (TruePost w) := by
  have x1 : decide (secs < 60) = false := decide_eq_false (by omega)
  have x2 : decide (5000 < secs) = false := decide_eq_false (by omega)
  have x3 : decide (at0 < 0) = false := decide_eq_false (by omega)
  have x4 : decide (1073741824 < at0) = false := decide_eq_false (by omega)
  go_enter Try.func7, Try.ntmps7
  go_wp2_with fail
  refine (awake16_any w).mono ?_
  rintro e w0 ⟨rfl, q0⟩
  go_wp2_with fail
  refine (lmac_any w0).mono ?_
  rintro e w1 ⟨rfl, q1⟩
  replace q1 := q0.trans (q1.mono q0.size)
  go_wp2_with fail
  refine (cnew_any w1 lmac).mono ?_
  rintro e w2 ⟨g, rfl, hg1, C2, q2⟩
  have G0 : w.heap.size ≤ g := Nat.le_trans q1.size hg1
  replace q2 := q1.trans (q2.mono q1.size)
  clear q0 q1 x1 x2 x3 x4 hg1
  go_upto_region 7 with ((with_reducible apply at_store_new 34); (case hx => exact rfl); (case hy => exact rfl); (case hg => first | rfl | simp); (case hi => kernel_rfl); (case hold => rfl); (case h1 => kernel_rfl))
  have C3 := C2.below ((Below.refl _ w2).alloc (Nat.le_refl _) (.cells a5C 34))
  have b3 := q2.alloc q2.size (.cells a5C 34)
  have P3 := heap_alloc_new w2 (.cells a5C 34)
  obtain ⟨x, hx⟩ : ∃ x, w2.heap.size = x := ⟨_, rfl⟩
  have gx : x ≠ g ∧ x < w2.heap.size + 1 := by have := heap_lt C2; omega
  replace P3 : (w2.alloc (.cells a5C 34)).heap[x]? = some (.cells a5C 34 (0, 0)) := by rw [← hx]; exact P3
  rw [hx]
  clear hx
  rw [show (#[.int .u8 10, .int .u8 0, .int .u8 0, .int .u8 5] : Array Value) = a5C from rfl]
  generalize w2.alloc (.cells a5C 34) = w3 at C3 b3 P3 ⊢
  clear C2 q2
  go_wp2_with fail
  refine (ctick_any w3 g _ C3 at0 7 (new_ok lmac)).mono ?_
  rw [tick_new at0 7 h0 (by omega)]
  rintro e w4 ⟨v4, rfl, C4, g4, -⟩
  have P4 := grown_at g4 P3 gx.1
  have b4 := below_row b3 g4 G0 (Nat.le_refl _)
  have hg4 : g < w4.heap.size := heap_lt C4
  clear C3 P3 g4 b3
  go_wp2_with ((with_reducible apply at_load_row 34); (case hx => exact rfl); (case hg => exact P4); (case hu => exact Try.underlying34); (case hd => rfl); (case hi => kernel_rfl))
  refine (word_at w4 2 2 rfl 7 a5 _ rfl secs (by omega) (by omega)).mono ?_
  rintro e w5 ⟨A5, n5, cc5, l5, rfl, O5, L5, q5⟩
  have C5 := C4.below q5
  have P5 := below_at q5 P4 (heap_lt P4)
  have b5 := b4.trans (q5.mono b4.size)
  clear C4 P4 q5 b4
  go_wp2_with fail
  refine (get_offer w5 g w4.heap.size (cS at0 7) C5 7 a5 secs A5 n5 cc5 l5 O5 L5 hg4 at0 (cS at0 7) (time_same _ _ (Int.le_refl _)) (cS_ok at0 7 h0 (by omega) (by decide) (by decide)) rfl rfl rfl a5_ne).mono ?_
  rw [cS_asks]
  rintro e w6 ⟨v6, rfl, C6, g6, -⟩
  have P6 := grown_at g6 P5 gx.1
  have b6 := below_row b5 g6 G0 (Nat.le_refl _)
  have hg6 : g < w6.heap.size := heap_lt C6
  clear C5 P5 g6 b5 O5 L5
  go_wp2_with ((with_reducible apply at_load_row 34); (case hx => exact rfl); (case hg => exact P6); (case hu => exact Try.underlying34); (case hd => rfl); (case hi => kernel_rfl))
  refine (word_at w6 5 5 rfl 7 a5 _ rfl secs (by omega) (by omega)).mono ?_
  rintro e w7 ⟨A7, n7, cc7, l7, rfl, O7, L7, q7⟩
  have C7 := C6.below q7
  have P7 := below_at q7 P6 (heap_lt P6)
  have b7 := b6.trans (q7.mono b6.size)
  clear C6 P6 q7 b6
  go_wp2_with fail
  refine (get_ack w7 g w6.heap.size (cO at0 7) C7 7 a5 secs (by omega) (by omega) A7 n7 cc7 l7 O7 L7 hg6 at0 (cO at0 7) (time_same _ _ (Int.le_refl _)) (cO_ok at0 7 h0 (by omega) (by decide) (by decide)) rfl rfl (.inl ⟨rfl, rfl⟩) a5_ne).mono ?_
  rw [show (cO at0 7).acked a5 secs = cH at0 7 secs at0 by rw [← cO_acked at0 7 secs at0 (by omega) (Int.le_refl _) (by omega), time_same (cO at0 7) at0 (Int.le_refl _)]]
  rintro e w8 ⟨v8, rfl, C8, g8, -⟩
  have P8 := grown_at g8 P7 gx.1
  have b8 := below_row b7 g8 G0 (Nat.le_refl _)
  clear C7 P7 g8 b7 O7 L7
  have R1 := Lib.hid (cH_early at0 secs h0 h1 s0 s1)
  have R2 := Lib.hid (cP_half at0 secs h0 h1 s0 s1)
  have hb : 30 ≤ secs / 2 ∧ secs / 2 ≤ 2500 := by omega
  have K1 := Lib.hid (cH_ok at0 7 secs at0 h0 (by omega) (by decide) (by decide) h0 (by omega) (by omega) (by omega))
  have K2 := Lib.hid (cP_ok at0 secs h0 h1 s0 s1)
  have K3 := Lib.hid (cR_ok at0 secs 9 h0 h1 s0 s1 (by decide) (by decide))
  go_wp2_with fail
  refine (ctick_any w8 g _ C8 (at0 + secs / 2 - 1) 8 K1.out).mono ?_
  rw [R1.out]
  rintro e w9 ⟨v9, rfl, C9, g9, M9⟩
  have hv : v9 = .slice none 0 0 := M9
  subst hv
  have P9 := grown_at g9 P8 gx.1
  have b9 := below_row b8 g9 G0 (Nat.le_refl _)
  clear C8 P8 g9 b8 M9 R1 K1
  go_wp2_with fail
  refine (ctick_any w9 g _ C9 (at0 + secs / 2) 9 K2.out).mono ?_
  rw [R2.out]
  rintro e wa ⟨va, rfl, Ca, ga, Ma⟩
  replace Ma : Msl wa w9.heap.size va (some (cR at0 secs 9 1).msg) := Ma
  rw [cR_msg] at Ma
  have Pa := grown_at ga P9 gx.1
  have ba := below_row b9 ga G0 (Nat.le_refl _)
  obtain ⟨bm, Am, nm, cm, lm, rfl, hbm, PM, OM, LM⟩ := Ma.some
  have TM := Lib.hid (show typeO (obs lm) = 3 by rw [LM, typeO_cons 3 _ (by decide) (by decide)]; rfl)
  have LLM := Lib.hid LM
  clear C9 P9 ga b9 Ma LM R2 K2
  go_upto_region 13 with fail
  have r0 : Below wa.heap.size wa wa.drew := (Below.refl _ _).drew
  have hbg : bm ≠ g := Ca.ne PM (by decide)
  have CM := Ext.at_ (M := fun _ => False) (w := wa.drew) PM (fun h => h)
  have xd : ((hR 9).xid != 9) = false := rfl
  have em := fun w => run_neq_ad w (hR 9).cl a5
  rw [show (!adeq (hR 9).cl a5) = false from rfl] at em
  change ∀ w, (binOp .neq 34 (adV (hR 9).cl) (.agg a5C)).run Try.prog w = _ at em
  refine rg_begin (fun _ => False) (by kernel_rfl) ?_
  refine rg_take (v := ?_) 0 rfl (by kernel_rfl) (by kernel_rfl) (by kernel_rfl) (fun _ _ _ h => h) (by rfl) ?_ ?_; rotate_left
  · (intro x hx; go_simp; first | done | with_reducible rfl | (rw [if_pos (by omega)]; try with_reducible rfl) | (rw [if_neg (by omega)]; try with_reducible rfl))
  try simp only [Act.put, List.setIfInBounds_toArray, List.set_cons_zero, List.set_cons_succ]
  refine rg_take (v := ?_) 1 rfl (by kernel_rfl) (by kernel_rfl) (by kernel_rfl) (fun _ _ _ h => h) (by rfl) ?_ ?_; rotate_left
  · (intro x hx; go_simp; first | done | with_reducible rfl | (rw [if_pos (by omega)]; try with_reducible rfl) | (rw [if_neg (by omega)]; try with_reducible rfl))
  try simp only [Act.put, List.setIfInBounds_toArray, List.set_cons_zero, List.set_cons_succ]
  refine rg_take (v := ?_) 2 rfl (by kernel_rfl) (by kernel_rfl) (by kernel_rfl) (fun _ _ _ h => h) (by rfl) ?_ ?_; rotate_left
  · (intro x hx; go_simp; first | done | with_reducible rfl | (rw [if_pos (by omega)]; try with_reducible rfl) | (rw [if_neg (by omega)]; try with_reducible rfl))
  try simp only [Act.put, List.setIfInBounds_toArray, List.set_cons_zero, List.set_cons_succ]
  refine rg_take (v := ?_) 3 rfl (by kernel_rfl) (by kernel_rfl) (by kernel_rfl) (fun _ _ _ h => h) (by rfl) ?_ ?_; rotate_left
  · (intro x hx; go_simp; first | done | with_reducible rfl | (rw [if_pos (by omega)]; try with_reducible rfl) | (rw [if_neg (by omega)]; try with_reducible rfl))
  try simp only [Act.put, List.setIfInBounds_toArray, List.set_cons_zero, List.set_cons_succ]
  refine rg_take (v := ?_) 4 rfl (by kernel_rfl) (by kernel_rfl) (by kernel_rfl) (fun _ _ _ h => h) (by rfl) ?_ ?_; rotate_left
  · (intro x hx; go_simp; first | done | with_reducible rfl | (rw [if_pos (by omega)]; try with_reducible rfl) | (rw [if_neg (by omega)]; try with_reducible rfl))
  try simp only [Act.put, List.setIfInBounds_toArray, List.set_cons_zero, List.set_cons_succ]
  refine rg_take (v := ?_) 5 rfl (by kernel_rfl) (by kernel_rfl) (by kernel_rfl) (fun _ _ _ h => h) (by rfl) ?_ ?_; rotate_left
  · (intro x hx; go_simp; first | done | with_reducible rfl | (rw [if_pos (by omega)]; try with_reducible rfl) | (rw [if_neg (by omega)]; try with_reducible rfl))
  try simp only [Act.put, List.setIfInBounds_toArray, List.set_cons_zero, List.set_cons_succ]
  refine rg_take (v := ?_) 6 rfl (by kernel_rfl) (by kernel_rfl) (by kernel_rfl) (fun _ _ _ h => h) (by rfl) ?_ ?_; rotate_left
  · (intro x hx; go_simp; first | done | with_reducible rfl | (rw [if_pos (by omega)]; try with_reducible rfl) | (rw [if_neg (by omega)]; try with_reducible rfl))
  try simp only [Act.put, List.setIfInBounds_toArray, List.set_cons_zero, List.set_cons_succ]
  refine rg_take (v := ?_) 7 rfl (by kernel_rfl) (by kernel_rfl) (by kernel_rfl) (fun _ _ _ h => h) (by rfl) ?_ ?_; rotate_left
  · (intro x hx; go_simp; first | done | with_reducible rfl | (rw [if_pos (by omega)]; try with_reducible rfl) | (rw [if_neg (by omega)]; try with_reducible rfl))
  try simp only [Act.put, List.setIfInBounds_toArray, List.set_cons_zero, List.set_cons_succ]
  refine rg_take (v := ?_) 8 rfl (by kernel_rfl) (by kernel_rfl) (by kernel_rfl) (fun _ _ _ h => h) (by rfl) ?_ ?_; rotate_left
  · (intro x hx; go_simp; first | done | with_reducible rfl | (rw [if_pos (by omega)]; try with_reducible rfl) | (rw [if_neg (by omega)]; try with_reducible rfl))
  try simp only [Act.put, List.setIfInBounds_toArray, List.set_cons_zero, List.set_cons_succ]
  refine rg_take (v := ?_) 9 rfl (by kernel_rfl) (by kernel_rfl) (by kernel_rfl) (fun _ _ _ h => h) (by rfl) ?_ ?_; rotate_left
  · (intro x hx; go_simp; first | done | with_reducible rfl | (rw [if_pos (by omega)]; try with_reducible rfl) | (rw [if_neg (by omega)]; try with_reducible rfl))
  try simp only [Act.put, List.setIfInBounds_toArray, List.set_cons_zero, List.set_cons_succ]
  refine rg_take (v := ?_) 10 rfl (by kernel_rfl) (by kernel_rfl) (by kernel_rfl) (fun _ _ _ h => h) (by rfl) ?_ ?_; rotate_left
  · (intro x hx; go_simp; first | done | with_reducible rfl | (rw [if_pos (by omega)]; try with_reducible rfl) | (rw [if_neg (by omega)]; try with_reducible rfl))
  try simp only [Act.put, List.setIfInBounds_toArray, List.set_cons_zero, List.set_cons_succ]
  refine rg_take (v := .agg (msC (hR 9) Am nm cm)) 11 rfl (by kernel_rfl) (by kernel_rfl) (by kernel_rfl) (fun _ _ _ h => h) (by rfl) ?_ ?_
  · (intro x hx; apply run_load_big; (case ho => exact rfl); (case hv => exact rfl); (case hg => exact CM x hx); (case hu => exact Try.underlying37); (case hd => rfl); (case hi => kernel_rfl))
  try simp only [Act.put, List.setIfInBounds_toArray, List.set_cons_zero, List.set_cons_succ]
  refine rg_step 12 rfl (by kernel_rfl) (by rfl) (fun K hK => ?_)
  go_simp
  refine (type_any _ (hR 9) Am nm cm lm (OM.below r0).os (bodies_of LLM.out (by simp))).mono ?_
  rw [TM.out]
  rintro e wb ⟨rfl, q1⟩
  have r1 := r0.trans (q1.mono r0.size)
  have f1 := Ext.cells (w := wb) (M := fun _ => False) (below_at r1 PM (heap_lt PM)) (fun h => h)
  have CA := Ext.at_ (M := fun _ => False) (w := wb) (below_at r1 Pa (heap_lt Pa)) (fun h => h)
  refine hK.out _ _ (Ext.below_all _ q1) ?_
  clear hK K; try simp only [Act.put, List.setIfInBounds_toArray, List.set_cons_zero, List.set_cons_succ]
  refine rg_take (v := ?_) 13 rfl (by kernel_rfl) (by kernel_rfl) (by kernel_rfl) (fun _ _ _ h => h) (by rfl) ?_ ?_; rotate_left
  · (intro x hx; go_simp; first | done | with_reducible rfl | (rw [if_pos (by omega)]; try with_reducible rfl) | (rw [if_neg (by omega)]; try with_reducible rfl))
  try simp only [Act.put, List.setIfInBounds_toArray, List.set_cons_zero, List.set_cons_succ]
  refine rg_take (v := ?_) 14 rfl (by kernel_rfl) (by kernel_rfl) (by kernel_rfl) (fun _ _ _ h => h) (by rfl) ?_ ?_; rotate_left
  · (intro x hx; go_simp; first | done | with_reducible rfl | (rw [if_pos (by omega)]; try with_reducible rfl) | (rw [if_neg (by omega)]; try with_reducible rfl))
  try simp only [Act.put, List.setIfInBounds_toArray, List.set_cons_zero, List.set_cons_succ]
  refine rg_take (v := ?_) 15 rfl (by kernel_rfl) (by kernel_rfl) (by kernel_rfl) (fun _ _ _ h => h) (by rfl) ?_ ?_; rotate_left
  · (intro x hx; go_simp; first | done | with_reducible rfl | (rw [if_pos (by omega)]; try with_reducible rfl) | (rw [if_neg (by omega)]; try with_reducible rfl))
  try simp only [Act.put, List.setIfInBounds_toArray, List.set_cons_zero, List.set_cons_succ]
  refine rg_take (v := ?_) 16 rfl (by kernel_rfl) (by kernel_rfl) (by kernel_rfl) (fun _ _ _ h => h) (by rfl) ?_ ?_; rotate_left
  · (intro x hx; go_simp; first | done | with_reducible rfl | (rw [if_pos (by omega)]; try with_reducible rfl) | (rw [if_neg (by omega)]; try with_reducible rfl))
  try simp only [Act.put, List.setIfInBounds_toArray, List.set_cons_zero, List.set_cons_succ]
  refine rg_take (v := ?_) 17 rfl (by kernel_rfl) (by kernel_rfl) (by kernel_rfl) (fun _ _ _ h => h) (by rfl) ?_ ?_; rotate_left
  · (intro x hx; go_simp; first | done | with_reducible rfl | (rw [if_pos (by omega)]; try with_reducible rfl) | (rw [if_neg (by omega)]; try with_reducible rfl))
  try simp only [Act.put, List.setIfInBounds_toArray, List.set_cons_zero, List.set_cons_succ]
  refine rg_take (v := ?_) 18 rfl (by kernel_rfl) (by kernel_rfl) (by kernel_rfl) (fun _ _ _ h => h) (by rfl) ?_ ?_; rotate_left
  · (intro x hx; go_simp; first | done | with_reducible rfl | (rw [if_pos (by omega)]; try with_reducible rfl) | (rw [if_neg (by omega)]; try with_reducible rfl))
  try simp only [Act.put, List.setIfInBounds_toArray, List.set_cons_zero, List.set_cons_succ]
  refine rg_take (v := ?_) 19 rfl (by kernel_rfl) (by kernel_rfl) (by kernel_rfl) (fun _ _ _ h => h) (by rfl) ?_ ?_; rotate_left
  · (intro x hx; go_simp; first | done | with_reducible rfl | (rw [if_pos (by omega)]; try with_reducible rfl) | (rw [if_neg (by omega)]; try with_reducible rfl))
  try simp only [Act.put, List.setIfInBounds_toArray, List.set_cons_zero, List.set_cons_succ]
  refine rg_take (v := .agg (a5C)) 20 rfl (by kernel_rfl) (by kernel_rfl) (by kernel_rfl) (fun _ _ _ h => h) (by rfl) ?_ ?_
  · (intro x hx; apply run_load_big; (case ho => exact rfl); (case hv => exact rfl); (case hg => exact CA x hx); (case hu => exact Try.underlying34); (case hd => rfl); (case hi => kernel_rfl))
  try simp only [Act.put, List.setIfInBounds_toArray, List.set_cons_zero, List.set_cons_succ]
  refine rg_take (v := ?_) 21 rfl (by kernel_rfl) (by kernel_rfl) (by kernel_rfl) (fun _ _ _ h => h) (by rfl) ?_ ?_; rotate_left
  · (intro x hx; go_simp; first | done | with_reducible rfl | (rw [if_pos (by omega)]; try with_reducible rfl) | (rw [if_neg (by omega)]; try with_reducible rfl))
  try simp only [Act.put, List.setIfInBounds_toArray, List.set_cons_zero, List.set_cons_succ]
  refine rg_take (v := ?_) 22 rfl (by kernel_rfl) (by kernel_rfl) (by kernel_rfl) (fun _ _ _ h => h) (by rfl) ?_ ?_; rotate_left
  · (intro x hx; go_simp; first | done | with_reducible rfl | (rw [if_pos (by omega)]; try with_reducible rfl) | (rw [if_neg (by omega)]; try with_reducible rfl))
  try simp only [Act.put, List.setIfInBounds_toArray, List.set_cons_zero, List.set_cons_succ]
  refine rg_take (v := ?_) 23 rfl (by kernel_rfl) (by kernel_rfl) (by kernel_rfl) (fun _ _ _ h => h) (by rfl) ?_ ?_; rotate_left
  · (intro x hx; go_simp; first | done | with_reducible rfl | (rw [if_pos (by omega)]; try with_reducible rfl) | (rw [if_neg (by omega)]; try with_reducible rfl))
  try simp only [Act.put, List.setIfInBounds_toArray, List.set_cons_zero, List.set_cons_succ]
  refine rg_take (v := ?_) 24 rfl (by kernel_rfl) (by kernel_rfl) (by kernel_rfl) (fun _ _ _ h => h) (by rfl) ?_ ?_; rotate_left
  · (intro x hx; go_simp; first | done | with_reducible rfl | (rw [if_pos (by omega)]; try with_reducible rfl) | (rw [if_neg (by omega)]; try with_reducible rfl))
  try simp only [Act.put, List.setIfInBounds_toArray, List.set_cons_zero, List.set_cons_succ]
  refine rg_take (v := ?_) 25 rfl (by kernel_rfl) (by kernel_rfl) (by kernel_rfl) (fun _ _ _ h => h) (by rfl) ?_ ?_; rotate_left
  · (intro x hx; go_simp; first | done | with_reducible rfl | (rw [if_pos (by omega)]; try with_reducible rfl) | (rw [if_neg (by omega)]; try with_reducible rfl))
  try simp only [Act.put, List.setIfInBounds_toArray, List.set_cons_zero, List.set_cons_succ]
  refine rg_take (v := ?_) 26 rfl (by kernel_rfl) (by kernel_rfl) (by kernel_rfl) (fun _ _ _ h => h) (by rfl) ?_ ?_; rotate_left
  · (intro x hx; go_simp; first | done | with_reducible rfl | (rw [if_pos (by omega)]; try with_reducible rfl) | (rw [if_neg (by omega)]; try with_reducible rfl))
  try simp only [Act.put, List.setIfInBounds_toArray, List.set_cons_zero, List.set_cons_succ]
  refine rg_take (v := ?_) 27 rfl (by kernel_rfl) (by kernel_rfl) (by kernel_rfl) (fun _ _ _ h => h) (by rfl) ?_ ?_; rotate_left
  · (intro x hx; go_simp; first | done | with_reducible rfl | (rw [if_pos (by omega)]; try with_reducible rfl) | (rw [if_neg (by omega)]; try with_reducible rfl))
  try simp only [Act.put, List.setIfInBounds_toArray, List.set_cons_zero, List.set_cons_succ]
  refine rg_take (v := ?_) 28 rfl (by kernel_rfl) (by kernel_rfl) (by kernel_rfl) (fun _ _ _ h => h) (by rfl) ?_ ?_; rotate_left
  · (intro x hx; go_simp; first | done | with_reducible rfl | (rw [if_pos (by omega)]; try with_reducible rfl) | (rw [if_neg (by omega)]; try with_reducible rfl))
  try simp only [Act.put, List.setIfInBounds_toArray, List.set_cons_zero, List.set_cons_succ]
  refine rg_take (v := ?_) 29 rfl (by kernel_rfl) (by kernel_rfl) (by kernel_rfl) (fun _ _ _ h => h) (by rfl) ?_ ?_; rotate_left
  · (intro x hx; go_simp; first | done | with_reducible rfl | (rw [if_pos (by omega)]; try with_reducible rfl) | (rw [if_neg (by omega)]; try with_reducible rfl))
  try simp only [Act.put, List.setIfInBounds_toArray, List.set_cons_zero, List.set_cons_succ]
  refine rg_take (v := ?_) 30 rfl (by kernel_rfl) (by kernel_rfl) (by kernel_rfl) (fun _ _ _ h => h) (by rfl) ?_ ?_; rotate_left
  · (intro x hx; go_simp; first | done | with_reducible rfl | (rw [if_pos (by omega)]; try with_reducible rfl) | (rw [if_neg (by omega)]; try with_reducible rfl))
  try simp only [Act.put, List.setIfInBounds_toArray, List.set_cons_zero, List.set_cons_succ]
  refine rg_take (v := ?_) 31 rfl (by kernel_rfl) (by kernel_rfl) (by kernel_rfl) (fun _ _ _ h => h) (by rfl) ?_ ?_; rotate_left
  · (intro x hx; go_simp; first | done | with_reducible rfl | (rw [if_pos (by omega)]; try with_reducible rfl) | (rw [if_neg (by omega)]; try with_reducible rfl))
  try simp only [Act.put, List.setIfInBounds_toArray, List.set_cons_zero, List.set_cons_succ]
  refine rg_step 32 rfl (by kernel_rfl) (by rfl) (fun K hK => ?_)
  go_simp
  refine (cstate_any _ g _ (Ca.below r1)).mono ?_
  rw [show (cR at0 secs 9 1).state = 4 from rfl]
  rintro e wc ⟨rfl, rfl⟩
  refine hK.out _ _ (Ext.refl _ _) ?_
  clear hK K; try simp only [Act.put, List.setIfInBounds_toArray, List.set_cons_zero, List.set_cons_succ]
  refine rg_take (v := ?_) 33 rfl (by kernel_rfl) (by kernel_rfl) (by kernel_rfl) (fun _ _ _ h => h) (by rfl) ?_ ?_; rotate_left
  · (intro x hx; go_simp; first | done | with_reducible rfl | (rw [if_pos (by omega)]; try with_reducible rfl) | (rw [if_neg (by omega)]; try with_reducible rfl))
  try simp only [Act.put, List.setIfInBounds_toArray, List.set_cons_zero, List.set_cons_succ]
  refine rg_take (v := ?_) 34 rfl (by kernel_rfl) (by kernel_rfl) (by kernel_rfl) (fun _ _ _ h => h) (by rfl) ?_ ?_; rotate_left
  · (intro x hx; go_simp; first | done | with_reducible rfl | (rw [if_pos (by omega)]; try with_reducible rfl) | (rw [if_neg (by omega)]; try with_reducible rfl))
  try simp only [Act.put, List.setIfInBounds_toArray, List.set_cons_zero, List.set_cons_succ]
  refine rg_done (by kernel_rfl) ?_
  have Cb := Ca.below r1
  have Pb := below_at r1 Pa (heap_lt Pa)
  have bb := ba.trans (r1.mono ba.size)
  clear CM CA f1 em xd Ca Pa ba
  cases ans
  · have R3 := Lib.hid (cR_late at0 secs 9 10 h0 h1 s0 s1 1)
    go_wp2_with fail
    refine (ctick_any wb g _ Cb (at0 + secs * 7 / 8) 10 K3.out).mono ?_
    rw [R3.out]
    rintro e wd ⟨vd, rfl, Cd, gd, Md⟩
    replace Md : Msl wd wb.heap.size vd (some (cQ at0 secs 9).msg) := Md
    rw [cQ_msg] at Md
    have bd := below_row bb gd G0 (Nat.le_refl _)
    obtain ⟨bz, Az, nz, cz, lz, rfl, hbz, PZ, OZ, LZ⟩ := Md.some
    have d2 : wd.cell? ⟨bz, 2, none⟩ = some (.int .u32 9) := (cells_of PZ).1 2
    clear Cb Pb bb gd Md PZ OZ LZ hbz
    go_wp2_with fail
    refine (cstate_any wd g _ Cd).mono ?_
    rw [show (cQ at0 secs 9).state = 5 from rfl]
    rintro e we ⟨rfl, rfl⟩
    go_wp2_with fail
    go_ret
    exact ⟨rfl, bd⟩
  · go_wp2_with ((with_reducible apply at_load_row 34); (case hx => exact rfl); (case hg => exact Pb); (case hu => exact Try.underlying34); (case hd => rfl); (case hi => kernel_rfl))
    have hgb : g < wb.heap.size := heap_lt Cb
    refine (word_at wb 5 5 rfl 9 a5 _ rfl secs (by omega) (by omega)).mono ?_
    rintro e wd ⟨Ad, nd, ccd, ld, rfl, Od, Ld, qd⟩
    have Cd := Cb.below qd
    have bd := bb.trans (qd.mono bb.size)
    clear Cb Pb qd bb
    go_wp2_with fail
    refine (get_ack wd g wb.heap.size (cR at0 secs 9 1) Cd 9 a5 secs (by omega) (by omega) Ad nd ccd ld Od Ld hgb (at0 + secs / 2) (cR at0 secs 9 1) (time_same _ _ (Int.le_refl _)) K3.out rfl rfl (.inr (.inl ⟨rfl, rfl⟩)) a5_ne).mono ?_
    rw [show (!decide (3 ≤ (cR at0 secs 9 1).state) || !adeq (cR at0 secs 9 1).addr a5) = false from rfl]
    rintro e we ⟨ve, rfl, Ce, ge, -⟩
    have be := below_row bd ge G0 (Nat.le_refl _)
    clear Cd bd ge Od Ld
    go_wp2_with fail
    refine (cbnd_any we g _ Ce).mono ?_
    rw [show decide (3 ≤ ((cR at0 secs 9 1).acked a5 secs).state) = true from rfl, cR_acked at0 secs s0 s1, show bdC ((cR at0 secs 9 1).acked a5 secs).addr ((cR at0 secs 9 1).acked a5 secs).mask ((cR at0 secs 9 1).acked a5 secs).router ((cR at0 secs 9 1).acked a5 secs).server (at0 + secs / 2 + secs) = bdU (at0 + secs / 2 + secs) from rfl]
    rintro e wf ⟨rfl, qf⟩
    have Cf := Ce.below qf
    have bf := be.trans (qf.mono be.size)
    clear Ce be qf
    go_upto_region 18 with ((with_reducible apply at_store_new 41); (case hx => exact rfl); (case hy => exact rfl); (case hg => first | rfl | simp); (case hi => kernel_rfl); (case hold => rfl); (case h1 => kernel_rfl))
    have Cg := Cf.below ((Below.refl _ wf).alloc (Nat.le_refl _) (.cells (bdU (at0 + secs / 2 + secs)) 41))
    have bg := bf.alloc bf.size (.cells (bdU (at0 + secs / 2 + secs)) 41)
    have d16 : (wf.alloc (.cells (bdU (at0 + secs / 2 + secs)) 41)).cell? ⟨wf.heap.size, 16, none⟩ = some (.int .i64 (at0 + secs / 2 + secs)) := (cells_of (heap_alloc_new wf _)).1 16
    generalize wf.alloc (.cells (bdU (at0 + secs / 2 + secs)) 41) = wg at Cg bg d16 ⊢
    clear Cf bf
    go_wp2_with fail
    refine (cstate_any wg g _ Cg).mono ?_
    rw [show ((cR at0 secs 9 1).acked a5 secs).state = 3 from rfl]
    rintro e wh ⟨rfl, rfl⟩
    go_wp2_with fail
    go_ret
    exact ⟨rfl, bg⟩
theorem leaseRenews_out (w : World) (secs at0 : Int) (ans : Bool) (h : secs < 60 ∨ 5000 < secs ∨ at0 < 0 ∨ 1073741824 < at0) :
    Calls Try.prog 7 #[.int .u32 secs, .int .i64 at0, .bool ans] w (TruePost w) := by
  rcases Int.lt_or_le secs 60 with k1 | k1
  case' inl =>
    have d1 : decide (secs < 60) = true := decide_eq_true k1
  case' inr =>
    have d1 : decide (secs < 60) = false := decide_eq_false (by omega)
    rcases Int.lt_or_le 5000 secs with k2 | k2
    case' inl =>
      have d2 : decide (5000 < secs) = true := decide_eq_true k2
    case' inr =>
      have d2 : decide (5000 < secs) = false := decide_eq_false (by omega)
      rcases Int.lt_or_le at0 0 with k3 | k3
      case' inl =>
        have d3 : decide (at0 < 0) = true := decide_eq_true k3
      case' inr =>
        have d3 : decide (at0 < 0) = false := decide_eq_false (by omega)
        have d4 : decide (1073741824 < at0) = true := decide_eq_true (by omega)
  all_goals
    go_enter Try.func7, Try.ntmps7
    go_wp2_with fail
    refine (awake16_any w).mono ?_
    rintro e w0 ⟨rfl, q0⟩
    go_wp2_with fail
    go_ret
    exact ⟨rfl, q0⟩
theorem leaseRenews_all (w : World) (secs at0 : Int) (ans : Bool) : Calls Try.prog 7 #[.int .u32 secs, .int .i64 at0, .bool ans] w (TruePost w) := by
  by_cases h : secs < 60 ∨ 5000 < secs ∨ at0 < 0 ∨ 1073741824 < at0
  · exact leaseRenews_out w secs at0 ans h
  · exact leaseRenews_in w secs at0 ans (by omega) (by omega) (by omega) (by omega)
end Go.Proofs.Ytjpmfmmgmlnanaa
