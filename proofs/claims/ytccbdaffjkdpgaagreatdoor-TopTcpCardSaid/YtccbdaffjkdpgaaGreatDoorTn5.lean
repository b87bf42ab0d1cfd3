/-
  The script's player: the lines now and address.
-/
import Derived.Test.YtccbdaffjkdpgaaGreatDoorTn4
import Derived.Test.YtccbdaffjkdpgaaGreatDoorTs2
namespace Go.Proofs.YtccbdaffjkdpgaaGreatDoor
open Go.RowKit

set_option maxRecDepth 100000 in
theorem now_zero (w : World) (g : Nat) (h : GL w g) : Calls Tryz.prog 107 #[ptr g] w (fun e w' => e = .returned (.int .i64 0) ∧ w' = w) := by
  obtain ⟨c, n0, n1, s, bl, t, n, a, p, P, L⟩ := h
  have f := (cells_of P).1
  clear L P
  go_enter Tryz.func107, Tryz.ntmps107
  go_wp2_with fail
  go_ret
  exact ⟨rfl, rfl⟩
abbrev ad0V : Array Value := #[.int .u8 0, .int .u8 0, .int .u8 0, .int .u8 0]
set_option maxRecDepth 100000 in
set_option maxHeartbeats 4000000 in
theorem wan_none (w : World) (g : Nat) (h : GL w g) : Calls Tryz.prog 27 #[ptr g] w (fun e w' => e = .returned (.tuple #[.agg ad0V, .bool false]) ∧ Below w.heap.size w w') := by
  have R0 := heap_alloc_new w (.cells ad0V 26)
  have b0 : Below w.heap.size w (w.alloc (.cells ad0V 26)) := (Below.refl _ w).alloc (Nat.le_refl _) _
  have h0 := h.next b0
  clear h
  go_enter Tryz.func27, Tryz.ntmps27
  go_upto_region 1 with fail
  change Code.wp _ _ _ _ (w.alloc (.cells ad0V 26))
  generalize w.alloc (.cells ad0V 26) = w0 at R0 b0 h0 ⊢
  obtain ⟨x, hx⟩ : ∃ x, w.heap.size = x := ⟨_, rfl⟩
  rw [hx] at R0 b0 ⊢
  have HX := Lib.hid hx
  clear hx
  obtain ⟨c, n0, n1, s, bl, t, n, a, p, P, L⟩ := h0
  have f := (cells_of P).1
  clear P
  go_wp2_with fail
  refine (bound_none w0 bl c.wm L).mono ?_
  rintro e w1 ⟨rfl, q1⟩
  have R1 := below_at q1 R0 (heap_lt R0)
  have b1 := b0.trans (q1.mono (Nat.le_of_lt (heap_lt R0)))
  clear f L R0 b0 q1
  go_upto_region 2 with ((with_reducible apply at_store_new 237); (case hx => exact rfl); (case hy => exact rfl); (case hg => first | rfl | simp); (case hi => kernel_rfl); (case hold => rfl); (case h1 => kernel_rfl))
  have q2 : Below w1.heap.size w1 (w1.alloc (.cells bdZ 237)) := (Below.refl _ w1).alloc (Nat.le_refl _) _
  have R2 := below_at q2 R1 (heap_lt R1)
  have b2 := b1.trans (q2.mono (Nat.le_of_lt (heap_lt R1)))
  clear R1 b1 q2
  generalize w1.alloc (.cells bdZ 237) = w2 at R2 b2 ⊢
  go_wp2_with ((with_reducible apply at_store_part 26); (case hx => exact rfl); (case hy => exact rfl); (case hg => exact R2); (case hle => simp); (case hi => kernel_rfl); (case h1 => kernel_rfl); (intro w3 g3 R3; replace R3 := Lib.hid R3))
  have R4 : w3.heap[x]? = some (.cells ad0V 26 (0, 0)) := R3.out
  refine bodyPost_cell_tmp x _ _ _ rfl rfl R4 Tryz.underlying26 rfl (by kernel_rfl) rfl ?_
  exact ⟨rfl, by rw [HX.out]; exact below_grown b2 g3 (Nat.le_of_lt (heap_lt R2)) (Nat.le_refl _)⟩
theorem fmt_zero (w : World) : Calls Tryz.prog 106 #[.int .i64 0, .int .i64 10] w (fun e w' => e = .returned (.string ⟨#[48]⟩) ∧ w' = w) := by
  have h := Tryz.strconv_FormatInt_10_small 0 (by decide) w
  rw [show Lib.decDigits 0 = [48] by rw [Lib.decDigits]; rfl] at h
  exact h
/-- A player of a gateway that has nothing. -/
def PL (w : World) (pb g : Nat) : Prop := w.heap[pb]? = some (.cells #[ptr g, .int .u32 0] 116 (0, 0)) ∧ GL w g
theorem PL.next {w w' : World} {pb g : Nat} (h : PL w pb g) (q : Below w.heap.size w w') : PL w' pb g := ⟨below_at q h.1 (heap_lt h.1), h.2.next q⟩
abbrev lnC (s : List UInt8) : Array Value := #[.string (str s), .int .i64 0, .slice none 0 0]
def sNow : List UInt8 := [110, 111, 119]
def sAddr : List UInt8 := [97, 100, 100, 114, 101, 115, 115]
set_option maxRecDepth 100000 in
set_option maxHeartbeats 4000000 in
theorem play_now (w : World) (pb g : Nat) (h : PL w pb g) : Calls Tryz.prog 32 #[ptr pb, .agg (lnC sNow)] w (fun e w' => e = .returned (.string ⟨#[48, 10]⟩) ∧ Below w.heap.size w w') := by
  have e0 : str sNow = ⟨#[110, 111, 119]⟩ := rfl
  rw [show lnC sNow = #[.string ⟨#[110, 111, 119]⟩, .int .i64 0, .slice none 0 0] from rfl]
  have b0 : Below w.heap.size w (w.alloc (.cells #[.string ⟨#[110, 111, 119]⟩, .int .i64 0, .slice none 0 0] 121)) := (Below.refl _ w).alloc (Nat.le_refl _) _
  have X0 := heap_alloc_new w (.cells #[.string ⟨#[110, 111, 119]⟩, .int .i64 0, .slice none 0 0] 121)
  have h0 := h.next b0
  have a1 : ∀ w, (Op.stringOp .add ⟨#[48]⟩ ⟨#[10]⟩).run Tryz.prog w = .ok (.string ⟨#[48, 10]⟩) w := fun w => str_addL w [48] [10] (by decide)
  clear h e0
  go_enter Tryz.func32, Tryz.ntmps32
  go_upto_region 1 with fail
  generalize w.alloc (.cells #[.string ⟨#[110, 111, 119]⟩, .int .i64 0, .slice none 0 0] 121) = w0 at X0 b0 h0 ⊢
  obtain ⟨x, hx⟩ : ∃ x, w.heap.size = x := ⟨_, rfl⟩
  rw [hx] at X0 ⊢
  have f0 := (cells_of X0).1
  have f1 := (cells_of h0.1).1
  have hg := h0.2
  clear h0 X0
  go_wp2_with fail
  refine (now_zero w0 g hg).mono ?_
  rintro e w1 ⟨rfl, rfl⟩
  go_wp2_with fail
  refine (fmt_zero w1).mono ?_
  rintro e w2 ⟨rfl, rfl⟩
  go_wp2_with fail
  go_ret
  exact ⟨rfl, b0⟩
set_option maxRecDepth 100000 in
set_option maxHeartbeats 4000000 in
theorem play_addr (w : World) (pb g : Nat) (h : PL w pb g) : Calls Tryz.prog 32 #[ptr pb, .agg (lnC sAddr)] w (fun e w' => e = .returned (.string ⟨#[110, 111, 110, 101, 10]⟩) ∧ Below w.heap.size w w') := by
  rw [show lnC sAddr = #[.string ⟨#[97, 100, 100, 114, 101, 115, 115]⟩, .int .i64 0, .slice none 0 0] from rfl]
  have b0 : Below w.heap.size w (w.alloc (.cells #[.string ⟨#[97, 100, 100, 114, 101, 115, 115]⟩, .int .i64 0, .slice none 0 0] 121)) := (Below.refl _ w).alloc (Nat.le_refl _) _
  have X0 := heap_alloc_new w (.cells #[.string ⟨#[97, 100, 100, 114, 101, 115, 115]⟩, .int .i64 0, .slice none 0 0] 121)
  have h0 := h.next b0
  clear h
  go_enter Tryz.func32, Tryz.ntmps32
  go_upto_region 1 with fail
  generalize w.alloc (.cells #[.string ⟨#[97, 100, 100, 114, 101, 115, 115]⟩, .int .i64 0, .slice none 0 0] 121) = w0 at X0 b0 h0 ⊢
  have hsz := b0.size
  obtain ⟨x, hx⟩ : ∃ x, w.heap.size = x := ⟨_, rfl⟩
  rw [hx] at X0 ⊢
  have f0 := (cells_of X0).1
  have f1 := (cells_of h0.1).1
  have hg := h0.2
  have HX := Lib.hid hx
  clear h0 X0 hx
  go_wp2_with fail
  refine (wan_none w0 g hg).mono ?_
  rintro e w1 ⟨rfl, q1⟩
  have b1 := b0.trans (q1.mono hsz)
  clear f0 f1 hg q1 b0 hsz
  go_wp2_with fail
  go_ret
  exact ⟨rfl, by have := HX.out; subst this; exact b1.alloc b1.size _⟩
end Go.Proofs.YtccbdaffjkdpgaaGreatDoor
