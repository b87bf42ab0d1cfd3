/-
  The script's reading of a line of one word.
-/
import Derived.Test.YtcdacfnfiplidaaGreatDoorTo
namespace Go.Proofs.YtcdacfnfiplidaaGreatDoor
open Go.RowKit

abbrev lnZ : Array Value := #[.string ⟨#[]⟩, .int .i64 0, .slice none 0 0]
set_option maxRecDepth 100000 in
set_option maxHeartbeats 4000000 in
theorem read_one (w : World) (b o c : Nat) (s : List UInt8) (hs : s = sNow ∨ s = sAddr) (hc : w.cell? ⟨b, o, none⟩ = some (.string (str s))) (hb : b < w.heap.size) (hn : 1 ≤ c) :
    Calls Tryz.prog 17 #[.slice (some ⟨b, o, none⟩) 1 c] w (fun e w' => e = .returned (.tuple #[.agg (lnC s), .bool true]) ∧ Below w.heap.size w w') := by
  have R0 := heap_alloc_new w (.cells lnZ 52)
  have b0 : Below w.heap.size w (w.alloc (.cells lnZ 52)) := (Below.refl _ w).alloc (Nat.le_refl _) _
  have hc0 := (World.cell?_of_block (w := w) (a := ⟨b, o, none⟩) (b0.block b hb)).trans hc
  clear hc
  have hss : (∃ x, str s = ⟨x⟩ ∧ (x = #[110, 111, 119] ∨ x = #[97, 100, 100, 114, 101, 115, 115])) := by
    rcases hs with rfl | rfl
    · exact ⟨_, rfl, .inl rfl⟩
    · exact ⟨_, rfl, .inr rfl⟩
  obtain ⟨x, hx, hxx⟩ := hss
  show Calls _ _ _ _ (fun e w' => e = .returned (.tuple #[.agg #[.string (str s), .int .i64 0, .slice none 0 0], .bool true]) ∧ _)
  rw [hx] at hc0 ⊢
  clear hs hx
  rcases hxx with rfl | rfl
  · go_enter Tryz.func17, Tryz.ntmps17
    go_upto_region 1 with fail
    change Code.wp _ _ _ _ (w.alloc (.cells lnZ 52))
    generalize w.alloc (.cells lnZ 52) = w0 at R0 b0 hc0 ⊢
    obtain ⟨g, hg⟩ : ∃ g, w.heap.size = g := ⟨_, rfl⟩
    rw [hg] at R0 b0 ⊢
    have HG := Lib.hid hg
    have hsz := heap_lt R0
    clear hg
    go_upto_region 2 with fail
    have q1 : Below w0.heap.size w0 (w0.alloc (.cells #[.string ⟨#[110, 111, 119]⟩, .int .i64 0, .slice none 0 0] 52)) := (Below.refl _ w0).alloc (Nat.le_refl _) _
    have X1 := heap_alloc_new w0 (.cells #[.string ⟨#[110, 111, 119]⟩, .int .i64 0, .slice none 0 0] 52)
    have R1 := below_at q1 R0 (heap_lt R0)
    have b1 := b0.trans (q1.mono (Nat.le_of_lt hsz))
    obtain ⟨y, hy⟩ : ∃ y, w0.heap.size = y := ⟨_, rfl⟩
    rw [hy] at X1 ⊢
    generalize w0.alloc (.cells #[.string ⟨#[110, 111, 119]⟩, .int .i64 0, .slice none 0 0] 52) = w1 at X1 R1 b1 ⊢
    clear R0 b0 hc0 q1 hy
    have f1 := (cells_of X1).1
    go_wp2_with ((with_reducible apply at_store_part 52); (case hx => exact rfl); (case hy => exact rfl); (case hg => exact R1); (case hle => simp); (case hi => kernel_rfl); (case h1 => kernel_rfl); (intro w3 g3 R3; replace R3 := Lib.hid R3))
    have R4 : w3.heap[g]? = some (.cells #[.string ⟨#[110, 111, 119]⟩, .int .i64 0, .slice none 0 0] 52 (0, 0)) := R3.out
    refine bodyPost_cell_tmp g _ _ _ rfl rfl R4 Tryz.underlying52 rfl (by kernel_rfl) rfl ?_
    exact ⟨rfl, by rw [HG.out]; exact below_grown b1 g3 (Nat.le_of_lt (heap_lt R1)) (Nat.le_refl _)⟩
  · go_enter Tryz.func17, Tryz.ntmps17
    go_upto_region 1 with fail
    change Code.wp _ _ _ _ (w.alloc (.cells lnZ 52))
    generalize w.alloc (.cells lnZ 52) = w0 at R0 b0 hc0 ⊢
    obtain ⟨g, hg⟩ : ∃ g, w.heap.size = g := ⟨_, rfl⟩
    rw [hg] at R0 b0 ⊢
    have HG := Lib.hid hg
    have hsz := heap_lt R0
    clear hg
    go_upto_region 2 with fail
    have q1 : Below w0.heap.size w0 (w0.alloc (.cells #[.string ⟨#[97, 100, 100, 114, 101, 115, 115]⟩, .int .i64 0, .slice none 0 0] 52)) := (Below.refl _ w0).alloc (Nat.le_refl _) _
    have X1 := heap_alloc_new w0 (.cells #[.string ⟨#[97, 100, 100, 114, 101, 115, 115]⟩, .int .i64 0, .slice none 0 0] 52)
    have R1 := below_at q1 R0 (heap_lt R0)
    have b1 := b0.trans (q1.mono (Nat.le_of_lt hsz))
    obtain ⟨y, hy⟩ : ∃ y, w0.heap.size = y := ⟨_, rfl⟩
    rw [hy] at X1 ⊢
    generalize w0.alloc (.cells #[.string ⟨#[97, 100, 100, 114, 101, 115, 115]⟩, .int .i64 0, .slice none 0 0] 52) = w1 at X1 R1 b1 ⊢
    clear R0 b0 hc0 q1 hy
    have f1 := (cells_of X1).1
    go_wp2_with ((with_reducible apply at_store_part 52); (case hx => exact rfl); (case hy => exact rfl); (case hg => exact R1); (case hle => simp); (case hi => kernel_rfl); (case h1 => kernel_rfl); (intro w3 g3 R3; replace R3 := Lib.hid R3))
    have R4 : w3.heap[g]? = some (.cells #[.string ⟨#[97, 100, 100, 114, 101, 115, 115]⟩, .int .i64 0, .slice none 0 0] 52 (0, 0)) := R3.out
    refine bodyPost_cell_tmp g _ _ _ rfl rfl R4 Tryz.underlying52 rfl (by kernel_rfl) rfl ?_
    exact ⟨rfl, by rw [HG.out]; exact below_grown b1 g3 (Nat.le_of_lt (heap_lt R1)) (Nat.le_refl _)⟩
end Go.Proofs.YtcdacfnfiplidaaGreatDoor
