/-
  opt.Addr.
-/
import Derived.Test.YtjpmfmmgmlnanaaOpt4
namespace Go.Proofs.Ytjpmfmmgmlnanaa
open Go.RowKit

set_option maxRecDepth 100000 in
set_option maxHeartbeats 1000000 in
theorem oaddr_no (w : World) (A : Option Addr) (n c : Nat) (l : List Op1) (code : Int) (h : OS w w.heap.size A n c l) (hB : ∀ o ∈ l, o.body.length ≤ 1099511627776) (hk : scK l code = false) :
    Calls Try.prog 24 #[.slice A n c, .int .i64 code] w (AdOkPost w (scA l code) (scK l code)) := by
  have ha : scA l code = ⟨0, 0, 0, 0⟩ := by unfold scA; rw [hk]; rfl
  rw [ha, hk]
  obtain ⟨bd, hbd⟩ : ∃ x, fdB l code = x := ⟨_, rfl⟩
  obtain ⟨ok, hok⟩ : ∃ x, fdK l code = x := ⟨_, rfl⟩
  unfold scK at hk
  rw [hbd, hok] at hk
  have hk' : ok = false ∨ bd.length ≠ 4 := by
    cases ok
    · exact .inl rfl
    · right; intro e; rw [e] at hk; simp at hk
  have HB := Lib.hid hbd
  have HO := Lib.hid hok
  clear hbd hok ha hk
  have b0 : ∀ o, Below w.heap.size w (w.alloc o) := fun o => (Below.refl _ w).alloc (Nat.le_refl _) o
  rcases hk' with rfl | hk'
  all_goals
    go_enter Try.func24, Try.ntmps24
    go_wp2_with fail
    refine (find_any _ A n c l code ((h.below (b0 _)).more (by simp)) hB).mono ?_
    rw [HB.out, HO.out]
    rintro e w1 ⟨A1, n1, c1, rfl, ho1, hb1⟩
    have hn1 : n1 ≤ bd.length ∧ bd.length ≤ n1 := ⟨Nat.le_of_eq ho1.1, Nat.le_of_eq ho1.1.symm⟩
    have R1 : w1.heap[w.heap.size]? = some (.cells #[.int .u8 0, .int .u8 0, .int .u8 0, .int .u8 0] 34 (0, 0)) := below_at hb1 (heap_alloc_at rfl) (by simp)
    have q1 := (b0 _).trans (hb1.mono (by simp))
    have R := Lib.hid R1
    clear R1 hb1 ho1
  · go_upto_region 3 with fail
    go_wp2_with ((with_reducible apply at_store_part 34); (case hx => exact rfl); (case hy => exact rfl); (case hg => exact R.out); (case hle => simp); (case hi => kernel_rfl); (case h1 => kernel_rfl); (intro w3 g3 R3; replace R3 := Lib.hid R3))
    have R3' : w3.heap[w.heap.size]? = some (.cells #[.int .u8 0, .int .u8 0, .int .u8 0, .int .u8 0] 34 (0, 0)) := R3.out
    refine bodyPost_cell_tmp w.heap.size _ _ _ rfl rfl R3' Try.underlying34 rfl (by kernel_rfl) rfl ?_
    exact ⟨rfl, below_grown q1 g3 q1.size (by omega)⟩
  · have hnb : ((n1 : Int) != 4) = true := bne_iff_ne.2 (by omega)
    cases ok
    all_goals
      go_upto_region 3 with fail
      go_wp2_with ((with_reducible apply at_store_part 34); (case hx => exact rfl); (case hy => exact rfl); (case hg => exact R.out); (case hle => simp); (case hi => kernel_rfl); (case h1 => kernel_rfl); (intro w3 g3 R3; replace R3 := Lib.hid R3))
      have R3' : w3.heap[w.heap.size]? = some (.cells #[.int .u8 0, .int .u8 0, .int .u8 0, .int .u8 0] 34 (0, 0)) := R3.out
      refine bodyPost_cell_tmp w.heap.size _ _ _ rfl rfl R3' Try.underlying34 rfl (by kernel_rfl) rfl ?_
      exact ⟨rfl, below_grown q1 g3 q1.size (by omega)⟩

set_option maxRecDepth 100000 in
set_option maxHeartbeats 1000000 in
theorem oaddr_ok (w : World) (A : Option Addr) (n c : Nat) (l : List Op1) (code : Int) (h : OS w w.heap.size A n c l) (hB : ∀ o ∈ l, o.body.length ≤ 1099511627776) (hk : scK l code = true) :
    Calls Try.prog 24 #[.slice A n c, .int .i64 code] w (AdOkPost w (scA l code) (scK l code)) := by
  have ha : scA l code = adOf (fdB l code) := by unfold scA; rw [hk]; rfl
  rw [ha, hk]
  obtain ⟨bd, hbd⟩ : ∃ x, fdB l code = x := ⟨_, rfl⟩
  obtain ⟨ok, hok⟩ : ∃ x, fdK l code = x := ⟨_, rfl⟩
  unfold scK at hk
  rw [hbd, hok] at hk
  rw [hbd]
  rw [Bool.and_eq_true] at hk
  obtain ⟨rfl, h4⟩ := hk
  have h4 : bd.length = 4 := by simpa using h4
  have H4 := Lib.hid h4
  have HB := Lib.hid hbd
  have HO := Lib.hid hok
  clear hbd hok ha h4
  have b0 : ∀ o, Below w.heap.size w (w.alloc o) := fun o => (Below.refl _ w).alloc (Nat.le_refl _) o
  go_enter Try.func24, Try.ntmps24
  go_wp2_with fail
  refine (find_any _ A n c l code ((h.below (b0 _)).more (by simp)) hB).mono ?_
  rw [HB.out, HO.out]
  rintro e w1 ⟨A1, n1, c1, rfl, ho1, hb1⟩
  have hn1 : n1 = 4 := by have := ho1.1; have := H4.out; omega
  subst hn1
  have R1 : w1.heap[w.heap.size]? = some (.cells #[.int .u8 0, .int .u8 0, .int .u8 0, .int .u8 0] 34 (0, 0)) := below_at hb1 (heap_alloc_at rfl) (by simp)
  have q1 := (b0 _).trans (hb1.mono (by simp))
  have z1 := q1.size
  have R := Lib.hid R1
  have bs1 := ho1.bs
  clear R1 hb1
  go_upto_region 6 with (refine wpList_copy8 rfl _ _ rfl w1.heap.size 0 4 4 _ 34 rfl (heap_alloc_at rfl) w1.heap.size 4 c1 A1 bd rfl (bs1.alloc (Nat.le_refl _) _) (Nat.le_refl _) (by simp) ?_; intro w2 hc2 g2; replace hc2 := Lib.hid hc2)
  replace hc2 := hc2.out
  rw [splice_ad bd (.inr H4.out)] at hc2
  have C2 : w2.heap[w1.heap.size]? = some (.cells (adC (adOf bd)) 34 (0, 0)) := hc2
  have R2 := Lib.hid (grown_at g2 (heap_alloc_of R.out) (by have := heap_lt R.out; omega))
  have q2 : Below w.heap.size w w2 := below_grown (q1.alloc z1 _) g2 (by simp; omega) z1
  have HC := Lib.hid C2
  clear hc2 C2 R g2
  go_wp2_with (first | ((with_reducible apply at_load_row 34); (case hx => exact rfl); (case hg => exact HC.out); (case hu => exact Try.underlying34); (case hd => rfl); (case hi => kernel_rfl)) | ((with_reducible apply at_store_part 34); (case hx => exact rfl); (case hy => exact rfl); (case hg => exact R2.out); (case hle => simp); (case hi => kernel_rfl); (case h1 => kernel_rfl); (intro w3 g3 R3; replace R3 := Lib.hid R3)))
  have R3' : w3.heap[w.heap.size]? = some (.cells (adC (adOf bd)) 34 (0, 0)) := R3.out
  refine bodyPost_cell_tmp w.heap.size _ _ _ rfl rfl R3' Try.underlying34 rfl (by kernel_rfl) rfl ?_
  exact ⟨rfl, below_grown q2 g3 q2.size (by omega)⟩
theorem oaddr_any (w : World) (A : Option Addr) (n c : Nat) (l : List Op1) (code : Int) (h : OS w w.heap.size A n c l) (hB : ∀ o ∈ l, o.body.length ≤ 1099511627776) :
    Calls Try.prog 24 #[.slice A n c, .int .i64 code] w (AdOkPost w (scA l code) (scK l code)) := by
  cases hk : scK l code
  · have := oaddr_no w A n c l code h hB hk
    rwa [hk] at this
  · have := oaddr_ok w A n c l code h hB hk
    rwa [hk] at this
end Go.Proofs.Ytjpmfmmgmlnanaa
