/-
  The reading of an address (package addr).
-/
import Derived.Test.YtnmdiageigbphaaGreatDoorAn2
import Derived.Test.YtnmdiageigbphaaGreatDoorBig
import Derived.Test.YtnmdiageigbphaaGreatDoorZeros
namespace Go.Proofs.YtnmdiageigbphaaGreatDoor
open Go.RowKit

def ad0 : Ad4 := ⟨0, 0, 0, 0⟩
def okN (ps : List (List UInt8)) (k : Nat) : Bool := (List.range k).all fun i => numOk (ps.getD i []) 255
theorem okN_iff {ps : List (List UInt8)} {k : Nat} : okN ps k = true ↔ ∀ i < k, numOk (ps.getD i []) 255 = true := by simp [okN, List.all_eq_true]
def parseL (ps : List (List UInt8)) : Option Ad4 :=
  if ps.length = 4 ∧ okN ps 4 = true then some ⟨bN (numV (ps.getD 0 [])), bN (numV (ps.getD 1 [])), bN (numV (ps.getD 2 [])), bN (numV (ps.getD 3 []))⟩ else none
def parseA (s : List UInt8) : Option Ad4 := parseL (cutB 46 s)
def parseV (s : List UInt8) : Ad4 × Int := match parseA s with
  | some a => (a, 0)
  | none => (ad0, 9)
def ParsePost (w : World) (s : List UInt8) (e : Ending) (w' : World) : Prop := e = .returned (.tuple #[adV (parseV s).1, .int .i64 (parseV s).2]) ∧ Below w.heap.size w w'
abbrev z4 : Array Value := #[.int .u8 0, .int .u8 0, .int .u8 0, .int .u8 0]
/-- The address behind some rounds. -/
def parC (ps : List (List UInt8)) (j : Nat) : Array Value := #[if 0 < j then .int .u8 (numV (ps.getD 0 [])) else .int .u8 0, if 1 < j then .int .u8 (numV (ps.getD 1 [])) else .int .u8 0, if 2 < j then .int .u8 (numV (ps.getD 2 [])) else .int .u8 0, if 3 < j then .int .u8 (numV (ps.getD 3 [])) else .int .u8 0]
theorem parC_size (ps : List (List UInt8)) (j : Nat) : (parC ps j).size = 4 := rfl
theorem parC_one (ps : List (List UInt8)) : (parC ps 4).all (·.oneCell') = true := by simp [parC, Value.oneCell']
theorem parC_zero (ps : List (List UInt8)) : parC ps 0 = z4 := by simp [parC]
theorem parC_step (ps : List (List UInt8)) (j : Nat) (h : j < 4) : (parC ps j).setIfInBounds j (.int .u8 (numV (ps.getD j []))) = parC ps (j + 1) := by
  rcases (show j = 0 ∨ j = 1 ∨ j = 2 ∨ j = 3 by omega) with rfl | rfl | rfl | rfl <;> simp [parC]
theorem parC_end (ps : List (List UInt8)) (h : ∀ i < 4, numOk (ps.getD i []) 255 = true) : parC ps 4 = adC ⟨bN (numV (ps.getD 0 [])), bN (numV (ps.getD 1 [])), bN (numV (ps.getD 2 [])), bN (numV (ps.getD 3 []))⟩ := by
  have e : ∀ i < 4, ((bN (numV (ps.getD i []))).toNat : Int) = numV (ps.getD i []) := by
    intro i hi
    have h1 := numOk_le (h i hi)
    rw [bN_val]
    omega
  simp only [parC, adC, e 0 (by decide), e 1 (by decide), e 2 (by decide), e 3 (by decide)]
  simp
theorem parse_no {s : List UInt8} (h : ¬ ((cutB 46 s).length = 4 ∧ okN (cutB 46 s) 4 = true)) : parseV s = (ad0, 9) := by simp only [parseV, parseA, parseL, if_neg h]
theorem parse_yes {s : List UInt8} (h : (cutB 46 s).length = 4 ∧ okN (cutB 46 s) 4 = true) :
    parseV s = (⟨bN (numV ((cutB 46 s).getD 0 [])), bN (numV ((cutB 46 s).getD 1 [])), bN (numV ((cutB 46 s).getD 2 [])), bN (numV ((cutB 46 s).getD 3 []))⟩, 0) := by simp only [parseV, parseA, parseL, if_pos h]

theorem SO.cell {w : World} {H n c b o : Nat} {l : List (List UInt8)} (h : SO w H (some ⟨b, o, none⟩) n c l) {k : Nat} {s : List UInt8} (hk : l[k]? = some s) : b < w.heap.size ∧ w.cell? ⟨b, o + k, none⟩ = some (.string (str s)) := by
  obtain ⟨b', o', e, hb, hc⟩ := h.at_ hk
  injection e with e
  injection e with e1 e2
  subst e1 e2
  exact ⟨hb, hc⟩
theorem splice4 (ps : List (List UInt8)) : spliceAt z4 0 (parC ps 4).toList = parC ps 4 := by simp [spliceAt, parC]
theorem getD_some {α : Type} {l : List α} {k : Nat} (d : α) (h : k < l.length) : l[k]? = some (l.getD k d) := by simp [List.getD, h]
theorem grown_cell {w w' : World} {k b o : Nat} {v : Value} (h : w.grownBy w' (some k)) (hb : b < w.heap.size) (hne : b ≠ k) (hc : w.cell? ⟨b, o, none⟩ = some v) : w'.cell? ⟨b, o, none⟩ = some v :=
  (World.cell?_of_block (w := w) (a := ⟨b, o, none⟩) (h.block b hb (by intro e; injection e with e; exact hne e))).trans hc

set_option maxRecDepth 100000 in
set_option maxHeartbeats 4000000 in
theorem parse_any (w : World) (s : List UInt8) (hl : s.length ≤ 1099511627776) : Calls Tryz.prog 114 #[.string (str s)] w (ParsePost w s) := by
  go_enter Tryz.func114, Tryz.ntmps114
  go_wp2_with fail
  have b0 : Below w.heap.size w (w.alloc (.cells z4 24)) := (Below.refl _ w).alloc (Nat.le_refl _) _
  have P0 : (w.alloc (.cells z4 24)).heap[w.heap.size]? = some (.cells z4 24 (0, 0)) := heap_alloc_new w _
  obtain ⟨g, hg⟩ : ∃ g, w.heap.size = g := ⟨_, rfl⟩
  rw [hg] at P0 ⊢
  generalize w.alloc (.cells z4 24) = w1 at b0 P0 ⊢
  refine (parts_any w1 s 46 (by decide) hl).mono ?_
  rintro e w2 ⟨A, n, cc, rfl, ho, q2⟩
  have P2 := below_at q2 P0 (heap_lt P0)
  have b2 := b0.trans (q2.mono b0.size)
  have hn := ho.1
  have HG := Lib.hid hg
  have HN := Lib.hid hn
  clear hn hg b0 P0 q2
  by_cases h4 : n = 4
  case' neg =>
    have x1 : ((n : Int) != 4) = true := by rw [bne_iff_ne]; omega
    have HV := Lib.hid (parse_no (s := s) (fun h => h4 (by have := HN.out; omega)))
    clear h4
    go_wp2_with ((with_reducible apply at_store_part 24); (case hx => exact rfl); (case hy => exact rfl); (case hg => exact heap_alloc_of P2); (case hle => simp); (case hi => kernel_rfl); (case h1 => kernel_rfl); (intro w3 g3 P3; replace P3 := Lib.hid P3))
    refine bodyPost_cell_tmp g _ _ _ rfl rfl P3.out Tryz.underlying24 rfl (by kernel_rfl) rfl ?_
    exact ⟨by rw [HV.out]; rfl, below_grown (b2.alloc b2.size _) g3 (by have := b2.size; simp; omega) (by have := HG.out; omega)⟩
  obtain ⟨b, o, rfl, hbl, _⟩ := ho.at_ (getD_some [] (show 0 < (cutB 46 s).length by have := HN.out; omega))
  subst h4
  have HO := Lib.hid ho
  clear ho
  go_wp2_with fail
  have Pa := heap_alloc_new w2 (.cells z4 24)
  have P3 := heap_alloc_of (o := .cells z4 24) P2
  have b3 := b2.alloc b2.size (.cells z4 24)
  have cells : ∀ j < 4, (w2.alloc (.cells z4 24)).cell? ⟨b, o + j, none⟩ = some (.string (str ((cutB 46 s).getD j []))) := fun j hj =>
    (World.cell?_of_block (w := w2) (a := ⟨b, o + j, none⟩) (Below.heap_alloc w2 _ b hbl)).trans (HO.out.cell (getD_some [] (by have := HN.out; omega))).2
  have hgk : g < w2.heap.size := heap_lt P2
  have lens : ∀ j < 4, ((cutB 46 s).getD j []).length ≤ 1099511627776 := fun j hj =>
    Nat.le_trans (cutB_mem 46 s _ (List.mem_iff_getElem?.2 ⟨j, getD_some [] (by have := HN.out; omega)⟩)) hl
  obtain ⟨ps, hps⟩ : ∃ ps, cutB 46 s = ps := ⟨_, rfl⟩
  rw [hps] at cells lens
  have HPS := Lib.hid hps
  have CELLS := Lib.hid cells
  have LENS := Lib.hid lens
  obtain ⟨k, hk⟩ : ∃ k, w2.heap.size = k := ⟨_, rfl⟩
  have HKS := Lib.hid (show k < (w2.alloc (.cells z4 24)).heap.size by simp; omega)
  have hb3 := b3.size
  rw [hk] at Pa hbl hgk ⊢
  clear hk cells lens hps P2 b2
  generalize w2.alloc (.cells z4 24) = wl at Pa P3 b3 CELLS HKS hb3 ⊢
  have PA := Lib.hid Pa
  clear Pa
  go_loopw [18] (fun iv wr => ∃ j : Nat, iv = .int .i64 j ∧ j ≤ 4 ∧ okN ps j = true ∧ wr.heap[k]? = some (.cells (parC ps j) 24 (0, 0)) ∧ wl.grownBy wr (some k)) (fun iv _ => 4 - (intOf iv).toNat)
  case atStart => exact ⟨0, rfl, Nat.zero_le _, rfl, by rw [parC_zero]; exact PA.out, World.grownBy.refl _ _⟩
  case round =>
    clear PA
    obtain ⟨j, rfl, hj, hok, hPk, hgr⟩ := hrel
    have HOK := Lib.hid hok
    have HGR := Lib.hid hgr
    have hzr := hgr.size
    have PR := grown_at hgr P3 (by omega)
    have br := below_grown b3 hgr hb3 (by have := HG.out; omega)
    clear hok
    by_cases hlt : j < 4
    · have hc := grown_cell hgr (by have := HKS.out; omega) (by omega) (CELLS.out j hlt)
      have hjn : (0 : Int) ≤ (j : Int) ∧ (j : Int) < 4 := ⟨by omega, by omega⟩
      have hlj := LENS.out j hlt
      obtain ⟨p, hp⟩ : ∃ p, ps.getD j [] = p := ⟨_, rfl⟩
      rw [hp] at hc hlj
      have HP := Lib.hid hp
      have hnv := numV_le p
      clear hgr hp
      go_wp2_with fail
      refine (num_any wr p 255 hlj (by decide)).mono ?_
      rintro e w4 ⟨rfl, q4⟩
      have P4 := below_at q4 PR (heap_lt PR)
      have K4 := below_at q4 hPk (heap_lt hPk)
      have b4 := br.trans (q4.mono br.size)
      have HG4 := Lib.hid (grown_below HGR.out q4 hzr)
      clear hc PR hPk br q4
      by_cases hx : numOk p 255 = true
      · have hle := numOk_le hx
        have HX := Lib.hid hx
        obtain ⟨hcK, hfK⟩ := cells_of K4
        have hcj : w4.cell? ⟨k, j, none⟩ = some ((parC ps j).getD j undef) := by
          rw [hcK j]
          rcases (show j = 0 ∨ j = 1 ∨ j = 2 ∨ j = 3 by omega) with rfl | rfl | rfl | rfl <;> rfl
        have K5 := Lib.hid (heap_set_cells (k := j) K4 (.int .u8 (numV p)))
        clear K4 hcK
        go_wp2_with fail
        go_roundw
        case rel =>
          refine ⟨j + 1, by go_num, by omega, okN_iff.2 fun i hi => ?_, ?_, ?_⟩
          · rcases Nat.lt_or_ge i j with h | h
            · exact okN_iff.1 HOK.out i h
            · obtain rfl : i = j := by omega
              rw [HP.out]; exact HX.out
          · rw [← parC_step ps j hlt, HP.out]
            exact K5.out
          · exact grown_setCell HG4.out _ _
        case measure => simp [intOf]; omega
      · have hx' : numOk p 255 = false := by simpa using hx
        have HV := Lib.hid (parse_no (s := s) (fun h => by rw [HPS.out] at h; have := okN_iff.1 h.2 j hlt; rw [HP.out] at this; exact hx this))
        clear hx
        go_wp2_with ((with_reducible apply at_store_part 24); (case hx => exact rfl); (case hy => exact rfl); (case hg => exact P4); (case hle => simp); (case hi => kernel_rfl); (case h1 => kernel_rfl); (intro w5 g5 P5; replace P5 := Lib.hid P5))
        refine bodyPost_cell_tmp g _ _ _ rfl rfl P5.out Tryz.underlying24 rfl (by kernel_rfl) rfl ?_
        exact ⟨by rw [HV.out]; rfl, below_grown b4 g5 b4.size (by have := HG.out; omega)⟩
    · obtain rfl : j = 4 := by omega
      have HV := Lib.hid (parse_yes (s := s) (by rw [HPS.out]; exact ⟨by rw [← HPS.out]; exact HN.out.symm, HOK.out⟩))
      clear hgr hlt
      go_wp2_with (((with_reducible apply at_load_row 24); (case hx => exact rfl); (case hg => exact hPk); (case hu => exact Tryz.underlying24); (case hd => rfl); (case hi => kernel_rfl)); (refine Hid.out ?_))
      refine Lib.hid ?_
      go_wp2_with ((with_reducible apply at_store_part 24); (case hx => exact rfl); (case hy => exact rfl); (case hg => exact PR); (case hle => rw [parC_size]; decide); (case hi => rw [parC_size]; kernel_rfl); (case h1 => exact parC_one ps); (intro w5 g5 P5; replace P5 := Lib.hid P5))
      have P6 := P5.out
      rw [splice4] at P6
      refine bodyPost_cell_tmp g _ _ _ rfl rfl P6 Tryz.underlying24 rfl (by kernel_rfl) rfl ?_
      refine ⟨?_, below_grown br g5 br.size (by have := HG.out; omega)⟩
      rw [HV.out, HPS.out, parC_end ps (okN_iff.1 HOK.out)]
      rfl
end Go.Proofs.YtnmdiageigbphaaGreatDoor
