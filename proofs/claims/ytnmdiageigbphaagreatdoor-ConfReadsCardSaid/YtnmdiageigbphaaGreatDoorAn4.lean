/-
  The reading of a device's address (package addr).
-/
import Derived.Test.YtnmdiageigbphaaGreatDoorAn3
namespace Go.Proofs.YtnmdiageigbphaaGreatDoor
open Go.RowKit

def hexD (r : Nat) : Option Nat := if 48 ≤ r ∧ r ≤ 57 then some (r - 48) else if 97 ≤ r ∧ r ≤ 102 then some (r - 97 + 10) else if 65 ≤ r ∧ r ≤ 70 then some (r - 65 + 10) else none
def hexN (r : Nat) : Nat := (hexD r).getD 0
theorem hexD_le {r d : Nat} (h : hexD r = some d) : d ≤ 15 := by
  unfold hexD at h
  repeat' split at h
  all_goals simp at h
  all_goals omega
theorem hexN_le (r : Nat) : hexN r ≤ 15 := by
  unfold hexN
  rcases h : hexD r with _ | d
  · simp
  · exact hexD_le h
theorem hexD_high {r : Nat} (h : 128 ≤ r) : hexD r = none := by
  unfold hexD
  rw [if_neg (by omega), if_neg (by omega), if_neg (by omega)]

set_option maxHeartbeats 1000000 in
theorem digit_any (w : World) (r : Nat) (hr : r ≤ 1114111) :
    Calls Tryz.prog 142 #[.int .i32 r] w (fun e w' => e = .returned (.tuple #[.int .u8 (hexN r), .bool (hexD r).isSome]) ∧ w' = w) := by
  by_cases c1 : 48 ≤ r ∧ r ≤ 57
  · have H := Lib.hid (show hexD r = some (r - 48) by rw [hexD, if_pos c1])
    have d1 : decide (48 ≤ (r : Int)) = true := decide_eq_true (by omega)
    have d2 : decide ((r : Int) ≤ 57) = true := decide_eq_true (by omega)
    go_enter Tryz.func142, Tryz.ntmps142
    go_wp2_with fail
    go_ret2
    refine ⟨?_, rfl⟩
    rw [hexN, H.out]
    simp
    omega
  have n1 : decide (48 ≤ (r : Int)) = false ∨ decide ((r : Int) ≤ 57) = false := by
    rcases Nat.lt_or_ge r 48 with h | h
    · exact .inl (decide_eq_false (by omega))
    · exact .inr (decide_eq_false (by omega))
  by_cases c2 : 97 ≤ r ∧ r ≤ 102
  · have H := Lib.hid (show hexD r = some (r - 97 + 10) by rw [hexD, if_neg c1, if_pos c2])
    have d0 : decide (48 ≤ (r : Int)) = true := decide_eq_true (by omega)
    have d1 : decide ((r : Int) ≤ 57) = false := decide_eq_false (by omega)
    have d2 : decide (97 ≤ (r : Int)) = true := decide_eq_true (by omega)
    have d3 : decide ((r : Int) ≤ 102) = true := decide_eq_true (by omega)
    clear n1
    go_enter Tryz.func142, Tryz.ntmps142
    go_wp2_with fail
    go_ret2
    refine ⟨?_, rfl⟩
    rw [hexN, H.out]
    simp
    omega
  have n2 : decide (97 ≤ (r : Int)) = false ∨ decide ((r : Int) ≤ 102) = false := by
    rcases Nat.lt_or_ge r 97 with h | h
    · exact .inl (decide_eq_false (by omega))
    · exact .inr (decide_eq_false (by omega))
  by_cases c3 : 65 ≤ r ∧ r ≤ 70
  · have H := Lib.hid (show hexD r = some (r - 65 + 10) by rw [hexD, if_neg c1, if_neg c2, if_pos c3])
    have d0 : decide (48 ≤ (r : Int)) = true := decide_eq_true (by omega)
    have d1 : decide ((r : Int) ≤ 57) = false := decide_eq_false (by omega)
    have d2 : decide (97 ≤ (r : Int)) = false := decide_eq_false (by omega)
    have d4 : decide (65 ≤ (r : Int)) = true := decide_eq_true (by omega)
    have d5 : decide ((r : Int) ≤ 70) = true := decide_eq_true (by omega)
    clear n1 n2
    go_enter Tryz.func142, Tryz.ntmps142
    go_wp2_with fail
    go_ret2
    refine ⟨?_, rfl⟩
    rw [hexN, H.out]
    simp
    omega
  have n3 : decide (65 ≤ (r : Int)) = false ∨ decide ((r : Int) ≤ 70) = false := by
    rcases Nat.lt_or_ge r 65 with h | h
    · exact .inl (decide_eq_false (by omega))
    · exact .inr (decide_eq_false (by omega))
  have H := Lib.hid (show hexD r = none by rw [hexD, if_neg c1, if_neg c2, if_neg c3])
  clear c1 c2 c3
  rcases n1 with n1 | n1 <;> rcases n2 with n2 | n2 <;> rcases n3 with n3 | n3
  all_goals
    go_enter Tryz.func142, Tryz.ntmps142
    go_wp2_with fail
    all_goals
      go_ret2
      refine ⟨?_, rfl⟩
      rw [hexN, H.out]
      rfl

/-- Hex digits, read on. -/
def pairGo : Nat → List UInt8 → Option Nat
  | v, [] => some v
  | v, b :: r => match hexD b.toNat with
    | some d => pairGo (v * 16 % 256 + d) r
    | none => none
def pairV (s : List UInt8) : Nat := (pairGo 0 s).getD 0
def pairOk (s : List UInt8) : Bool := (pairGo 0 s).isSome && s.length == 2
theorem pairGo_le : ∀ (l : List UInt8) (n : Nat) (v : Nat), n ≤ 255 → pairGo n l = some v → v ≤ 255
  | [], n, v, h, e => by simp [pairGo] at e; omega
  | b :: r, n, v, h, e => by
    rw [pairGo] at e
    split at e
    · rename_i d hd
      have := hexD_le hd
      exact pairGo_le r _ v (by omega) e
    · cases e
theorem pairV_le (s : List UInt8) : pairV s ≤ 255 := by
  unfold pairV
  rcases h : pairGo 0 s with _ | v
  · simp
  · exact pairGo_le s 0 v (by omega) h
def PairPost (w : World) (s : List UInt8) (e : Ending) (w' : World) : Prop := e = .returned (.tuple #[.int .u8 (pairV s), .bool (pairOk s)]) ∧ Below w.heap.size w w'
theorem pair_none {s : List UInt8} (h : pairGo 0 s = none) : pairV s = 0 ∧ pairOk s = false := by simp [pairV, pairOk, h]
theorem pair_some {s : List UInt8} {n : Nat} (h : pairGo 0 s = some n) : pairV s = n ∧ pairOk s = (s.length == 2) := by simp [pairV, pairOk, h]
theorem or8 (v d : Nat) (hd : d ≤ 15) : bits BinOp.or IntKind.u8 ((v : Int) * 16 % 256) (d : Int) = ((v * 16 % 256 + d : Nat) : Int) := by
  have e1 : (v : Int) * 16 % 256 = ((v * 16 % 256 : Nat) : Int) := by omega
  rw [e1, u8_or_nat _ _ (by omega) (by omega), nat_join 4 _ d (by omega) (by omega)]

set_option maxRecDepth 100000 in
set_option maxHeartbeats 2000000 in
theorem pair_any (w : World) (s : List UInt8) (hl : s.length ≤ 1099511627776) : Calls Tryz.prog 132 #[.string (str s)] w (PairPost w s) := by
  go_enter Tryz.func132, Tryz.ntmps132
  go_wp2_with fail
  go_loopw [4] (fun v wr => ∃ n pos : Nat, v = .int .u8 n ∧ pos ≤ s.length ∧ n ≤ 255 ∧ pairGo 0 s = pairGo n (s.drop pos) ∧ wr = w.iter (str s) pos) (fun _ wr => s.length - wr.iterPos w.heap.size)
  case atStart => exact ⟨0, 0, rfl, Nat.zero_le _, Nat.zero_le _, rfl, rfl⟩
  case round =>
    obtain ⟨n, pos, rfl, hp, hn, hg, rfl⟩ := hrel
    have HG := Lib.hid hg
    clear hg
    by_cases hlt : pos < s.length
    · obtain ⟨r, k, hd, hk1, hk2, hr, hrk⟩ := dec_step s pos hlt
      have hnx : ∀ ty, (Instr.next (.pointer (some ⟨w.heap.size, 0, none⟩)) true ty).run Tryz.prog (w.iter (str s) pos) = .ok (.tuple #[.bool true, .int .i64 pos, .int .i32 r]) (w.iter (str s) (pos + k)) := by
        intro ty
        have := run_next_any (P := Tryz.prog) w (str s) pos ty hlt
        rw [hd] at this
        exact this
      have HE := Lib.hid (drop_get s pos hlt)
      have HRK := Lib.hid hrk
      clear hrk hd
      go_wp2_with fail
      refine (digit_any _ r hr).mono ?_
      rintro e w3 ⟨rfl, rfl⟩
      rcases hx : hexD r with _ | d
      · have HB := Lib.hid (pair_none (show pairGo 0 s = none by
          rw [HG.out, HE.out, pairGo]
          rcases HRK.out with ⟨h1, h2, h3⟩ | ⟨h1, h2, h3⟩
          · rw [← h2, hx]
          · rw [hexD_high h1]))
        have x1 : (hexD r).isSome = false := by rw [hx]; rfl
        clear hx
        go_wp2_with fail
        go_ret2
        exact ⟨by rw [HB.out.1, HB.out.2]; rfl, below_iter w _ _⟩
      · have hd := hexD_le hx
        have x0 : hexN r = d := by rw [hexN, hx]; rfl
        have hk : k = 1 ∧ pairGo 0 s = pairGo (n * 16 % 256 + d) (s.drop (pos + 1)) := by
          rcases HRK.out with ⟨h1, h2, h3⟩ | ⟨h1, h2, h3⟩
          · refine ⟨h3, ?_⟩
            rw [HG.out, HE.out, pairGo, ← h2, hx]
          · rw [hexD_high h2] at hx
            cases hx
        have x1 : (hexD r).isSome = true := by rw [hx]; rfl
        have HH := Lib.hid hk.2
        obtain rfl : k = 1 := hk.1
        have ho := or8 n d hd
        clear hx hk
        go_wp2_with fail
        go_roundw
        case rel => exact ⟨n * 16 % 256 + d, _, by congr 1, by omega, by omega, by exact HH.out, rfl⟩
        case measure => simp; omega
    · have hnx : ∀ ty, (Instr.next (.pointer (some ⟨w.heap.size, 0, none⟩)) true ty).run Tryz.prog (w.iter (str s) pos) = .ok (.tuple #[.bool false]) (w.iter (str s) pos) := fun ty => run_next_end w (str s) pos ty hlt
      have HB := Lib.hid (pair_some (show pairGo 0 s = some n by rw [HG.out, List.drop_eq_nil_of_le (by omega)]; rfl))
      have hss : (str s).size = s.length := rfl
      go_wp2_with fail
      go_ret2
      refine ⟨?_, below_iter w _ _⟩
      rw [HB.out.1, HB.out.2]
      have hq : ((s.length : Int) == 2) = (s.length == 2) := by rw [Bool.eq_iff_iff]; simp; omega
      rw [← hq]
      rfl
def okM (ps : List (List UInt8)) (k : Nat) : Bool := (List.range k).all fun i => pairOk (ps.getD i [])
theorem okM_iff {ps : List (List UInt8)} {k : Nat} : okM ps k = true ↔ ∀ i < k, pairOk (ps.getD i []) = true := by simp [okM, List.all_eq_true]
def macL (ps : List (List UInt8)) : Mac6 := ⟨bN (pairV (ps.getD 0 [])), bN (pairV (ps.getD 1 [])), bN (pairV (ps.getD 2 [])), bN (pairV (ps.getD 3 [])), bN (pairV (ps.getD 4 [])), bN (pairV (ps.getD 5 []))⟩
def parseM (s : List UInt8) : Option Mac6 := if (cutB 58 s).length = 6 ∧ okM (cutB 58 s) 6 = true then some (macL (cutB 58 s)) else none
def mac0 : Mac6 := ⟨0, 0, 0, 0, 0, 0⟩
def parseMV (s : List UInt8) : Mac6 × Int := match parseM s with
  | some a => (a, 0)
  | none => (mac0, 9)
def ParseMPost (w : World) (s : List UInt8) (e : Ending) (w' : World) : Prop := e = .returned (.tuple #[macV (parseMV s).1, .int .i64 (parseMV s).2]) ∧ Below w.heap.size w w'
abbrev z6 : Array Value := #[.int .u8 0, .int .u8 0, .int .u8 0, .int .u8 0, .int .u8 0, .int .u8 0]
def mpC (ps : List (List UInt8)) (j : Nat) : Array Value := #[if 0 < j then .int .u8 (pairV (ps.getD 0 [])) else .int .u8 0, if 1 < j then .int .u8 (pairV (ps.getD 1 [])) else .int .u8 0, if 2 < j then .int .u8 (pairV (ps.getD 2 [])) else .int .u8 0,
  if 3 < j then .int .u8 (pairV (ps.getD 3 [])) else .int .u8 0, if 4 < j then .int .u8 (pairV (ps.getD 4 [])) else .int .u8 0, if 5 < j then .int .u8 (pairV (ps.getD 5 [])) else .int .u8 0]
theorem mpC_size (ps : List (List UInt8)) (j : Nat) : (mpC ps j).size = 6 := rfl
theorem mpC_one (ps : List (List UInt8)) : (mpC ps 6).all (·.oneCell') = true := by simp [mpC, Value.oneCell']
theorem mpC_zero (ps : List (List UInt8)) : mpC ps 0 = z6 := by simp [mpC]
theorem mpC_step (ps : List (List UInt8)) (j : Nat) (h : j < 6) : (mpC ps j).setIfInBounds j (.int .u8 (pairV (ps.getD j []))) = mpC ps (j + 1) := by
  rcases (show j = 0 ∨ j = 1 ∨ j = 2 ∨ j = 3 ∨ j = 4 ∨ j = 5 by omega) with rfl | rfl | rfl | rfl | rfl | rfl <;> simp [mpC]
theorem mpC_end (ps : List (List UInt8)) : .agg (mpC ps 6) = macV (macL ps) := by
  have e : ∀ i, ((bN (pairV (ps.getD i []))).toNat : Int) = pairV (ps.getD i []) := by
    intro i
    have h1 := pairV_le (ps.getD i [])
    rw [bN_val]
    omega
  simp only [mpC, macL, macV, e 0, e 1, e 2, e 3, e 4, e 5]
  simp
theorem parseM_no {s : List UInt8} (h : ¬ ((cutB 58 s).length = 6 ∧ okM (cutB 58 s) 6 = true)) : parseMV s = (mac0, 9) := by simp only [parseMV, parseM, if_neg h]
theorem parseM_yes {s : List UInt8} (h : (cutB 58 s).length = 6 ∧ okM (cutB 58 s) 6 = true) : parseMV s = (macL (cutB 58 s), 0) := by simp only [parseMV, parseM, if_pos h]
theorem splice6 (ps : List (List UInt8)) : spliceAt z6 0 (mpC ps 6).toList = mpC ps 6 := by simp [spliceAt, mpC]

set_option maxRecDepth 100000 in
set_option maxHeartbeats 4000000 in
theorem parseMac_any (w : World) (s : List UInt8) (hl : s.length ≤ 1099511627776) : Calls Tryz.prog 115 #[.string (str s)] w (ParseMPost w s) := by
  go_enter Tryz.func115, Tryz.ntmps115
  go_wp2_with fail
  have b0 : Below w.heap.size w (w.alloc (.cells z6 28)) := (Below.refl _ w).alloc (Nat.le_refl _) _
  have P0 : (w.alloc (.cells z6 28)).heap[w.heap.size]? = some (.cells z6 28 (0, 0)) := heap_alloc_new w _
  obtain ⟨g, hg⟩ : ∃ g, w.heap.size = g := ⟨_, rfl⟩
  rw [hg] at P0 ⊢
  generalize w.alloc (.cells z6 28) = w1 at b0 P0 ⊢
  refine (parts_any w1 s 58 (by decide) hl).mono ?_
  rintro e w2 ⟨A, n, cc, rfl, ho, q2⟩
  have P2 := below_at q2 P0 (heap_lt P0)
  have b2 := b0.trans (q2.mono b0.size)
  have hn := ho.1
  have HG := Lib.hid hg
  have HN := Lib.hid hn
  clear hn hg b0 P0 q2
  by_cases h4 : n = 6
  case' neg =>
    have x1 : ((n : Int) != 6) = true := by rw [bne_iff_ne]; omega
    have HV := Lib.hid (parseM_no (s := s) (fun h => h4 (by have := HN.out; omega)))
    clear h4
    go_wp2_with ((with_reducible apply at_store_part 28); (case hx => exact rfl); (case hy => exact rfl); (case hg => exact heap_alloc_of P2); (case hle => simp); (case hi => kernel_rfl); (case h1 => kernel_rfl); (intro w3 g3 P3; replace P3 := Lib.hid P3))
    refine bodyPost_cell_tmp g _ _ _ rfl rfl P3.out Tryz.underlying28 rfl (by kernel_rfl) rfl ?_
    exact ⟨by rw [HV.out]; rfl, below_grown (b2.alloc b2.size _) g3 (by have := b2.size; simp; omega) (by have := HG.out; omega)⟩
  obtain ⟨b, o, rfl, hbl, _⟩ := ho.at_ (getD_some [] (show 0 < (cutB 58 s).length by have := HN.out; omega))
  subst h4
  have HO := Lib.hid ho
  clear ho
  go_wp2_with fail
  have Pa := heap_alloc_new w2 (.cells z6 28)
  have P3 := heap_alloc_of (o := .cells z6 28) P2
  have b3 := b2.alloc b2.size (.cells z6 28)
  have cells : ∀ j < 6, (w2.alloc (.cells z6 28)).cell? ⟨b, o + j, none⟩ = some (.string (str ((cutB 58 s).getD j []))) := fun j hj =>
    (World.cell?_of_block (w := w2) (a := ⟨b, o + j, none⟩) (Below.heap_alloc w2 _ b hbl)).trans (HO.out.cell (getD_some [] (by have := HN.out; omega))).2
  have hgk : g < w2.heap.size := heap_lt P2
  have lens : ∀ j < 6, ((cutB 58 s).getD j []).length ≤ 1099511627776 := fun j hj =>
    Nat.le_trans (cutB_mem 58 s _ (List.mem_iff_getElem?.2 ⟨j, getD_some [] (by have := HN.out; omega)⟩)) hl
  obtain ⟨ps, hps⟩ : ∃ ps, cutB 58 s = ps := ⟨_, rfl⟩
  rw [hps] at cells lens
  have HPS := Lib.hid hps
  have CELLS := Lib.hid cells
  have LENS := Lib.hid lens
  obtain ⟨k, hk⟩ : ∃ k, w2.heap.size = k := ⟨_, rfl⟩
  have HKS := Lib.hid (show k < (w2.alloc (.cells z6 28)).heap.size by simp; omega)
  have hb3 := b3.size
  rw [hk] at Pa hbl hgk ⊢
  clear hk cells lens hps P2 b2
  generalize w2.alloc (.cells z6 28) = wl at Pa P3 b3 CELLS HKS hb3 ⊢
  have PA := Lib.hid Pa
  clear Pa
  go_loopw [18] (fun iv wr => ∃ j : Nat, iv = .int .i64 j ∧ j ≤ 6 ∧ okM ps j = true ∧ wr.heap[k]? = some (.cells (mpC ps j) 28 (0, 0)) ∧ wl.grownBy wr (some k)) (fun iv _ => 6 - (intOf iv).toNat)
  case atStart => exact ⟨0, rfl, Nat.zero_le _, rfl, by rw [mpC_zero]; exact PA.out, World.grownBy.refl _ _⟩
  case round =>
    clear PA
    obtain ⟨j, rfl, hj, hok, hPk, hgr⟩ := hrel
    have HOK := Lib.hid hok
    have HGR := Lib.hid hgr
    have hzr := hgr.size
    have PR := grown_at hgr P3 (by omega)
    have br := below_grown b3 hgr hb3 (by have := HG.out; omega)
    clear hok
    by_cases hlt : j < 6
    · have hc := grown_cell hgr (by have := HKS.out; omega) (by omega) (CELLS.out j hlt)
      have hjn : (0 : Int) ≤ (j : Int) ∧ (j : Int) < 6 := ⟨by omega, by omega⟩
      have hlj := LENS.out j hlt
      obtain ⟨p, hp⟩ : ∃ p, ps.getD j [] = p := ⟨_, rfl⟩
      rw [hp] at hc hlj
      have HP := Lib.hid hp
      have hnv := pairV_le p
      clear hgr hp
      go_wp2_with fail
      refine (pair_any wr p hlj).mono ?_
      rintro e w4 ⟨rfl, q4⟩
      have P4 := below_at q4 PR (heap_lt PR)
      have K4 := below_at q4 hPk (heap_lt hPk)
      have b4 := br.trans (q4.mono br.size)
      have HG4 := Lib.hid (grown_below HGR.out q4 hzr)
      clear hc PR hPk br q4
      by_cases hx : pairOk p = true
      · have HX := Lib.hid hx
        obtain ⟨hcK, hfK⟩ := cells_of K4
        have hcj : w4.cell? ⟨k, j, none⟩ = some ((mpC ps j).getD j undef) := by
          rw [hcK j]
          rcases (show j = 0 ∨ j = 1 ∨ j = 2 ∨ j = 3 ∨ j = 4 ∨ j = 5 by omega) with rfl | rfl | rfl | rfl | rfl | rfl <;> rfl
        have K5 := Lib.hid (heap_set_cells (k := j) K4 (.int .u8 (pairV p)))
        clear K4 hcK
        go_wp2_with fail
        go_roundw
        case rel =>
          refine ⟨j + 1, by go_num, by omega, okM_iff.2 fun i hi => ?_, ?_, ?_⟩
          · rcases Nat.lt_or_ge i j with h | h
            · exact okM_iff.1 HOK.out i h
            · obtain rfl : i = j := by omega
              rw [HP.out]; exact HX.out
          · rw [← mpC_step ps j hlt, HP.out]
            exact K5.out
          · exact grown_setCell HG4.out _ _
        case measure => simp [intOf]; omega
      · have hx' : pairOk p = false := by simpa using hx
        have HV := Lib.hid (parseM_no (s := s) (fun h => by rw [HPS.out] at h; have := okM_iff.1 h.2 j hlt; rw [HP.out] at this; exact hx this))
        clear hx
        go_wp2_with ((with_reducible apply at_store_part 28); (case hx => exact rfl); (case hy => exact rfl); (case hg => exact P4); (case hle => simp); (case hi => kernel_rfl); (case h1 => kernel_rfl); (intro w5 g5 P5; replace P5 := Lib.hid P5))
        refine bodyPost_cell_tmp g _ _ _ rfl rfl P5.out Tryz.underlying28 rfl (by kernel_rfl) rfl ?_
        exact ⟨by rw [HV.out]; rfl, below_grown b4 g5 b4.size (by have := HG.out; omega)⟩
    · obtain rfl : j = 6 := by omega
      have HV := Lib.hid (parseM_yes (s := s) (by rw [HPS.out]; exact ⟨by rw [← HPS.out]; exact HN.out.symm, HOK.out⟩))
      clear hgr hlt
      go_wp2_with (((with_reducible apply at_load_row 28); (case hx => exact rfl); (case hg => exact hPk); (case hu => exact Tryz.underlying28); (case hd => rfl); (case hi => kernel_rfl)); (refine Hid.out ?_))
      refine Lib.hid ?_
      go_wp2_with ((with_reducible apply at_store_part 28); (case hx => exact rfl); (case hy => exact rfl); (case hg => exact PR); (case hle => rw [mpC_size]; decide); (case hi => rw [mpC_size]; kernel_rfl); (case h1 => exact mpC_one ps); (intro w5 g5 P5; replace P5 := Lib.hid P5))
      have P6 := P5.out
      rw [splice6] at P6
      refine bodyPost_cell_tmp g _ _ _ rfl rfl P6 Tryz.underlying28 rfl (by kernel_rfl) rfl ?_
      refine ⟨?_, below_grown br g5 br.size (by have := HG.out; omega)⟩
      rw [HV.out, HPS.out, ← mpC_end ps]
      rfl
end Go.Proofs.YtnmdiageigbphaaGreatDoor
