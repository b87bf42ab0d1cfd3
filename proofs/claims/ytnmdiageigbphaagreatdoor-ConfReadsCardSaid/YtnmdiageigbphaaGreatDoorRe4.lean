/-
  The reference's trim, Words, Lines, has, number, known.
-/
import Derived.Test.YtnmdiageigbphaaGreatDoorCq7
import Derived.Test.YtnmdiageigbphaaGreatDoorRe1
namespace Go.Proofs.YtnmdiageigbphaaGreatDoor
open Go.RowKit

def strLen : Value → Nat
  | .string b => b.size
  | _ => 0
def trimA (s : List UInt8) : List UInt8 := s.dropWhile blk
def trimZ (s : List UInt8) : List UInt8 := (s.reverse.dropWhile blk).reverse
def trimR (s : List UInt8) : List UInt8 := trimZ (trimA s)
theorem trimA_cons {b : UInt8} {r : List UInt8} (h : blk b = true) : trimA (b :: r) = trimA r := by rw [trimA, List.dropWhile_cons_of_pos (by simpa using h)]; rfl
theorem trimA_stop {b : UInt8} {r : List UInt8} (h : blk b = false) : trimA (b :: r) = b :: r := by rw [trimA, List.dropWhile_cons_of_neg (by simp [h])]
theorem trimZ_snoc {b : UInt8} {r : List UInt8} (h : blk b = true) : trimZ (r ++ [b]) = trimZ r := by rw [trimZ, List.reverse_append, List.reverse_singleton, List.singleton_append, List.dropWhile_cons_of_pos (by simpa using h)]; rfl
theorem trimZ_stop {b : UInt8} {r : List UInt8} (h : blk b = false) : trimZ (r ++ [b]) = r ++ [b] := by
  rw [trimZ, List.reverse_append, List.reverse_singleton, List.singleton_append, List.dropWhile_cons_of_neg (by simp [h]), List.reverse_cons, List.reverse_reverse]
theorem blk_two (b : UInt8) : blk b = (((b.toNat : Int) == 32) || ((b.toNat : Int) == 9)) := by
  rw [blk, Bool.eq_iff_iff]
  simp only [Bool.or_eq_true, beq_iff_eq]
  constructor
  · rintro (rfl | rfl)
    · exact .inl rfl
    · exact .inr rfl
  · rintro (h | h)
    · exact .inl (UInt8.toNat_inj.1 (by simp; omega))
    · exact .inr (UInt8.toNat_inj.1 (by simp; omega))
theorem trimA_len (s : List UInt8) : (trimA s).length ≤ s.length := (List.dropWhile_sublist _).length_le
theorem trimZ_len (s : List UInt8) : (trimZ s).length ≤ s.length := by
  have := (List.dropWhile_sublist (l := s.reverse) blk).length_le
  simpa [trimZ] using this
theorem trimR_len (s : List UInt8) : (trimR s).length ≤ s.length := Nat.le_trans (trimZ_len _) (trimA_len s)
set_option maxRecDepth 100000 in
set_option maxHeartbeats 4000000 in
theorem rtrim_any (w : World) (s : List UInt8) (hl : s.length ≤ 1000000) : Calls Tryz.prog 22 #[.string (str s)] w (fun e w' => e = .returned (.string (str (trimR s))) ∧ w' = w) := by
  go_enter Tryz.func22, Tryz.ntmps22
  go_wp2_with fail
  go_loopw [0] (fun v wr => ∃ u : List UInt8, v = .string (str u) ∧ trimA u = trimA s ∧ u.length ≤ s.length ∧ wr = w) (fun v _ => strLen v)
  case atStart => exact ⟨s, rfl, rfl, Nat.le_refl _, rfl⟩
  case round =>
    obtain ⟨u, rfl, hu, hul, rfl⟩ := hrel
    have HU := Lib.hid hu
    clear hu
    by_cases hc : ∃ b r, u = b :: r ∧ blk b = true
    · obtain ⟨b, r, rfl, hb⟩ := hc
      have hts : (str (b :: r)).toList.isEmpty = false := by rw [toList_str]; rfl
      have hss : (str (b :: r)).size = r.length + 1 := rfl
      have hget : ∀ pf, (str (b :: r))[0]'pf = b := fun pf => str_get (b :: r) 0 pf
      have hin : (0 : Int) < (r.length : Int) + 1 := by omega
      have h1n : (1 : Int) ≤ (r.length : Int) + 1 := by omega
      have hex : (str (b :: r)).extract 1 (r.length + 1) = str r := by rw [extr]; simp
      have HA := Lib.hid (trimA_cons (r := r) hb)
      have hlr : r.length + 1 ≤ 1000000 := by simp at hul; omega
      rw [blk_two] at hb
      have hul2 := hul
      obtain ⟨U, hU⟩ : ∃ x, str (b :: r) = x := ⟨_, rfl⟩
      have HUU := Lib.hid hU
      rw [hU] at hts hss hget hex ⊢
      clear hul hU
      rcases hx1 : ((b.toNat : Int) == 32) with _ | _
      case' false =>
        rw [hx1, Bool.false_or] at hb
      all_goals
        go_wp2_with fail
        go_roundw
        case rel => exact ⟨r, rfl, by rw [← HA.out]; exact HU.out, by simp at hul2; omega, by first | rfl | trivial⟩
        case measure =>
          have h2 : U.size = r.length + 1 := hss
          show r.length < U.size
          omega
    · have HS := Lib.hid (show trimA s = u by
        rw [← HU.out]
        rcases u with _ | ⟨b, r⟩
        · rfl
        · exact trimA_stop (by
            rcases hb : blk b with _ | _
            · rfl
            · exact absurd ⟨b, r, rfl, hb⟩ hc))
      rcases u with _ | ⟨b, r⟩
      case' nil =>
        have hts : (str []).toList.isEmpty = true := by rw [toList_str]; rfl
      case' cons =>
        have hb : blk b = false := by
          rcases hb : blk b with _ | _
          · rfl
          · exact absurd ⟨b, r, rfl, hb⟩ hc
        rw [blk_two, Bool.or_eq_false_iff] at hb
        have hx1 := hb.1
        have hx2 := hb.2
        have hts : (str (b :: r)).toList.isEmpty = false := by rw [toList_str]; rfl
        have hss : (str (b :: r)).size = r.length + 1 := rfl
        have hget : ∀ pf, (str (b :: r))[0]'pf = b := fun pf => str_get (b :: r) 0 pf
        have hin : (0 : Int) < (r.length : Int) + 1 := by omega
        obtain ⟨U, hU⟩ : ∃ x, str (b :: r) = x := ⟨_, rfl⟩
        have HUU := Lib.hid hU
        rw [hU] at hts hss hget ⊢
        clear hb hU
      all_goals
        clear hc hul HU
        go_wp2_with fail
        go_loopw [0] (fun v wx => ∃ z : List UInt8, v = .string (str z) ∧ trimZ z = trimR s ∧ z.length ≤ s.length ∧ wx = wr) (fun v _ => strLen v)
        case atStart => exact ⟨trimA s, by first | (rw [HS.out]; done) | rw [HS.out, HUU.out], rfl, trimA_len s, rfl⟩
        case round =>
          try clear hts
          try clear hss hget hin hx1 hx2
          obtain ⟨z, rfl, hz, hzl, rfl⟩ := hrel
          have HZ := Lib.hid hz
          clear hz
          rcases List.eq_nil_or_concat z with rfl | ⟨r2, b2, rfl⟩
          · have hts2 : (str []).toList.isEmpty = true := by rw [toList_str]; rfl
            have HV := Lib.hid (show trimR s = [] by rw [← HZ.out]; rfl)
            go_wp2_with fail
            go_ret
            exact ⟨by rw [HV.out]; rfl, rfl⟩
          · rw [List.concat_eq_append] at *
            have hts2 : (str (r2 ++ [b2])).toList.isEmpty = false := by rw [toList_str]; simp
            obtain ⟨k2, hk2⟩ : ∃ k, r2.length = k := ⟨_, rfl⟩
            have hss2 : (str (r2 ++ [b2])).size = k2 + 1 := by rw [← hk2]; show (r2 ++ [b2]).length = _; simp
            have hget2 : ∀ pf, (str (r2 ++ [b2]))[k2]'pf = b2 := fun pf => (str_get (r2 ++ [b2]) k2 pf).trans (by rw [← hk2]; simp [List.getD])
            have hex2 : (str (r2 ++ [b2])).extract 0 k2 = str r2 := by rw [extr, ← hk2]; simp
            have hk1 : k2 + 1 ≤ 1000000 := by rw [List.length_append, List.length_singleton, hk2] at hzl; omega
            have i1 : (k2 : Int) + 1 - 1 = (k2 : Int) := by omega
            have i2 : IntKind.i64.wrap (k2 : Int) = (k2 : Int) := IntWalk.i64_in _ (by omega)
            have i3 : (0 : Int) ≤ (k2 : Int) ∧ (k2 : Int) < (k2 : Int) + 1 := by omega
            have i4 : (0 : Int) ≤ (k2 : Int) ∧ (k2 : Int) ≤ (k2 : Int) + 1 := by omega
            have HZL := Lib.hid hzl
            have HK := Lib.hid hk2
            have HB := Lib.hid (blk_two b2)
            obtain ⟨U2, hU2⟩ : ∃ x, str (r2 ++ [b2]) = x := ⟨_, rfl⟩
            have HU2 := Lib.hid hU2
            rw [hU2] at hts2 hss2 hget2 hex2 ⊢
            clear hzl hk2 hU2
            rcases hx1 : ((b2.toNat : Int) == 32) with _ | _
            case' false =>
              rcases hx2 : ((b2.toNat : Int) == 9) with _ | _
            case' false.false =>
              have HV := Lib.hid (show trimR s = r2 ++ [b2] by rw [← HZ.out]; exact trimZ_stop (by rw [HB.out, hx1, hx2]; rfl))
              go_wp2_with fail
              go_ret
              exact ⟨by rw [HV.out, HU2.out]; rfl, rfl⟩
            all_goals
              have HV := Lib.hid (show trimZ r2 = trimR s by rw [← HZ.out]; exact (trimZ_snoc (by first | rw [HB.out, hx1]; rfl | (rw [HB.out, hx1, hx2]; rfl))).symm)
              go_wp2_with fail
              go_roundw
              case rel => exact ⟨r2, rfl, HV.out, by have := HZL.out; rw [List.length_append, List.length_singleton] at this; omega, by first | rfl | trivial⟩
              case measure =>
                have := HK.out
                have h2 : U2.size = k2 + 1 := hss2
                show r2.length < U2.size
                omega
set_option maxRecDepth 100000 in
set_option maxHeartbeats 4000000 in
theorem rlines_any (w : World) (t : List UInt8) (hl : t.length ≤ 20000) : Calls Tryz.prog 21 #[.string (str t)] w (LinesP w t) := by
  have hpos : 0 < (cutB 10 t).length ∧ (cutB 10 t).length ≤ 1000001 := by have := cutB_count 10 t; have := List.count_le_length (a := (10 : UInt8)) (l := t); omega
  have hV : linesV t = if (cutB 10 t).getLast? = some [] then (cutB 10 t).dropLast else cutB 10 t := rfl
  have hsp : Calls Tryz.prog 64 #[.string (str t), .int .u8 10] w (PartsPost w (cutB 10 t)) := rCut_any w t 10 hl
  obtain ⟨l, hL⟩ : ∃ l, cutB 10 t = l := ⟨_, rfl⟩
  rw [hL] at hpos hV hsp
  have HV := Lib.hid hV
  clear hV hL
  go_enter Tryz.func21, Tryz.ntmps21
  go_wp2_with fail
  refine hsp.mono ?_
  rintro e w1 ⟨A, n, c, rfl, ho, b1⟩
  have hnl : n = l.length := ho.1
  have hnc : n ≤ c := ho.cap
  have hrow := ho.row
  obtain ⟨b, o, rfl, hbl, hc0⟩ := ho.at_ (getD_some [] (show n - 1 < l.length by omega))
  obtain ⟨y, hy⟩ : ∃ y, l.getD (n - 1) [] = y := ⟨_, rfl⟩
  have hgl : l.getLast? = some y := by rw [List.getLast?_eq_getElem?, ← hnl, getD_some [] (show n - 1 < l.length by omega), hy]
  rw [hy] at hc0
  have HN := Lib.hid hnl
  have HG := Lib.hid hgl
  have w64 : IntKind.i64.wrap ((n : Int) - 1) = (n : Int) - 1 := IntWalk.i64_in _ (by omega)
  have hi : (0 : Int) ≤ (n : Int) - 1 ∧ (n : Int) - 1 < (n : Int) := by omega
  have hn1 : ((n : Int) - 1).toNat = n - 1 := by omega
  have HNP := Lib.hid hpos
  clear hgl hy hnl hpos ho hsp
  by_cases h0 : y = []
  · have x1 : ((str y).toList.isEmpty) = true := by rw [toList_str, h0]; rfl
    have HR := Lib.hid (show linesV t = l.dropLast by rw [HV.out, HG.out, h0]; simp)
    clear h0
    go_wp2_with fail
    go_ret
    refine ⟨_, n - 1, c, rfl, by rw [HR.out, List.length_dropLast]; have := HN.out; omega, by omega, ?_, b1⟩
    rw [HR.out, List.dropLast_eq_take]
    have := hrow.take (l.length - 1)
    rwa [sv, ← List.map_take] at this
  · have x1 : ((str y).toList.isEmpty) = false := by rw [toList_str]; simpa using h0
    have HR := Lib.hid (show linesV t = l by rw [HV.out, HG.out]; simp [h0])
    clear h0
    go_wp2_with fail
    go_ret
    exact ⟨_, n, c, rfl, by rw [HR.out]; exact HN.out, hnc, by rw [HR.out]; exact hrow, b1⟩
theorem str_eqB (x y : List UInt8) : ((str x).toList == (str y).toList) = decide (x = y) := by
  rw [toList_str, toList_str, Bool.eq_iff_iff]
  simp
set_option maxRecDepth 100000 in
set_option maxHeartbeats 4000000 in
/-- Is a text among some? -/
theorem rhasS_any (w : World) (H n c : Nat) (A : Option Addr) (l : List (List UInt8)) (ho : SO w H A n c l) (hn : n ≤ 100000) (s : List UInt8) :
    Calls Tryz.prog 25 #[.slice A n c, .string (str s)] w (fun e w' => e = .returned (.bool (decide (s ∈ l))) ∧ w' = w) := by
  have HO := Lib.hid ho
  have hnl : n = l.length := ho.1
  have HN := Lib.hid hnl
  clear ho hnl
  go_enter Tryz.func25, Tryz.ntmps25
  go_wp2_with fail
  go_loopw [5] (fun v wr => ∃ i : Nat, v = .int .i64 i ∧ i ≤ n ∧ (∀ j, j < i → l.getD j [] ≠ s) ∧ wr = w) (fun v _ => n - (intOf v).toNat)
  case atStart => exact ⟨0, rfl, Nat.zero_le _, fun j hj => by omega, rfl⟩
  case round =>
    obtain ⟨i, rfl, hi, hno, rfl⟩ := hrel
    have HNO := Lib.hid hno
    clear hno
    by_cases hlt : i < n
    · have hlti : decide ((i : Int) < (n : Int)) = true := decide_eq_true (by omega)
      have hii : (0 : Int) ≤ (i : Int) ∧ (i : Int) < (n : Int) := ⟨by omega, by omega⟩
      have w64 : IntKind.i64.wrap ((i : Int) + 1) = (i : Int) + 1 := IntWalk.i64_in _ (by omega)
      obtain ⟨b, o, rfl, hbl, hc⟩ := HO.out.at_ (k := i) (s := l.getD i []) (getD_some [] (by have := HN.out; omega))
      have HM := Lib.hid (show l.getD i [] ∈ l from List.mem_iff_getElem?.2 ⟨i, getD_some [] (by have := HN.out; omega)⟩)
      obtain ⟨x, hx⟩ : ∃ x, l.getD i [] = x := ⟨_, rfl⟩
      rw [hx] at hc HM
      have HX := Lib.hid hx
      have es := str_eqB x s
      have HLT := Lib.hid hlt
      clear hx hi hlt
      by_cases he : x = s
      · have HV := Lib.hid (show decide (s ∈ l) = true from decide_eq_true (by rw [← he]; exact HM.out))
        rw [decide_eq_true he] at es
        clear he
        go_wp2_with fail
        go_ret
        exact ⟨by rw [HV.out]; rfl, rfl⟩
      · rw [decide_eq_false he] at es
        have HE := Lib.hid he
        clear he
        go_wp2_with fail
        go_roundw
        case rel => exact ⟨i + 1, by push_cast; rfl, HLT.out, fun j hj => by
          rcases Nat.lt_or_ge j i with h | h
          · exact HNO.out j h
          · obtain rfl : j = i := by omega
            rw [HX.out]; exact HE.out, by first | rfl | trivial⟩
        case measure => have := HLT.out; simp [intOf]; omega
    · obtain rfl : i = n := by omega
      have hlti : decide ((i : Int) < (i : Int)) = false := decide_eq_false (by omega)
      have HV := Lib.hid (show decide (s ∈ l) = false from decide_eq_false fun hm => by
        obtain ⟨j, hj⟩ := List.mem_iff_getElem?.1 hm
        have hjl := (List.getElem?_eq_some_iff.1 hj).1
        exact HNO.out j (by have := HN.out; omega) (by rw [List.getD, hj]; rfl))
      clear hi hlt
      go_wp2_with fail
      go_ret
      exact ⟨by rw [HV.out]; rfl, rfl⟩
/-- A name's place among those that are numbers. -/
def ixN (nm : List UInt8) : Int := if nm = nTime then 0 else if nm = nUdp then 1 else if nm = nTcp then 2 else if nm = nIcmp then 3 else if nm = nLow then 4 else -1
def numsL : List (List UInt8) := [nTime, nUdp, nTcp, nIcmp, nLow]
def namesL : List (List UInt8) := [nLan, nLanmac, nWanmac, nFirst, nLast, nDns, nFixed, nOpen]
theorem ixN_at {i : Nat} {nm : List UInt8} (h : i < 5) (he : numsL.getD i [] = nm) : ixN nm = i := by
  rcases (show i = 0 ∨ i = 1 ∨ i = 2 ∨ i = 3 ∨ i = 4 by omega) with rfl | rfl | rfl | rfl | rfl <;> subst he <;> rfl
theorem ixN_no {nm : List UInt8} (h : ∀ j, j < 5 → numsL.getD j [] ≠ nm) : ixN nm = -1 := by
  have h0 : nm ≠ nTime := fun e => h 0 (by decide) e.symm
  have h1 : nm ≠ nUdp := fun e => h 1 (by decide) e.symm
  have h2 : nm ≠ nTcp := fun e => h 2 (by decide) e.symm
  have h3 : nm ≠ nIcmp := fun e => h 3 (by decide) e.symm
  have h4 : nm ≠ nLow := fun e => h 4 (by decide) e.symm
  rw [ixN, if_neg h0, if_neg h1, if_neg h2, if_neg h3, if_neg h4]
set_option maxRecDepth 100000 in
set_option maxHeartbeats 4000000 in
theorem rnum10_any (w : World) (nm : List UInt8) : Calls Tryz.prog 65 #[.string (str nm)] w (fun e w' => e = .returned (.int .i64 (ixN nm)) ∧ Below w.heap.size w w') := by
  have b0 : Below w.heap.size w (w.alloc (.cells #[.string (str nTime), .string (str nUdp), .string (str nTcp), .string (str nIcmp), .string (str nLow)] 9)) := (Below.refl _ w).alloc (Nat.le_refl _) _
  have hc := (cells_of (heap_alloc_new w (.cells #[.string (str nTime), .string (str nUdp), .string (str nTcp), .string (str nIcmp), .string (str nLow)] 9))).1
  have hc2 : ∀ i, i < 5 → (w.alloc (.cells #[.string (str nTime), .string (str nUdp), .string (str nTcp), .string (str nIcmp), .string (str nLow)] 9)).cell? ⟨w.heap.size, i, none⟩ = some (.string (str (numsL.getD i []))) := fun i hi => by
    rw [hc i]
    rcases (show i = 0 ∨ i = 1 ∨ i = 2 ∨ i = 3 ∨ i = 4 by omega) with rfl | rfl | rfl | rfl | rfl <;> rfl
  have HC := Lib.hid hc2
  clear hc hc2
  go_enter Tryz.func65, Tryz.ntmps65
  go_upto_region 2 with fail
  change Code.wp _ _ _ _ (w.alloc (.cells #[.string (str nTime), .string (str nUdp), .string (str nTcp), .string (str nIcmp), .string (str nLow)] 9))
  generalize w.alloc (.cells #[.string (str nTime), .string (str nUdp), .string (str nTcp), .string (str nIcmp), .string (str nLow)] 9) = w0 at b0 HC ⊢
  obtain ⟨g, hg⟩ : ∃ g, w.heap.size = g := ⟨_, rfl⟩
  rw [hg] at HC ⊢
  have HB := Lib.hid b0
  clear hg b0
  go_wp2_with fail
  go_loopw [4] (fun v wr => ∃ i : Nat, v = .int .i64 i ∧ i ≤ 5 ∧ (∀ j, j < i → numsL.getD j [] ≠ nm) ∧ wr = w0) (fun v _ => 5 - (intOf v).toNat)
  case atStart => exact ⟨0, rfl, Nat.zero_le _, fun j hj => by omega, rfl⟩
  case round =>
    obtain ⟨i, rfl, hi, hno, rfl⟩ := hrel
    have HNO := Lib.hid hno
    clear hno
    by_cases hlt : i < 5
    · have hlti : decide ((i : Int) < 5) = true := decide_eq_true (by omega)
      have hii : (0 : Int) ≤ (i : Int) ∧ (i : Int) < 5 := ⟨by omega, by omega⟩
      have w64 : IntKind.i64.wrap ((i : Int) + 1) = (i : Int) + 1 := IntWalk.i64_in _ (by omega)
      have hcc := HC.out i hlt
      have HX := Lib.hid (fun h => ixN_at (nm := nm) hlt h)
      obtain ⟨x, hx⟩ : ∃ x, numsL.getD i [] = x := ⟨_, rfl⟩
      rw [hx] at hcc HX
      have HXX := Lib.hid hx
      have es := str_eqB x nm
      have HLT := Lib.hid hlt
      clear hx hi hlt
      by_cases he : x = nm
      · have HV := Lib.hid (HX.out he)
        rw [decide_eq_true he] at es
        clear he
        go_wp2_with fail
        go_ret
        exact ⟨by rw [HV.out]; rfl, HB.out⟩
      · rw [decide_eq_false he] at es
        have HE := Lib.hid he
        clear he
        go_wp2_with fail
        go_roundw
        case rel => exact ⟨i + 1, by push_cast; rfl, HLT.out, fun j hj => by
          rcases Nat.lt_or_ge j i with h | h
          · exact HNO.out j h
          · obtain rfl : j = i := by omega
            rw [HXX.out]; exact HE.out, by first | rfl | trivial⟩
        case measure => have := HLT.out; simp [intOf]; omega
    · obtain rfl : i = 5 := by omega
      have HV := Lib.hid (ixN_no HNO.out)
      clear hi hlt
      go_wp2_with fail
      go_ret
      exact ⟨by rw [HV.out]; rfl, HB.out⟩
/-- Is it a name? -/
def knownB (nm : List UInt8) : Bool := decide (nm ∈ namesL) || decide (0 ≤ ixN nm)
set_option maxRecDepth 100000 in
set_option maxHeartbeats 4000000 in
theorem rknown_any (w : World) (nm : List UInt8) : Calls Tryz.prog 23 #[.string (str nm)] w (fun e w' => e = .returned (.bool (knownB nm)) ∧ Below w.heap.size w w') := by
  have b0 : Below w.heap.size w (w.alloc (.cells #[.string (str nLan), .string (str nLanmac), .string (str nWanmac), .string (str nFirst), .string (str nLast), .string (str nDns), .string (str nFixed), .string (str nOpen)] 9)) := (Below.refl _ w).alloc (Nat.le_refl _) _
  have hc := (cells_of (heap_alloc_new w (.cells #[.string (str nLan), .string (str nLanmac), .string (str nWanmac), .string (str nFirst), .string (str nLast), .string (str nDns), .string (str nFixed), .string (str nOpen)] 9))).1
  have hc2 : ∀ i, i < 8 → (w.alloc (.cells #[.string (str nLan), .string (str nLanmac), .string (str nWanmac), .string (str nFirst), .string (str nLast), .string (str nDns), .string (str nFixed), .string (str nOpen)] 9)).cell? ⟨w.heap.size, i, none⟩ = some (.string (str (namesL.getD i []))) := fun i hi => by
    rw [hc i]
    rcases (show i = 0 ∨ i = 1 ∨ i = 2 ∨ i = 3 ∨ i = 4 ∨ i = 5 ∨ i = 6 ∨ i = 7 by omega) with rfl | rfl | rfl | rfl | rfl | rfl | rfl | rfl <;> rfl
  have HC := Lib.hid hc2
  clear hc hc2
  go_enter Tryz.func23, Tryz.ntmps23
  go_upto_region 2 with fail
  change Code.wp _ _ _ _ (w.alloc (.cells #[.string (str nLan), .string (str nLanmac), .string (str nWanmac), .string (str nFirst), .string (str nLast), .string (str nDns), .string (str nFixed), .string (str nOpen)] 9))
  generalize w.alloc (.cells #[.string (str nLan), .string (str nLanmac), .string (str nWanmac), .string (str nFirst), .string (str nLast), .string (str nDns), .string (str nFixed), .string (str nOpen)] 9) = w0 at b0 HC ⊢
  obtain ⟨g, hg⟩ : ∃ g, w.heap.size = g := ⟨_, rfl⟩
  rw [hg] at HC ⊢
  have HB := Lib.hid b0
  clear hg b0
  go_wp2_with fail
  go_loopw [4] (fun v wr => ∃ i : Nat, v = .int .i64 i ∧ i ≤ 8 ∧ (∀ j, j < i → namesL.getD j [] ≠ nm) ∧ wr = w0) (fun v _ => 8 - (intOf v).toNat)
  case atStart => exact ⟨0, rfl, Nat.zero_le _, fun j hj => by omega, rfl⟩
  case round =>
    obtain ⟨i, rfl, hi, hno, rfl⟩ := hrel
    have HNO := Lib.hid hno
    clear hno
    by_cases hlt : i < 8
    · have hlti : decide ((i : Int) < 8) = true := decide_eq_true (by omega)
      have hii : (0 : Int) ≤ (i : Int) ∧ (i : Int) < 8 := ⟨by omega, by omega⟩
      have w64 : IntKind.i64.wrap ((i : Int) + 1) = (i : Int) + 1 := IntWalk.i64_in _ (by omega)
      have hcc := HC.out i hlt
      have HM := Lib.hid (show namesL.getD i [] ∈ namesL from List.mem_iff_getElem?.2 ⟨i, getD_some [] (by exact hlt)⟩)
      obtain ⟨x, hx⟩ : ∃ x, namesL.getD i [] = x := ⟨_, rfl⟩
      rw [hx] at hcc HM
      have HXX := Lib.hid hx
      have es := str_eqB x nm
      have HLT := Lib.hid hlt
      clear hx hi hlt
      by_cases he : x = nm
      · have HV := Lib.hid (show knownB nm = true by rw [knownB, decide_eq_true (by rw [← he]; exact HM.out)]; rfl)
        rw [decide_eq_true he] at es
        clear he
        go_wp2_with fail
        go_ret
        exact ⟨by rw [HV.out]; rfl, HB.out⟩
      · rw [decide_eq_false he] at es
        have HE := Lib.hid he
        clear he
        go_wp2_with fail
        go_roundw
        case rel => exact ⟨i + 1, by push_cast; rfl, HLT.out, fun j hj => by
          rcases Nat.lt_or_ge j i with h | h
          · exact HNO.out j h
          · obtain rfl : j = i := by omega
            rw [HXX.out]; exact HE.out, by first | rfl | trivial⟩
        case measure => have := HLT.out; simp [intOf]; omega
    · obtain rfl : i = 8 := by omega
      have HV := Lib.hid (show knownB nm = decide (0 ≤ ixN nm) by
        rw [knownB, decide_eq_false fun hm => ?_, Bool.false_or]
        obtain ⟨j, hj⟩ := List.mem_iff_getElem?.1 hm
        have hjl : j < 8 := (List.getElem?_eq_some_iff.1 hj).1
        exact HNO.out j hjl (by rw [List.getD, hj]; rfl))
      have hrn := rnum10_any wr nm
      obtain ⟨k, hk⟩ : ∃ k, ixN nm = k := ⟨_, rfl⟩
      rw [hk] at hrn HV
      have hz := HB.out.size
      clear hi hlt hk
      go_wp2_with fail
      refine hrn.mono ?_
      rintro e w2 ⟨rfl, q2⟩
      have b2 := HB.out.trans (q2.mono hz)
      go_wp2_with fail
      go_ret
      exact ⟨by rw [HV.out]; rfl, b2⟩
theorem blk_ne (b : UInt8) : blk b = !(((b.toNat : Int) != 32) && ((b.toNat : Int) != 9)) := by
  rw [blk_two]
  rcases h1 : ((b.toNat : Int) == 32) with _ | _ <;> rcases h2 : ((b.toNat : Int) == 9) with _ | _ <;> simp [bne, h1, h2]
set_option maxRecDepth 100000 in
set_option maxHeartbeats 4000000 in
theorem rwords_any (w : World) (s : List UInt8) (hl : s.length ≤ 1000000) : Calls Tryz.prog 69 #[.string (str s)] w (PartsPost w (words s)) := by
  have hss : (str s).size = s.length := rfl
  go_enter Tryz.func69, Tryz.ntmps69
  go_wp2_with fail
  go_loopw [3, 4, 5] (fun v x iv wr => ∃ (A : Option Addr) (n c i : Nat) (l : List (List UInt8)) (wd : List UInt8), v = .slice A n c ∧ x = .string (str wd) ∧ iv = .int .i64 i ∧ SO wr w.heap.size A n c l ∧ l.length ≤ i ∧ wd.length ≤ i ∧ i ≤ s.length + 1 ∧
      (i ≤ s.length → words s = l ++ wordsW wd (s.drop i)) ∧ (i = s.length + 1 → words s = l) ∧ Below w.heap.size w wr) (fun _ _ iv _ => s.length + 1 - (intOf iv).toNat)
  case atStart => exact ⟨none, 0, 0, 0, [], [], rfl, rfl, rfl, ⟨rfl, World.ownsRow_nil _ _ _ _⟩, Nat.zero_le _, Nat.zero_le _, Nat.zero_le _, fun _ => rfl, fun h => by omega, Below.refl _ _⟩
  case round =>
    obtain ⟨A, n, c, i, l, wd, rfl, rfl, rfl, ho, hli, hwi, hi, hgo, hend, hb⟩ := hrel
    have HEND := Lib.hid hend
    have HGO := Lib.hid hgo
    have hz := hb.size
    have w64 : IntKind.i64.wrap ((i : Int) + 1) = (i : Int) + 1 := IntWalk.i64_in _ (by omega)
    clear hend hgo
    by_cases hle : i ≤ s.length
    · have hlei : (i : Int) ≤ (s.length : Int) := by omega
      by_cases hlt : i < s.length
      · have hin : (0 : Int) ≤ (i : Int) ∧ (i : Int) < (s.length : Int) := ⟨by omega, by omega⟩
        have hget := str_get s i
        have hex := str_one s i hlt
        have HD := Lib.hid (drop_get s i hlt)
        obtain ⟨b, hbb⟩ : ∃ b, s.getD i 0 = b := ⟨_, rfl⟩
        rw [hbb] at hget hex HD
        have hbk := blk_ne b
        clear hbb
        by_cases hk : blk b = false
        · have HC2 := Lib.hid (show words s = l ++ wordsW (wd ++ [b]) (s.drop (i + 1)) by rw [HGO.out hle, HD.out, wordsW, if_neg (by rw [hk]; decide)])
          rw [hk] at hbk
          have hx : ((b.toNat : Int) != 32) = true ∧ ((b.toNat : Int) != 9) = true := by
            rcases h1 : ((b.toNat : Int) != 32) with _ | _ <;> rcases h2 : ((b.toNat : Int) != 9) with _ | _ <;> simp [h1, h2] at hbk ⊢
          obtain ⟨x1, x2⟩ := hx
          have sadd : ∀ w, (Op.stringOp .add (str wd) (str [b])).run Tryz.prog w = .ok (.string (str (wd ++ [b]))) w := fun w => str_addL w wd [b] (by simp; omega)
          have hwl : (wd ++ [b]).length ≤ i + 1 := by simp; omega
          obtain ⟨wd', hwd⟩ : ∃ x, wd ++ [b] = x := ⟨_, rfl⟩
          rw [hwd] at sadd HC2 hwl
          have e5 : (0 : Int) ≤ (i : Int) + 1 ∧ (i : Int) + 1 ≤ (s.length : Int) := by omega
          have e4 : ((i : Int) + 1).toNat = i + 1 := by omega
          clear hbk hk hwd HD HGO
          go_wp2_with fail
          go_roundw
          case rel => exact ⟨A, n, c, i + 1, l, wd', rfl, rfl, by push_cast; rfl, ho, by omega, hwl, by omega, fun _ => HC2.out, fun h => by omega, hb⟩
          case measure => simp [intOf]; omega
        · rw [Bool.not_eq_false] at hk
          rw [hk] at hbk
          have HC2 := Lib.hid (show words s = l ++ (if wd = [] then wordsW [] (s.drop (i + 1)) else wd :: wordsW [] (s.drop (i + 1))) by
            rw [HGO.out hle, HD.out, wordsW, if_pos hk])
          have hd2 : ((b.toNat : Int) != 32) = false ∨ (((b.toNat : Int) != 32) = true ∧ ((b.toNat : Int) != 9) = false) := by
            rcases h1 : ((b.toNat : Int) != 32) with _ | _ <;> rcases h2 : ((b.toNat : Int) != 9) with _ | _ <;> simp [h1, h2] at hbk ⊢
          clear hbk hk HD HGO hex
          by_cases hw : wd = []
          · subst hw
            have hts : (str []).toList.isEmpty = true := by rw [toList_str]; rfl
            have HC3 := Lib.hid (show words s = l ++ wordsW [] (s.drop (i + 1)) by rw [HC2.out, if_pos rfl])
            rcases hd2 with x1 | ⟨x1, x2⟩
            all_goals
              go_wp2_with fail
              go_roundw
              case rel => exact ⟨A, n, c, i + 1, l, [], rfl, rfl, by push_cast; rfl, ho, by omega, by simp, by omega, fun _ => HC3.out, fun h => by omega, hb⟩
              case measure => simp [intOf]; omega
          · have hts : (str wd).toList.isEmpty = false := by rw [toList_str]; simp [hw]
            have HC3 := Lib.hid (show words s = (l ++ [wd]) ++ wordsW [] (s.drop (i + 1)) by rw [HC2.out, if_neg hw]; simp)
            clear hw HC2
            rcases hd2 with x1 | ⟨x1, x2⟩
            all_goals
              go_wp2_with (at_builtin; go_must (refine appS rfl _ _ rfl w.heap.size A n c l rfl (ho.alloc _) wr.heap.size 1 wd rfl ((cells_of (heap_alloc_new wr _)).1 0) (by simp) (by omega) (by simp; omega) ?_))
              intro A' n' c' w' ho' hbw hg
              have hb3 := (hb.alloc hz _).trans hbw
              go_wp2_with fail
              go_roundw
              case rel => exact ⟨A', n', c', i + 1, _, [], rfl, rfl, by push_cast; rfl, ho', by simp; omega, by simp, by omega, fun _ => HC3.out, fun h => by omega, hb3⟩
              case measure => simp [intOf]; omega
      · obtain rfl : i = s.length := by omega
        have HF := Lib.hid (show words s = l ++ (if wd = [] then [] else [wd]) by rw [HGO.out hle, List.drop_length, wordsW])
        clear HGO hlt
        by_cases hw : wd = []
        · subst hw
          have hts : (str []).toList.isEmpty = true := by rw [toList_str]; rfl
          have HF2 := Lib.hid (show words s = l by rw [HF.out, if_pos rfl, List.append_nil])
          go_wp2_with fail
          go_roundw
          case rel => exact ⟨A, n, c, s.length + 1, l, [], rfl, rfl, by push_cast; rfl, ho, by omega, by simp, by omega, fun h => by omega, fun _ => HF2.out, hb⟩
          case measure => simp [intOf]
        · have hts : (str wd).toList.isEmpty = false := by rw [toList_str]; simp [hw]
          have HF2 := Lib.hid (show words s = l ++ [wd] by rw [HF.out, if_neg hw])
          clear hw
          go_wp2_with (at_builtin; go_must (refine appS rfl _ _ rfl w.heap.size A n c l rfl (ho.alloc _) wr.heap.size 1 wd rfl ((cells_of (heap_alloc_new wr _)).1 0) (by simp) (by omega) (by simp; omega) ?_))
          intro A' n' c' w' ho' hbw hg
          have hb3 := (hb.alloc hz _).trans hbw
          go_wp2_with fail
          go_roundw
          case rel => exact ⟨A', n', c', s.length + 1, _, [], rfl, rfl, by push_cast; rfl, ho', by simp; omega, by simp, by omega, fun h => by omega, fun _ => HF2.out, hb3⟩
          case measure => simp [intOf]
    · obtain rfl : i = s.length + 1 := by omega
      have hnle : ¬ ((s.length : Int) + 1 ≤ (s.length : Int)) := by omega
      have HF := Lib.hid (HEND.out rfl)
      go_wp2_with fail
      go_ret
      exact ⟨A, n, c, rfl, by rw [HF.out]; exact ho, hb⟩
end Go.Proofs.YtnmdiageigbphaaGreatDoor
