/-
  gatehousetop.TopTcp: its code; words for the told states of its loop.
-/
import Derived.Test.YtccbdaffjkdpgaaGreatDoorTr
namespace Go.Proofs.YtccbdaffjkdpgaaGreatDoor.Vw
open LB
/-- by the round: the first one whose bound is above it -/
noncomputable def pw (i : Nat) (l : List (Nat × Value)) (d : Value) : Value := List.rec d (fun p _ ih => Prod.rec (fun b v => Bool.rec ih v (Nat.blt i b)) p) l
noncomputable def pwL (i : Nat) (l : List (Nat × List Value)) (d : List Value) : List Value := List.rec d (fun p _ ih => Prod.rec (fun b v => Bool.rec ih v (Nat.blt i b)) p) l
noncomputable def tcFn : Func := Tryz.prog.funcs[(3 : Nat)]!
noncomputable def tcB : Code := tcFn.body.getD .skip
def tcLive : List Nat := [0, 1, 2, 3, 8, 21, 43, 9, 46, 10, 14, 11, 13, 15, 17, 16, 112, 12, 18, 127, 19]
/-- behind the first question -/
noncomputable def tcC : Code := cr (cr tcB)
noncomputable def tcU : Code := crs 2 tcC
noncomputable def tcD : Code := crs 8 tcU
noncomputable def tcR : Code := cb (cb (cr (cl tcD)))
/-- a number of the round is less than the number of rounds; it is not -/
noncomputable def TI (i : Nat) : Ty := tyOf Tryz.prog EQ1 (mkTab [⟨211, i, 18446744073709551618, .bool true⟩])
noncomputable def EI (i : Nat) : Env := envL Tryz.prog EQ1 (mkTab [⟨211, i, 18446744073709551618, .bool true⟩]) LV0
noncomputable def TO (i : Nat) : Ty := tyOf Tryz.prog EQ1 (mkTab [⟨211, i, 18446744073709551618, .bool false⟩])
noncomputable def EO (i : Nat) : Env := envL Tryz.prog EQ1 (mkTab [⟨211, i, 18446744073709551618, .bool false⟩]) LV0
def rowV : Row := ⟨1028, 18446744077711212544, 0, .int .u8 (.ofNat 18446744073709551616)⟩
def seqL (n : Nat) : List Nat := List.range n
theorem one_row {r w : Row} (h : (mkTab [r]).has w) : w = r := by
  have := (mkTab_s [r]).2 w h
  simpa using this
theorem hEI [Val] {i : Nat} (h : RowOk ⟨211, i, 18446744073709551618, .bool true⟩) : Top Tryz.prog (TI i) (EI i) :=
  ⟨tyOf_ok _ _ (fun w hw => by rw [one_row hw]; exact h), eqT_of heq, hfol, (envS (fun w hw => by rw [one_row hw]; exact h)).2⟩
theorem hEO [Val] {i : Nat} (h : RowOk ⟨211, i, 18446744073709551618, .bool false⟩) : Top Tryz.prog (TO i) (EO i) :=
  ⟨tyOf_ok _ _ (fun w hw => by rw [one_row hw]; exact h), eqT_of heq, hfol, (envS (fun w hw => by rw [one_row hw]; exact h)).2⟩
set_option maxHeartbeats 16000000
theorem fsz_tc : Nat.ble (Nat.succ 3) Tryz.prog.funcs.size = true := by decide +kernel
theorem ftc : (3 : Nat) < Tryz.prog.funcs.size := Nat.le_of_ble_eq_true fsz_tc
theorem tc_f : Tryz.prog.funcs[(3 : Nat)]? = some tcFn := by
  have h := ftc
  unfold tcFn
  rw [getElem!_pos Tryz.prog.funcs _ h, Array.getElem?_eq_getElem h]
theorem tc_res : oneTmp tcFn.results.toList 8 = true := by decide +kernel
theorem tc_shape : (seqs 2 tcC && seqs 8 tcU && isSeq tcD && isSeq (cl tcD) && isBlk 0 (cr (cl tcD)) && isLoop (cb (cr (cl tcD))) && isSeq tcR) = true := by decide +kernel
noncomputable def TB0 : Tab := mkTab (rowV :: rows0)
noncomputable def TY0' : Ty := tyOf Tryz.prog EQ1 TB0
/-- the program, gatehousetop.up by what it hands back -/
noncomputable def EE0 : Env := (envL Tryz.prog EQ1 TB0 LV0).put 5 (.sum (toldSum (qa 13 0) UpH13))
theorem hEE0 [Val] (h : ∀ w, TB0.has w → RowOk w) : Top Tryz.prog TY0' EE0 := ⟨tyOf_ok _ _ h, eqT_of heq, hfol, (put_ok (envS h).1 (envS h).2 flt up_sum).2⟩
noncomputable def tH0 (i : Nat) : List LB := [.row 107 false [qb 192, qb 168, qb 1, qb 1, qb 192, qb 168, qb 1, qb 0, qi 24, qb 2, qb 0, qb 0, qb 0, qb 0, qb 1, qb 2, qb 0, qb 0, qb 0, qb 0, qb 2, qb 192, qb 168, qb 1, qb 100, qb 192, qb 168, qb 1, qb 131, qi 3600, qb 9, qb 9, qb 9, qb 9, qi 120, qi 7200, qi 30, qi 40000, qz, qz, qi (i + 1), pw i [(1, qu 5)] (qu 3), qa 1 0, qa 19 0, qa 4 0, qa 5 0, qa 6 0, qa 8 0, qa 10 0, qa 11 0, qz],
  .row 303 false [qi 600, qi (i + 1), qo 31 0 1 0],
  .map0,
  .row 405 false [qu 3232235876, qu 3232235907, qz, qo 21 0 3 0, qM 2, qi (i + 1)],
  .row 266 false [qb 192, qb 168, qb 1, qb 1, qb 192, qb 168, qb 1, qb 0, qi 24, qb 2, qb 0, qb 0, qb 0, qb 0, qb 1, qb 2, qb 0, qb 0, qb 0, qb 0, qb 2, qb 192, qb 168, qb 1, qb 100, qb 192, qb 168, qb 1, qb 131, qi 3600, qb 9, qb 9, qb 9, qb 9, qi 120, qi 7200, qi 30, qi 40000, qz, qz, qa 3 0],
  .row 277 false [qb 2, qb 0, qb 0, qb 0, qb 0, qb 2, qi 3, qi (i + 1), qu 5, qb 203, qb 0, qb 113, qb 1, qb 255, qb 255, qb 255, qb 0, qb 203, qb 0, qb 113, qb 254, qb 203, qb 0, qb 113, qb 254, qi 3001, qi 1, qb 203, qb 0, qb 113, qb 1, qb 203, qb 0, qb 113, qb 254, qi 1, qi 4, qi 1],
  .row 336 false [qi 40000, qi 128, qi (i + 1), qo 22 0 1 0],
  .row 455 false [qi 128, qo 23 0 1 0],
  .row 345 false [qa 6 0, qa 7 0, qi 120, qi 7200, qi 30],
  .row 458 false [qi 64, qz],
  .row 291 false [qi 32, qz, qa 9 0],
  .row 350 false [qa 6 0, qi 0, pw i [(1, qo 20 0 10 0), (3, qo 20 0 8 0), (7, qo 20 0 7 0), (15, qo 20 0 6 0), (31, qo 20 0 5 0), (63, qo 20 0 4 0)] (qo 20 0 3 0)],
  .row 60 false [qb 192, qb 168, qb 1, qb 1, qb 192, qb 168, qb 1, qb 0, qi 24, qb 2, qb 0, qb 0, qb 0, qb 0, qb 1, qb 2, qb 0, qb 0, qb 0, qb 0, qb 2, qb 192, qb 168, qb 1, qb 100, qb 192, qb 168, qb 1, qb 131, qi 3600, qb 9, qb 9, qb 9, qb 9, qi 120, qi 7200, qi 30, qi 40000, qz, qz, qb 192, qb 168, qb 1, qb 100, qb 192, qb 168, qb 1, qb 101, qb 192, qb 168, qb 1, qb 102, qb 0, qb 0, qb 0, qb 0, qb 0, qb 0, qb 0, qb 0, qb 0, qb 0, qb 0, qb 0, qb 0, qb 0, qb 0, qb 0, qb 0, qb 0, qb 0, qb 0, qb 203, qb 0, qb 113, qb 1, qt true, qi 0, qi 0, qi 0, qi 0, qi 63, qi 6, qb 203, qb 0, qb 113, qb 1, qb 8, qb 8, qb 4, qb 18446744073709551616, ql 38 0 0 0, qo 39 0 20 0, qt true, qi 0, qi 0, qi 0, qi 0, qi 0, qi 0, qb 0, qb 0, qb 0, qb 0, qb 0, qb 0, qb 0, qb 0, qz, qz, qi 0, qi 0, qz, qz, qz, qz, qz, qi 1, qi 0, qu 5, qi 0, qi 32768, qb 0, qb 0, qb 0, qb 0, qb 0, qb 0, qb 0, qb 0, qb 0, qb 0, qb 0, qb 0, qb 0, qb 0, qb 0, qb 0, qb 2, qb 0, qb 0, qb 0, qb 0, qb 2, qo 18 0 4 0, qt false],
  .row 64 false [qa 0 0, qa 12 0],
  .row 5 true [qb 3],
  .row 5 true [qb 203, qb 0, qb 113, qb 1],
  .row 5 true [qb 203, qb 0, qb 113, qb 254],
  .row 5 true [qb 1, qb 3, qb 6],
  .row 193 true [qi 53, qo 14 0 1 0, qi 50, qo 15 0 4 0, qi 54, qo 16 0 4 0, qi 55, qo 17 0 3 0],
  .row 303 false [qi 600, qi (i + 1), qo 24 0 1 0],
  .row 2 true [pw i [(1, qi 1), (3, qi 4), (7, qi 8), (15, qi 16), (31, qi 32), (63, qi 64)] (qi 128), pw i [(1, qi 2), (3, qi 8), (7, qi 16), (15, qi 32), (31, qi 64), (63, qi 128)] (qi 256), pw i [(1, qi 4), (3, qi 16), (7, qi 32), (15, qi 64), (31, qi 128), (63, qi 256)] (qi 512), pw i [(1, qi 8), (3, qi 32), (7, qi 64), (15, qi 128), (31, qi 256), (63, qi 512)] (qi 0), pw i [(1, qi 16), (3, qi 64), (7, qi 128), (15, qi 256), (31, qi 512)] (qi 0), pw i [(1, qi 32), (3, qi 128), (7, qi 256), (15, qi 512)] (qi 0), pw i [(1, qi 64), (3, qi 256), (7, qi 512)] (qi 0), pw i [(1, qi 128), (3, qi 512)] (qi 0), pw i [(1, qi 256)] (qi 0), pw i [(1, qi 512)] (qi 0)],
  .row 408 true [qb 2, qb 1, qb 0, qb 0, qb 0, qb 0, qb 192, qb 168, qb 1, qb 100, qi 3601, qt false, qb 2, qb 1, qb 0, qb 0, qb 0, qb 1, qb 192, qb 168, qb 1, qb 101, qi 3601, qt false, qb 2, qb 1, qb 0, qb 0, qb 0, qb 2, qb 192, qb 168, qb 1, qb 102, qi 3601, qt false],
  .row 68 true [qi 6, qi 40000, qb 192, qb 168, qb 1, qb 100, qi 18446744073709551617, qi 1, qi 7201],
  .row 502 true [qi 40000, qb 8, qb 8, qb 4, qb 18446744073709551616, qi 80, qi 6, qt false],
  .row 301 true [qb 203, qb 0, qb 113, qb 254, qt true, qb 2, qb 2, qb 0, qb 0, qb 0, qb 1, qi 1, qi 0, qz],
  .row 5 false [],
  .row 5 true [qb 156, qb 64, qb 0, qb 80, qb 0, qb 0, qb 0, qb 0, qb 0, qb 0, qb 0, qb 0, qb 80, qb 2, qb 0, qb 0, qb 18446744073709551683, qb 18446744073709551684, qb 0, qb 0],
  .row 29 false [qi 0, qi 0, qi 0, qi 0, qi 63, qi 6, qb 203, qb 0, qb 113, qb 1, qb 8, qb 8, qb 4, qb 18446744073709551616, ql 25 0 0 0, qo 26 0 20 0],
  .row 5 false [],
  .row 5 false [],
  .row 38 false [qi 40000, qi 80, qu 0, qu 0, qi 2, qi 0, qi 0, ql 28 0 0 0, ql 29 0 0 0],
  .row 301 true [qb 192, qb 168, qb 1, qb 100, qt true, qb 2, qb 1, qb 0, qb 0, qb 0, qb 0, qi 1, qi 0, qz],
  .row 5 false [],
  .row 5 true [qb 0, qb 80, qb 18446744073709551619, qb 18446744073709551620, qb 0, qb 0, qb 0, qb 0, qb 0, qb 0, qb 0, qb 0, qb 80, qb 18, qb 0, qb 0, qb 18446744073709551741, qb 18446744073709551742, qb 0, qb 0],
  .row 29 false [qi 0, qi 0, qi 0, qi 0, qi 59, qi 6, qb 8, qb 8, qb 4, qb 18446744073709551616, qb 192, qb 168, qb 1, qb 100, ql 32 0 0 0, qo 33 0 20 0],
  .row 5 false [],
  .row 5 false [],
  .row 38 false [qi 80, qi 18446744073709551617, qu 0, qu 0, qi 18, qi 0, qi 0, ql 35 0 0 0, ql 36 0 0 0],
  .row 5 false [],
  .row 5 true [qb 156, qb 64, qb 0, qb 80, qb 0, qb 0, qb 0, qb 0, qb 0, qb 0, qb 0, qb 0, qb 80, qb 16, qb 0, qb 0, qb 18446744073709551782, qb 18446744073709551783, qb 0, qb 0]]
noncomputable def tF0 (i : Nat) : List Value := [qi 0, qi 18446744077711212544, qi 18446744073709551617, qi 18446744073709551618, qt false, qt false, qt false, qa 13 0, qt false, qa 27 0, qa 34 0, qt true, qi 0, qt true, qi 0, qa 37 0, qt false, qa 30 0, qi (i + 0), pw i [(1, qv)] (qt true), qv]
noncomputable def tG0 (i : Nat) : List Value := [qi 0, qi 18446744077711212544, qi 18446744073709551617, qi 18446744073709551618, qt false, qt false, qt false, qa 13 0, qt false, qa 27 0, qa 34 0, qt true, qi 0, qt true, qi 0, qa 37 0, qt false, qa 30 0, qi (i + 0), qt true, qv]
noncomputable def tX0 (i : Nat) : List Value := [qi 0, qi 18446744077711212544, qi 18446744073709551617, qi 18446744073709551618, qt false, qt false, qt false, qa 13 0, qt false, qa 27 0, qa 34 0, qt true, qi 0, qt true, qi 0, qa 37 0, qt false, qa 30 0, qi (i + 0), qt false, qv]
noncomputable def tP0 : List Value := [qi 0, qi 18446744077711212544, qi 18446744073709551617, qi 18446744073709551618, qt false, qt false, qt false, qa 13 0, qt false, qa 27 0, qa 34 0, qt true, qi 0, qt true, qi 0, qa 37 0, qt false, qa 30 0, qv, qv, qv]
noncomputable def tS0 : List Value := [qi 0, qi 18446744077711212544, qi 18446744073709551617, qi 18446744073709551618, qt false, qt false, qv, qv, qv, qv, qv, qv, qv, qv, qv, qv, qv, qv, qv, qv, qv]
noncomputable def tQ0 : List Value := [qi 0, qi 18446744077711212544, qi 18446744073709551617, qi 18446744073709551618, qt false, qt false, qt false, qa 13 0, qv, qv, qv, qv, qv, qv, qv, qv, qv, qv, qv, qv, qv]
def sl0 : List Nat := [0, 1, 2, 3, 4, 5, 6, 7, 8, 9, 10, 11, 12, 13, 14, 15, 16, 17, 18, 19, 20, 21, 22, 23, 24, 25, 26, 27, 28, 29, 30, 31, 32, 33, 34, 35, 36, 37, 38, 39]
def sa0 : List Nat := [0, 1, 2, 3, 4, 5, 6, 7, 8, 9, 10, 11, 12, 13, 14, 15, 16, 17, 18, 19, 20, 21, 300, 312, 403, 603, 605, 608, 624, 625, 626, 976, 1177, 1179, 1182, 1198, 1199, 1200, 1600, 1602]
noncomputable def TB1 : Tab := mkTab (rowV :: rows1)
noncomputable def TY1' : Ty := tyOf Tryz.prog EQ1 TB1
/-- the program, gatehousetop.up by what it hands back -/
noncomputable def EE1 : Env := (envL Tryz.prog EQ1 TB1 LV0).put 5 (.sum (toldSum (qa 13 0) UpH13))
theorem hEE1 [Val] (h : ∀ w, TB1.has w → RowOk w) : Top Tryz.prog TY1' EE1 := ⟨tyOf_ok _ _ h, eqT_of heq, hfol, (put_ok (envS h).1 (envS h).2 flt up_sum).2⟩
noncomputable def tH1 (i : Nat) : List LB := [.row 107 false [qb 192, qb 168, qb 1, qb 1, qb 192, qb 168, qb 1, qb 0, qi 24, qb 2, qb 0, qb 0, qb 0, qb 0, qb 1, qb 2, qb 0, qb 0, qb 0, qb 0, qb 2, qb 192, qb 168, qb 1, qb 100, qb 192, qb 168, qb 1, qb 131, qi 3600, qb 9, qb 9, qb 9, qb 9, qi 120, qi 7200, qi 30, qi 40000, qz, qz, qi (i + 1), pw i [(1, qu 5)] (qu 3), qa 1 0, qa 19 0, qa 4 0, qa 5 0, qa 6 0, qa 8 0, qa 10 0, qa 11 0, qz],
  .row 303 false [qi 600, qi (i + 1), qo 31 0 1 0],
  .map0,
  .row 405 false [qu 3232235876, qu 3232235907, qz, qo 21 0 3 0, qM 2, qi (i + 1)],
  .row 266 false [qb 192, qb 168, qb 1, qb 1, qb 192, qb 168, qb 1, qb 0, qi 24, qb 2, qb 0, qb 0, qb 0, qb 0, qb 1, qb 2, qb 0, qb 0, qb 0, qb 0, qb 2, qb 192, qb 168, qb 1, qb 100, qb 192, qb 168, qb 1, qb 131, qi 3600, qb 9, qb 9, qb 9, qb 9, qi 120, qi 7200, qi 30, qi 40000, qz, qz, qa 3 0],
  .row 277 false [qb 2, qb 0, qb 0, qb 0, qb 0, qb 2, qi 3, qi (i + 1), qu 5, qb 203, qb 0, qb 113, qb 1, qb 255, qb 255, qb 255, qb 0, qb 203, qb 0, qb 113, qb 254, qb 203, qb 0, qb 113, qb 254, qi 3001, qi 1, qb 203, qb 0, qb 113, qb 1, qb 203, qb 0, qb 113, qb 254, qi 1, qi 4, qi 1],
  .row 336 false [qi 40000, qi 128, qi (i + 1), qo 22 0 1 0],
  .row 455 false [qi 128, qo 23 0 1 0],
  .row 345 false [qa 6 0, qa 7 0, qi 120, qi 7200, qi 30],
  .row 458 false [qi 64, qz],
  .row 291 false [qi 32, qz, qa 9 0],
  .row 350 false [qa 6 0, qi 0, pw i [(1, qo 20 0 10 0), (3, qo 20 0 8 0), (7, qo 20 0 7 0), (15, qo 20 0 6 0), (31, qo 20 0 5 0), (63, qo 20 0 4 0)] (qo 20 0 3 0)],
  .row 60 false [qb 192, qb 168, qb 1, qb 1, qb 192, qb 168, qb 1, qb 0, qi 24, qb 2, qb 0, qb 0, qb 0, qb 0, qb 1, qb 2, qb 0, qb 0, qb 0, qb 0, qb 2, qb 192, qb 168, qb 1, qb 100, qb 192, qb 168, qb 1, qb 131, qi 3600, qb 9, qb 9, qb 9, qb 9, qi 120, qi 7200, qi 30, qi 40000, qz, qz, qb 192, qb 168, qb 1, qb 100, qb 192, qb 168, qb 1, qb 101, qb 192, qb 168, qb 1, qb 102, qb 0, qb 0, qb 0, qb 0, qb 0, qb 0, qb 0, qb 0, qb 0, qb 0, qb 0, qb 0, qb 0, qb 0, qb 0, qb 0, qb 0, qb 0, qb 0, qb 0, qb 203, qb 0, qb 113, qb 1, qt true, qi 0, qi 0, qi 0, qi 0, qi 63, qi 6, qb 203, qb 0, qb 113, qb 1, qb 8, qb 8, qb 4, qb 18446744073709551616, ql 38 0 0 0, qo 39 0 20 0, qt true, qi 0, qi 0, qi 0, qi 0, qi 0, qi 0, qb 0, qb 0, qb 0, qb 0, qb 0, qb 0, qb 0, qb 0, qz, qz, qi 0, qi 0, qz, qz, qz, qz, qz, qi 1, qi 0, qu 5, qi 0, qi 32768, qb 0, qb 0, qb 0, qb 0, qb 0, qb 0, qb 0, qb 0, qb 0, qb 0, qb 0, qb 0, qb 0, qb 0, qb 0, qb 0, qb 2, qb 0, qb 0, qb 0, qb 0, qb 2, qo 18 0 4 0, qt false],
  .row 64 false [qa 0 0, qa 12 0],
  .row 5 true [qb 3],
  .row 5 true [qb 203, qb 0, qb 113, qb 1],
  .row 5 true [qb 203, qb 0, qb 113, qb 254],
  .row 5 true [qb 1, qb 3, qb 6],
  .row 193 true [qi 53, qo 14 0 1 0, qi 50, qo 15 0 4 0, qi 54, qo 16 0 4 0, qi 55, qo 17 0 3 0],
  .row 303 false [qi 600, qi (i + 1), qo 24 0 1 0],
  .row 2 true [pw i [(1, qi 1), (3, qi 4), (7, qi 8), (15, qi 16), (31, qi 32), (63, qi 64)] (qi 128), pw i [(1, qi 2), (3, qi 8), (7, qi 16), (15, qi 32), (31, qi 64), (63, qi 128)] (qi 256), pw i [(1, qi 4), (3, qi 16), (7, qi 32), (15, qi 64), (31, qi 128), (63, qi 256)] (qi 512), pw i [(1, qi 8), (3, qi 32), (7, qi 64), (15, qi 128), (31, qi 256), (63, qi 512)] (qi 0), pw i [(1, qi 16), (3, qi 64), (7, qi 128), (15, qi 256), (31, qi 512)] (qi 0), pw i [(1, qi 32), (3, qi 128), (7, qi 256), (15, qi 512)] (qi 0), pw i [(1, qi 64), (3, qi 256), (7, qi 512)] (qi 0), pw i [(1, qi 128), (3, qi 512)] (qi 0), pw i [(1, qi 256)] (qi 0), pw i [(1, qi 512)] (qi 0)],
  .row 408 true [qb 2, qb 1, qb 0, qb 0, qb 0, qb 0, qb 192, qb 168, qb 1, qb 100, qi 3601, qt false, qb 2, qb 1, qb 0, qb 0, qb 0, qb 1, qb 192, qb 168, qb 1, qb 101, qi 3601, qt false, qb 2, qb 1, qb 0, qb 0, qb 0, qb 2, qb 192, qb 168, qb 1, qb 102, qi 3601, qt false],
  .row 68 true [qi 6, qi 40000, qb 192, qb 168, qb 1, qb 101, qi 18446744073709551617, qi 1, qi 7201],
  .row 502 true [qi 40000, qb 8, qb 8, qb 4, qb 18446744073709551616, qi 80, qi 6, qt false],
  .row 301 true [qb 203, qb 0, qb 113, qb 254, qt true, qb 2, qb 2, qb 0, qb 0, qb 0, qb 1, qi 1, qi 0, qz],
  .row 5 false [],
  .row 5 true [qb 156, qb 64, qb 0, qb 80, qb 0, qb 0, qb 0, qb 0, qb 0, qb 0, qb 0, qb 0, qb 80, qb 2, qb 0, qb 0, qb 18446744073709551683, qb 18446744073709551684, qb 0, qb 0],
  .row 29 false [qi 0, qi 0, qi 0, qi 0, qi 63, qi 6, qb 203, qb 0, qb 113, qb 1, qb 8, qb 8, qb 4, qb 18446744073709551616, ql 25 0 0 0, qo 26 0 20 0],
  .row 5 false [],
  .row 5 false [],
  .row 38 false [qi 40000, qi 80, qu 0, qu 0, qi 2, qi 0, qi 0, ql 28 0 0 0, ql 29 0 0 0],
  .row 301 true [qb 192, qb 168, qb 1, qb 101, qt true, qb 2, qb 1, qb 0, qb 0, qb 0, qb 1, qi 1, qi 0, qz],
  .row 5 false [],
  .row 5 true [qb 0, qb 80, qb 18446744073709551619, qb 18446744073709551620, qb 0, qb 0, qb 0, qb 0, qb 0, qb 0, qb 0, qb 0, qb 80, qb 18, qb 0, qb 0, qb 18446744073709551741, qb 18446744073709551742, qb 0, qb 0],
  .row 29 false [qi 0, qi 0, qi 0, qi 0, qi 59, qi 6, qb 8, qb 8, qb 4, qb 18446744073709551616, qb 192, qb 168, qb 1, qb 101, ql 32 0 0 0, qo 33 0 20 0],
  .row 5 false [],
  .row 5 false [],
  .row 38 false [qi 80, qi 18446744073709551617, qu 0, qu 0, qi 18, qi 0, qi 0, ql 35 0 0 0, ql 36 0 0 0],
  .row 5 false [],
  .row 5 true [qb 156, qb 64, qb 0, qb 80, qb 0, qb 0, qb 0, qb 0, qb 0, qb 0, qb 0, qb 0, qb 80, qb 16, qb 0, qb 0, qb 18446744073709551782, qb 18446744073709551783, qb 0, qb 0]]
noncomputable def tF1 (i : Nat) : List Value := [qi 1, qi 18446744077711212544, qi 18446744073709551617, qi 18446744073709551618, qt false, qt false, qt false, qa 13 0, qt false, qa 27 0, qa 34 0, qt true, qi 0, qt true, qi 0, qa 37 0, qt false, qa 30 0, qi (i + 0), pw i [(1, qv)] (qt true), qv]
noncomputable def tG1 (i : Nat) : List Value := [qi 1, qi 18446744077711212544, qi 18446744073709551617, qi 18446744073709551618, qt false, qt false, qt false, qa 13 0, qt false, qa 27 0, qa 34 0, qt true, qi 0, qt true, qi 0, qa 37 0, qt false, qa 30 0, qi (i + 0), qt true, qv]
noncomputable def tX1 (i : Nat) : List Value := [qi 1, qi 18446744077711212544, qi 18446744073709551617, qi 18446744073709551618, qt false, qt false, qt false, qa 13 0, qt false, qa 27 0, qa 34 0, qt true, qi 0, qt true, qi 0, qa 37 0, qt false, qa 30 0, qi (i + 0), qt false, qv]
noncomputable def tP1 : List Value := [qi 1, qi 18446744077711212544, qi 18446744073709551617, qi 18446744073709551618, qt false, qt false, qt false, qa 13 0, qt false, qa 27 0, qa 34 0, qt true, qi 0, qt true, qi 0, qa 37 0, qt false, qa 30 0, qv, qv, qv]
noncomputable def tS1 : List Value := [qi 1, qi 18446744077711212544, qi 18446744073709551617, qi 18446744073709551618, qt false, qt false, qv, qv, qv, qv, qv, qv, qv, qv, qv, qv, qv, qv, qv, qv, qv]
noncomputable def tQ1 : List Value := [qi 1, qi 18446744077711212544, qi 18446744073709551617, qi 18446744073709551618, qt false, qt false, qt false, qa 13 0, qv, qv, qv, qv, qv, qv, qv, qv, qv, qv, qv, qv, qv]
def sl1 : List Nat := [0, 1, 2, 3, 4, 5, 6, 7, 8, 9, 10, 11, 12, 13, 14, 15, 16, 17, 18, 19, 20, 21, 22, 23, 24, 25, 26, 27, 28, 29, 30, 31, 32, 33, 34, 35, 36, 37, 38, 39]
def sa1 : List Nat := [0, 1, 2, 3, 4, 5, 6, 7, 8, 9, 10, 11, 12, 13, 14, 15, 16, 17, 18, 19, 20, 21, 301, 313, 404, 604, 606, 609, 625, 626, 627, 978, 1179, 1181, 1184, 1200, 1201, 1202, 1603, 1605]
noncomputable def TB2 : Tab := mkTab (rowV :: rows2)
noncomputable def TY2' : Ty := tyOf Tryz.prog EQ1 TB2
/-- the program, gatehousetop.up by what it hands back -/
noncomputable def EE2 : Env := (envL Tryz.prog EQ1 TB2 LV0).put 5 (.sum (toldSum (qa 13 0) UpH13))
theorem hEE2 [Val] (h : ∀ w, TB2.has w → RowOk w) : Top Tryz.prog TY2' EE2 := ⟨tyOf_ok _ _ h, eqT_of heq, hfol, (put_ok (envS h).1 (envS h).2 flt up_sum).2⟩
noncomputable def tH2 (i : Nat) : List LB := [.row 107 false [qb 192, qb 168, qb 1, qb 1, qb 192, qb 168, qb 1, qb 0, qi 24, qb 2, qb 0, qb 0, qb 0, qb 0, qb 1, qb 2, qb 0, qb 0, qb 0, qb 0, qb 2, qb 192, qb 168, qb 1, qb 100, qb 192, qb 168, qb 1, qb 131, qi 3600, qb 9, qb 9, qb 9, qb 9, qi 120, qi 7200, qi 30, qi 40000, qz, qz, qi (i + 1), pw i [(1, qu 5)] (qu 3), qa 1 0, qa 19 0, qa 4 0, qa 5 0, qa 6 0, qa 8 0, qa 10 0, qa 11 0, qz],
  .row 303 false [qi 600, qi (i + 1), qo 31 0 1 0],
  .map0,
  .row 405 false [qu 3232235876, qu 3232235907, qz, qo 21 0 3 0, qM 2, qi (i + 1)],
  .row 266 false [qb 192, qb 168, qb 1, qb 1, qb 192, qb 168, qb 1, qb 0, qi 24, qb 2, qb 0, qb 0, qb 0, qb 0, qb 1, qb 2, qb 0, qb 0, qb 0, qb 0, qb 2, qb 192, qb 168, qb 1, qb 100, qb 192, qb 168, qb 1, qb 131, qi 3600, qb 9, qb 9, qb 9, qb 9, qi 120, qi 7200, qi 30, qi 40000, qz, qz, qa 3 0],
  .row 277 false [qb 2, qb 0, qb 0, qb 0, qb 0, qb 2, qi 3, qi (i + 1), qu 5, qb 203, qb 0, qb 113, qb 1, qb 255, qb 255, qb 255, qb 0, qb 203, qb 0, qb 113, qb 254, qb 203, qb 0, qb 113, qb 254, qi 3001, qi 1, qb 203, qb 0, qb 113, qb 1, qb 203, qb 0, qb 113, qb 254, qi 1, qi 4, qi 1],
  .row 336 false [qi 40000, qi 128, qi (i + 1), qo 22 0 1 0],
  .row 455 false [qi 128, qo 23 0 1 0],
  .row 345 false [qa 6 0, qa 7 0, qi 120, qi 7200, qi 30],
  .row 458 false [qi 64, qz],
  .row 291 false [qi 32, qz, qa 9 0],
  .row 350 false [qa 6 0, qi 0, pw i [(1, qo 20 0 10 0), (3, qo 20 0 8 0), (7, qo 20 0 7 0), (15, qo 20 0 6 0), (31, qo 20 0 5 0), (63, qo 20 0 4 0)] (qo 20 0 3 0)],
  .row 60 false [qb 192, qb 168, qb 1, qb 1, qb 192, qb 168, qb 1, qb 0, qi 24, qb 2, qb 0, qb 0, qb 0, qb 0, qb 1, qb 2, qb 0, qb 0, qb 0, qb 0, qb 2, qb 192, qb 168, qb 1, qb 100, qb 192, qb 168, qb 1, qb 131, qi 3600, qb 9, qb 9, qb 9, qb 9, qi 120, qi 7200, qi 30, qi 40000, qz, qz, qb 192, qb 168, qb 1, qb 100, qb 192, qb 168, qb 1, qb 101, qb 192, qb 168, qb 1, qb 102, qb 0, qb 0, qb 0, qb 0, qb 0, qb 0, qb 0, qb 0, qb 0, qb 0, qb 0, qb 0, qb 0, qb 0, qb 0, qb 0, qb 0, qb 0, qb 0, qb 0, qb 203, qb 0, qb 113, qb 1, qt true, qi 0, qi 0, qi 0, qi 0, qi 63, qi 6, qb 203, qb 0, qb 113, qb 1, qb 8, qb 8, qb 4, qb 18446744073709551616, ql 38 0 0 0, qo 39 0 20 0, qt true, qi 0, qi 0, qi 0, qi 0, qi 0, qi 0, qb 0, qb 0, qb 0, qb 0, qb 0, qb 0, qb 0, qb 0, qz, qz, qi 0, qi 0, qz, qz, qz, qz, qz, qi 1, qi 0, qu 5, qi 0, qi 32768, qb 0, qb 0, qb 0, qb 0, qb 0, qb 0, qb 0, qb 0, qb 0, qb 0, qb 0, qb 0, qb 0, qb 0, qb 0, qb 0, qb 2, qb 0, qb 0, qb 0, qb 0, qb 2, qo 18 0 4 0, qt false],
  .row 64 false [qa 0 0, qa 12 0],
  .row 5 true [qb 3],
  .row 5 true [qb 203, qb 0, qb 113, qb 1],
  .row 5 true [qb 203, qb 0, qb 113, qb 254],
  .row 5 true [qb 1, qb 3, qb 6],
  .row 193 true [qi 53, qo 14 0 1 0, qi 50, qo 15 0 4 0, qi 54, qo 16 0 4 0, qi 55, qo 17 0 3 0],
  .row 303 false [qi 600, qi (i + 1), qo 24 0 1 0],
  .row 2 true [pw i [(1, qi 1), (3, qi 4), (7, qi 8), (15, qi 16), (31, qi 32), (63, qi 64)] (qi 128), pw i [(1, qi 2), (3, qi 8), (7, qi 16), (15, qi 32), (31, qi 64), (63, qi 128)] (qi 256), pw i [(1, qi 4), (3, qi 16), (7, qi 32), (15, qi 64), (31, qi 128), (63, qi 256)] (qi 512), pw i [(1, qi 8), (3, qi 32), (7, qi 64), (15, qi 128), (31, qi 256), (63, qi 512)] (qi 0), pw i [(1, qi 16), (3, qi 64), (7, qi 128), (15, qi 256), (31, qi 512)] (qi 0), pw i [(1, qi 32), (3, qi 128), (7, qi 256), (15, qi 512)] (qi 0), pw i [(1, qi 64), (3, qi 256), (7, qi 512)] (qi 0), pw i [(1, qi 128), (3, qi 512)] (qi 0), pw i [(1, qi 256)] (qi 0), pw i [(1, qi 512)] (qi 0)],
  .row 408 true [qb 2, qb 1, qb 0, qb 0, qb 0, qb 0, qb 192, qb 168, qb 1, qb 100, qi 3601, qt false, qb 2, qb 1, qb 0, qb 0, qb 0, qb 1, qb 192, qb 168, qb 1, qb 101, qi 3601, qt false, qb 2, qb 1, qb 0, qb 0, qb 0, qb 2, qb 192, qb 168, qb 1, qb 102, qi 3601, qt false],
  .row 68 true [qi 6, qi 40000, qb 192, qb 168, qb 1, qb 102, qi 18446744073709551617, qi 1, qi 7201],
  .row 502 true [qi 40000, qb 8, qb 8, qb 4, qb 18446744073709551616, qi 80, qi 6, qt false],
  .row 301 true [qb 203, qb 0, qb 113, qb 254, qt true, qb 2, qb 2, qb 0, qb 0, qb 0, qb 1, qi 1, qi 0, qz],
  .row 5 false [],
  .row 5 true [qb 156, qb 64, qb 0, qb 80, qb 0, qb 0, qb 0, qb 0, qb 0, qb 0, qb 0, qb 0, qb 80, qb 2, qb 0, qb 0, qb 18446744073709551683, qb 18446744073709551684, qb 0, qb 0],
  .row 29 false [qi 0, qi 0, qi 0, qi 0, qi 63, qi 6, qb 203, qb 0, qb 113, qb 1, qb 8, qb 8, qb 4, qb 18446744073709551616, ql 25 0 0 0, qo 26 0 20 0],
  .row 5 false [],
  .row 5 false [],
  .row 38 false [qi 40000, qi 80, qu 0, qu 0, qi 2, qi 0, qi 0, ql 28 0 0 0, ql 29 0 0 0],
  .row 301 true [qb 192, qb 168, qb 1, qb 102, qt true, qb 2, qb 1, qb 0, qb 0, qb 0, qb 2, qi 1, qi 0, qz],
  .row 5 false [],
  .row 5 true [qb 0, qb 80, qb 18446744073709551619, qb 18446744073709551620, qb 0, qb 0, qb 0, qb 0, qb 0, qb 0, qb 0, qb 0, qb 80, qb 18, qb 0, qb 0, qb 18446744073709551741, qb 18446744073709551742, qb 0, qb 0],
  .row 29 false [qi 0, qi 0, qi 0, qi 0, qi 59, qi 6, qb 8, qb 8, qb 4, qb 18446744073709551616, qb 192, qb 168, qb 1, qb 102, ql 32 0 0 0, qo 33 0 20 0],
  .row 5 false [],
  .row 5 false [],
  .row 38 false [qi 80, qi 18446744073709551617, qu 0, qu 0, qi 18, qi 0, qi 0, ql 35 0 0 0, ql 36 0 0 0],
  .row 5 false [],
  .row 5 true [qb 156, qb 64, qb 0, qb 80, qb 0, qb 0, qb 0, qb 0, qb 0, qb 0, qb 0, qb 0, qb 80, qb 16, qb 0, qb 0, qb 18446744073709551782, qb 18446744073709551783, qb 0, qb 0]]
noncomputable def tF2 (i : Nat) : List Value := [qi 2, qi 18446744077711212544, qi 18446744073709551617, qi 18446744073709551618, qt false, qt false, qt false, qa 13 0, qt false, qa 27 0, qa 34 0, qt true, qi 0, qt true, qi 0, qa 37 0, qt false, qa 30 0, qi (i + 0), pw i [(1, qv)] (qt true), qv]
noncomputable def tG2 (i : Nat) : List Value := [qi 2, qi 18446744077711212544, qi 18446744073709551617, qi 18446744073709551618, qt false, qt false, qt false, qa 13 0, qt false, qa 27 0, qa 34 0, qt true, qi 0, qt true, qi 0, qa 37 0, qt false, qa 30 0, qi (i + 0), qt true, qv]
noncomputable def tX2 (i : Nat) : List Value := [qi 2, qi 18446744077711212544, qi 18446744073709551617, qi 18446744073709551618, qt false, qt false, qt false, qa 13 0, qt false, qa 27 0, qa 34 0, qt true, qi 0, qt true, qi 0, qa 37 0, qt false, qa 30 0, qi (i + 0), qt false, qv]
noncomputable def tP2 : List Value := [qi 2, qi 18446744077711212544, qi 18446744073709551617, qi 18446744073709551618, qt false, qt false, qt false, qa 13 0, qt false, qa 27 0, qa 34 0, qt true, qi 0, qt true, qi 0, qa 37 0, qt false, qa 30 0, qv, qv, qv]
noncomputable def tS2 : List Value := [qi 2, qi 18446744077711212544, qi 18446744073709551617, qi 18446744073709551618, qt false, qt false, qv, qv, qv, qv, qv, qv, qv, qv, qv, qv, qv, qv, qv, qv, qv]
noncomputable def tQ2 : List Value := [qi 2, qi 18446744077711212544, qi 18446744073709551617, qi 18446744073709551618, qt false, qt false, qt false, qa 13 0, qv, qv, qv, qv, qv, qv, qv, qv, qv, qv, qv, qv, qv]
def sl2 : List Nat := [0, 1, 2, 3, 4, 5, 6, 7, 8, 9, 10, 11, 12, 13, 14, 15, 16, 17, 18, 19, 20, 21, 22, 23, 24, 25, 26, 27, 28, 29, 30, 31, 32, 33, 34, 35, 36, 37, 38, 39]
def sa2 : List Nat := [0, 1, 2, 3, 4, 5, 6, 7, 8, 9, 10, 11, 12, 13, 14, 15, 16, 17, 18, 19, 20, 21, 302, 314, 405, 605, 607, 610, 626, 627, 628, 980, 1181, 1183, 1186, 1202, 1203, 1204, 1606, 1608]
noncomputable def TB3 : Tab := mkTab (rowV :: rows3)
noncomputable def TY3' : Ty := tyOf Tryz.prog EQ1 TB3
/-- the program, gatehousetop.up by what it hands back -/
noncomputable def EE3 : Env := (envL Tryz.prog EQ1 TB3 LV0).put 5 (.sum (toldSum (qa 13 0) UpH13))
theorem hEE3 [Val] (h : ∀ w, TB3.has w → RowOk w) : Top Tryz.prog TY3' EE3 := ⟨tyOf_ok _ _ h, eqT_of heq, hfol, (put_ok (envS h).1 (envS h).2 flt up_sum).2⟩
noncomputable def tH3 (i : Nat) : List LB := [.row 107 false [qb 192, qb 168, qb 1, qb 1, qb 192, qb 168, qb 1, qb 0, qi 24, qb 2, qb 0, qb 0, qb 0, qb 0, qb 1, qb 2, qb 0, qb 0, qb 0, qb 0, qb 2, qb 192, qb 168, qb 1, qb 100, qb 192, qb 168, qb 1, qb 131, qi 3600, qb 9, qb 9, qb 9, qb 9, qi 120, qi 7200, qi 30, qi 40000, qz, qz, qi (i + 1), pw i [(1, qu 5)] (qu 3), qa 1 0, qa 19 0, qa 4 0, qa 5 0, qa 6 0, qa 8 0, qa 10 0, qa 11 0, qz],
  .row 303 false [qi 600, qi (i + 1), qo 31 0 1 0],
  .map0,
  .row 405 false [qu 3232235876, qu 3232235907, qz, qo 21 0 3 0, qM 2, qi (i + 1)],
  .row 266 false [qb 192, qb 168, qb 1, qb 1, qb 192, qb 168, qb 1, qb 0, qi 24, qb 2, qb 0, qb 0, qb 0, qb 0, qb 1, qb 2, qb 0, qb 0, qb 0, qb 0, qb 2, qb 192, qb 168, qb 1, qb 100, qb 192, qb 168, qb 1, qb 131, qi 3600, qb 9, qb 9, qb 9, qb 9, qi 120, qi 7200, qi 30, qi 40000, qz, qz, qa 3 0],
  .row 277 false [qb 2, qb 0, qb 0, qb 0, qb 0, qb 2, qi 3, qi (i + 1), qu 5, qb 203, qb 0, qb 113, qb 1, qb 255, qb 255, qb 255, qb 0, qb 203, qb 0, qb 113, qb 254, qb 203, qb 0, qb 113, qb 254, qi 3001, qi 1, qb 203, qb 0, qb 113, qb 1, qb 203, qb 0, qb 113, qb 254, qi 1, qi 4, qi 1],
  .row 336 false [qi 40000, qi 128, qi (i + 1), qo 22 0 1 0],
  .row 455 false [qi 128, qo 23 0 1 0],
  .row 345 false [qa 6 0, qa 7 0, qi 120, qi 7200, qi 30],
  .row 458 false [qi 64, qz],
  .row 291 false [qi 32, qz, qa 9 0],
  .row 350 false [qa 6 0, qi 0, pw i [(1, qo 20 0 10 0), (3, qo 20 0 8 0), (7, qo 20 0 7 0), (15, qo 20 0 6 0), (31, qo 20 0 5 0), (63, qo 20 0 4 0)] (qo 20 0 3 0)],
  .row 60 false [qb 192, qb 168, qb 1, qb 1, qb 192, qb 168, qb 1, qb 0, qi 24, qb 2, qb 0, qb 0, qb 0, qb 0, qb 1, qb 2, qb 0, qb 0, qb 0, qb 0, qb 2, qb 192, qb 168, qb 1, qb 100, qb 192, qb 168, qb 1, qb 131, qi 3600, qb 9, qb 9, qb 9, qb 9, qi 120, qi 7200, qi 30, qi 40000, qz, qz, qb 192, qb 168, qb 1, qb 100, qb 192, qb 168, qb 1, qb 101, qb 192, qb 168, qb 1, qb 102, qb 0, qb 0, qb 0, qb 0, qb 0, qb 0, qb 0, qb 0, qb 0, qb 0, qb 0, qb 0, qb 0, qb 0, qb 0, qb 0, qb 0, qb 0, qb 0, qb 0, qb 203, qb 0, qb 113, qb 1, qt true, qi 0, qi 0, qi 0, qi 0, qi 63, qi 6, qb 203, qb 0, qb 113, qb 1, qb 8, qb 8, qb 4, qb 18446744073709551616, ql 38 0 0 0, qo 39 0 20 0, qt true, qi 0, qi 0, qi 0, qi 0, qi 0, qi 0, qb 0, qb 0, qb 0, qb 0, qb 0, qb 0, qb 0, qb 0, qz, qz, qi 0, qi 0, qz, qz, qz, qz, qz, qi 1, qi 0, qu 5, qi 0, qi 32768, qb 0, qb 0, qb 0, qb 0, qb 0, qb 0, qb 0, qb 0, qb 0, qb 0, qb 0, qb 0, qb 0, qb 0, qb 0, qb 0, qb 2, qb 0, qb 0, qb 0, qb 0, qb 2, qo 18 0 4 0, qt false],
  .row 64 false [qa 0 0, qa 12 0],
  .row 5 true [qb 3],
  .row 5 true [qb 203, qb 0, qb 113, qb 1],
  .row 5 true [qb 203, qb 0, qb 113, qb 254],
  .row 5 true [qb 1, qb 3, qb 6],
  .row 193 true [qi 53, qo 14 0 1 0, qi 50, qo 15 0 4 0, qi 54, qo 16 0 4 0, qi 55, qo 17 0 3 0],
  .row 303 false [qi 600, qi (i + 1), qo 24 0 1 0],
  .row 2 true [pw i [(1, qi 1), (3, qi 4), (7, qi 8), (15, qi 16), (31, qi 32), (63, qi 64)] (qi 128), pw i [(1, qi 2), (3, qi 8), (7, qi 16), (15, qi 32), (31, qi 64), (63, qi 128)] (qi 256), pw i [(1, qi 4), (3, qi 16), (7, qi 32), (15, qi 64), (31, qi 128), (63, qi 256)] (qi 512), pw i [(1, qi 8), (3, qi 32), (7, qi 64), (15, qi 128), (31, qi 256), (63, qi 512)] (qi 0), pw i [(1, qi 16), (3, qi 64), (7, qi 128), (15, qi 256), (31, qi 512)] (qi 0), pw i [(1, qi 32), (3, qi 128), (7, qi 256), (15, qi 512)] (qi 0), pw i [(1, qi 64), (3, qi 256), (7, qi 512)] (qi 0), pw i [(1, qi 128), (3, qi 512)] (qi 0), pw i [(1, qi 256)] (qi 0), pw i [(1, qi 512)] (qi 0)],
  .row 408 true [qb 2, qb 1, qb 0, qb 0, qb 0, qb 0, qb 192, qb 168, qb 1, qb 100, qi 3601, qt false, qb 2, qb 1, qb 0, qb 0, qb 0, qb 1, qb 192, qb 168, qb 1, qb 101, qi 3601, qt false, qb 2, qb 1, qb 0, qb 0, qb 0, qb 2, qb 192, qb 168, qb 1, qb 102, qi 3601, qt false],
  .row 68 true [qi 6, qi 18446744073709551617, qb 192, qb 168, qb 1, qb 100, qi 18446744073709551617, qi 1, qi 7201],
  .row 502 true [qi 18446744073709551617, qb 8, qb 8, qb 4, qb 18446744073709551616, qi 80, qi 6, qt false],
  .row 301 true [qb 203, qb 0, qb 113, qb 254, qt true, qb 2, qb 2, qb 0, qb 0, qb 0, qb 1, qi 1, qi 0, qz],
  .row 5 false [],
  .row 5 true [qb 18446744073709551619, qb 18446744073709551620, qb 0, qb 80, qb 0, qb 0, qb 0, qb 0, qb 0, qb 0, qb 0, qb 0, qb 80, qb 2, qb 0, qb 0, qb 18446744073709551686, qb 18446744073709551687, qb 0, qb 0],
  .row 29 false [qi 0, qi 0, qi 0, qi 0, qi 63, qi 6, qb 203, qb 0, qb 113, qb 1, qb 8, qb 8, qb 4, qb 18446744073709551616, ql 25 0 0 0, qo 26 0 20 0],
  .row 5 false [],
  .row 5 false [],
  .row 38 false [qi 18446744073709551617, qi 80, qu 0, qu 0, qi 2, qi 0, qi 0, ql 28 0 0 0, ql 29 0 0 0],
  .row 301 true [qb 192, qb 168, qb 1, qb 100, qt true, qb 2, qb 1, qb 0, qb 0, qb 0, qb 0, qi 1, qi 0, qz],
  .row 5 false [],
  .row 5 true [qb 0, qb 80, qb 18446744073709551619, qb 18446744073709551620, qb 0, qb 0, qb 0, qb 0, qb 0, qb 0, qb 0, qb 0, qb 80, qb 18, qb 0, qb 0, qb 18446744073709551747, qb 18446744073709551748, qb 0, qb 0],
  .row 29 false [qi 0, qi 0, qi 0, qi 0, qi 59, qi 6, qb 8, qb 8, qb 4, qb 18446744073709551616, qb 192, qb 168, qb 1, qb 100, ql 32 0 0 0, qo 33 0 20 0],
  .row 5 false [],
  .row 5 false [],
  .row 38 false [qi 80, qi 18446744073709551617, qu 0, qu 0, qi 18, qi 0, qi 0, ql 35 0 0 0, ql 36 0 0 0],
  .row 5 false [],
  .row 5 true [qb 18446744073709551619, qb 18446744073709551620, qb 0, qb 80, qb 0, qb 0, qb 0, qb 0, qb 0, qb 0, qb 0, qb 0, qb 80, qb 16, qb 0, qb 0, qb 18446744073709551789, qb 18446744073709551790, qb 0, qb 0]]
noncomputable def tF3 (i : Nat) : List Value := [qi 0, qi 18446744077711212544, qi 18446744073709551617, qi 18446744073709551618, qt false, qt false, qt false, qa 13 0, qt false, qa 27 0, qa 34 0, qt true, qi 0, qt true, qi 0, qa 37 0, qt false, qa 30 0, qi (i + 0), pw i [(1, qv)] (qt true), qv]
noncomputable def tG3 (i : Nat) : List Value := [qi 0, qi 18446744077711212544, qi 18446744073709551617, qi 18446744073709551618, qt false, qt false, qt false, qa 13 0, qt false, qa 27 0, qa 34 0, qt true, qi 0, qt true, qi 0, qa 37 0, qt false, qa 30 0, qi (i + 0), qt true, qv]
noncomputable def tX3 (i : Nat) : List Value := [qi 0, qi 18446744077711212544, qi 18446744073709551617, qi 18446744073709551618, qt false, qt false, qt false, qa 13 0, qt false, qa 27 0, qa 34 0, qt true, qi 0, qt true, qi 0, qa 37 0, qt false, qa 30 0, qi (i + 0), qt false, qv]
noncomputable def tP3 : List Value := [qi 0, qi 18446744077711212544, qi 18446744073709551617, qi 18446744073709551618, qt false, qt false, qt false, qa 13 0, qt false, qa 27 0, qa 34 0, qt true, qi 0, qt true, qi 0, qa 37 0, qt false, qa 30 0, qv, qv, qv]
noncomputable def tS3 : List Value := [qi 0, qi 18446744077711212544, qi 18446744073709551617, qi 18446744073709551618, qt false, qt false, qv, qv, qv, qv, qv, qv, qv, qv, qv, qv, qv, qv, qv, qv, qv]
noncomputable def tQ3 : List Value := [qi 0, qi 18446744077711212544, qi 18446744073709551617, qi 18446744073709551618, qt false, qt false, qt false, qa 13 0, qv, qv, qv, qv, qv, qv, qv, qv, qv, qv, qv, qv, qv]
def sl3 : List Nat := [0, 1, 2, 3, 4, 5, 6, 7, 8, 9, 10, 11, 12, 13, 14, 15, 16, 17, 18, 19, 20, 21, 22, 23, 24, 25, 26, 27, 28, 29, 30, 31, 32, 33, 34, 35, 36, 37, 38, 39]
def sa3 : List Nat := [0, 1, 2, 3, 4, 5, 6, 7, 8, 9, 10, 11, 12, 13, 14, 15, 16, 17, 18, 19, 20, 21, 300, 312, 403, 603, 605, 608, 624, 625, 626, 976, 1177, 1179, 1182, 1198, 1199, 1200, 1600, 1602]
noncomputable def TB4 : Tab := mkTab (rowV :: rows4)
noncomputable def TY4' : Ty := tyOf Tryz.prog EQ1 TB4
/-- the program, gatehousetop.up by what it hands back -/
noncomputable def EE4 : Env := (envL Tryz.prog EQ1 TB4 LV0).put 5 (.sum (toldSum (qa 13 0) UpH13))
theorem hEE4 [Val] (h : ∀ w, TB4.has w → RowOk w) : Top Tryz.prog TY4' EE4 := ⟨tyOf_ok _ _ h, eqT_of heq, hfol, (put_ok (envS h).1 (envS h).2 flt up_sum).2⟩
noncomputable def tH4 (i : Nat) : List LB := [.row 107 false [qb 192, qb 168, qb 1, qb 1, qb 192, qb 168, qb 1, qb 0, qi 24, qb 2, qb 0, qb 0, qb 0, qb 0, qb 1, qb 2, qb 0, qb 0, qb 0, qb 0, qb 2, qb 192, qb 168, qb 1, qb 100, qb 192, qb 168, qb 1, qb 131, qi 3600, qb 9, qb 9, qb 9, qb 9, qi 120, qi 7200, qi 30, qi 40000, qz, qz, qi (i + 1), pw i [(1, qu 5)] (qu 3), qa 1 0, qa 19 0, qa 4 0, qa 5 0, qa 6 0, qa 8 0, qa 10 0, qa 11 0, qz],
  .row 303 false [qi 600, qi (i + 1), qo 31 0 1 0],
  .map0,
  .row 405 false [qu 3232235876, qu 3232235907, qz, qo 21 0 3 0, qM 2, qi (i + 1)],
  .row 266 false [qb 192, qb 168, qb 1, qb 1, qb 192, qb 168, qb 1, qb 0, qi 24, qb 2, qb 0, qb 0, qb 0, qb 0, qb 1, qb 2, qb 0, qb 0, qb 0, qb 0, qb 2, qb 192, qb 168, qb 1, qb 100, qb 192, qb 168, qb 1, qb 131, qi 3600, qb 9, qb 9, qb 9, qb 9, qi 120, qi 7200, qi 30, qi 40000, qz, qz, qa 3 0],
  .row 277 false [qb 2, qb 0, qb 0, qb 0, qb 0, qb 2, qi 3, qi (i + 1), qu 5, qb 203, qb 0, qb 113, qb 1, qb 255, qb 255, qb 255, qb 0, qb 203, qb 0, qb 113, qb 254, qb 203, qb 0, qb 113, qb 254, qi 3001, qi 1, qb 203, qb 0, qb 113, qb 1, qb 203, qb 0, qb 113, qb 254, qi 1, qi 4, qi 1],
  .row 336 false [qi 40000, qi 128, qi (i + 1), qo 22 0 1 0],
  .row 455 false [qi 128, qo 23 0 1 0],
  .row 345 false [qa 6 0, qa 7 0, qi 120, qi 7200, qi 30],
  .row 458 false [qi 64, qz],
  .row 291 false [qi 32, qz, qa 9 0],
  .row 350 false [qa 6 0, qi 0, pw i [(1, qo 20 0 10 0), (3, qo 20 0 8 0), (7, qo 20 0 7 0), (15, qo 20 0 6 0), (31, qo 20 0 5 0), (63, qo 20 0 4 0)] (qo 20 0 3 0)],
  .row 60 false [qb 192, qb 168, qb 1, qb 1, qb 192, qb 168, qb 1, qb 0, qi 24, qb 2, qb 0, qb 0, qb 0, qb 0, qb 1, qb 2, qb 0, qb 0, qb 0, qb 0, qb 2, qb 192, qb 168, qb 1, qb 100, qb 192, qb 168, qb 1, qb 131, qi 3600, qb 9, qb 9, qb 9, qb 9, qi 120, qi 7200, qi 30, qi 40000, qz, qz, qb 192, qb 168, qb 1, qb 100, qb 192, qb 168, qb 1, qb 101, qb 192, qb 168, qb 1, qb 102, qb 0, qb 0, qb 0, qb 0, qb 0, qb 0, qb 0, qb 0, qb 0, qb 0, qb 0, qb 0, qb 0, qb 0, qb 0, qb 0, qb 0, qb 0, qb 0, qb 0, qb 203, qb 0, qb 113, qb 1, qt true, qi 0, qi 0, qi 0, qi 0, qi 63, qi 6, qb 203, qb 0, qb 113, qb 1, qb 8, qb 8, qb 4, qb 18446744073709551616, ql 38 0 0 0, qo 39 0 20 0, qt true, qi 0, qi 0, qi 0, qi 0, qi 0, qi 0, qb 0, qb 0, qb 0, qb 0, qb 0, qb 0, qb 0, qb 0, qz, qz, qi 0, qi 0, qz, qz, qz, qz, qz, qi 1, qi 0, qu 5, qi 0, qi 32768, qb 0, qb 0, qb 0, qb 0, qb 0, qb 0, qb 0, qb 0, qb 0, qb 0, qb 0, qb 0, qb 0, qb 0, qb 0, qb 0, qb 2, qb 0, qb 0, qb 0, qb 0, qb 2, qo 18 0 4 0, qt false],
  .row 64 false [qa 0 0, qa 12 0],
  .row 5 true [qb 3],
  .row 5 true [qb 203, qb 0, qb 113, qb 1],
  .row 5 true [qb 203, qb 0, qb 113, qb 254],
  .row 5 true [qb 1, qb 3, qb 6],
  .row 193 true [qi 53, qo 14 0 1 0, qi 50, qo 15 0 4 0, qi 54, qo 16 0 4 0, qi 55, qo 17 0 3 0],
  .row 303 false [qi 600, qi (i + 1), qo 24 0 1 0],
  .row 2 true [pw i [(1, qi 1), (3, qi 4), (7, qi 8), (15, qi 16), (31, qi 32), (63, qi 64)] (qi 128), pw i [(1, qi 2), (3, qi 8), (7, qi 16), (15, qi 32), (31, qi 64), (63, qi 128)] (qi 256), pw i [(1, qi 4), (3, qi 16), (7, qi 32), (15, qi 64), (31, qi 128), (63, qi 256)] (qi 512), pw i [(1, qi 8), (3, qi 32), (7, qi 64), (15, qi 128), (31, qi 256), (63, qi 512)] (qi 0), pw i [(1, qi 16), (3, qi 64), (7, qi 128), (15, qi 256), (31, qi 512)] (qi 0), pw i [(1, qi 32), (3, qi 128), (7, qi 256), (15, qi 512)] (qi 0), pw i [(1, qi 64), (3, qi 256), (7, qi 512)] (qi 0), pw i [(1, qi 128), (3, qi 512)] (qi 0), pw i [(1, qi 256)] (qi 0), pw i [(1, qi 512)] (qi 0)],
  .row 408 true [qb 2, qb 1, qb 0, qb 0, qb 0, qb 0, qb 192, qb 168, qb 1, qb 100, qi 3601, qt false, qb 2, qb 1, qb 0, qb 0, qb 0, qb 1, qb 192, qb 168, qb 1, qb 101, qi 3601, qt false, qb 2, qb 1, qb 0, qb 0, qb 0, qb 2, qb 192, qb 168, qb 1, qb 102, qi 3601, qt false],
  .row 68 true [qi 6, qi 18446744073709551617, qb 192, qb 168, qb 1, qb 101, qi 18446744073709551617, qi 1, qi 7201],
  .row 502 true [qi 18446744073709551617, qb 8, qb 8, qb 4, qb 18446744073709551616, qi 80, qi 6, qt false],
  .row 301 true [qb 203, qb 0, qb 113, qb 254, qt true, qb 2, qb 2, qb 0, qb 0, qb 0, qb 1, qi 1, qi 0, qz],
  .row 5 false [],
  .row 5 true [qb 18446744073709551619, qb 18446744073709551620, qb 0, qb 80, qb 0, qb 0, qb 0, qb 0, qb 0, qb 0, qb 0, qb 0, qb 80, qb 2, qb 0, qb 0, qb 18446744073709551686, qb 18446744073709551687, qb 0, qb 0],
  .row 29 false [qi 0, qi 0, qi 0, qi 0, qi 63, qi 6, qb 203, qb 0, qb 113, qb 1, qb 8, qb 8, qb 4, qb 18446744073709551616, ql 25 0 0 0, qo 26 0 20 0],
  .row 5 false [],
  .row 5 false [],
  .row 38 false [qi 18446744073709551617, qi 80, qu 0, qu 0, qi 2, qi 0, qi 0, ql 28 0 0 0, ql 29 0 0 0],
  .row 301 true [qb 192, qb 168, qb 1, qb 101, qt true, qb 2, qb 1, qb 0, qb 0, qb 0, qb 1, qi 1, qi 0, qz],
  .row 5 false [],
  .row 5 true [qb 0, qb 80, qb 18446744073709551619, qb 18446744073709551620, qb 0, qb 0, qb 0, qb 0, qb 0, qb 0, qb 0, qb 0, qb 80, qb 18, qb 0, qb 0, qb 18446744073709551747, qb 18446744073709551748, qb 0, qb 0],
  .row 29 false [qi 0, qi 0, qi 0, qi 0, qi 59, qi 6, qb 8, qb 8, qb 4, qb 18446744073709551616, qb 192, qb 168, qb 1, qb 101, ql 32 0 0 0, qo 33 0 20 0],
  .row 5 false [],
  .row 5 false [],
  .row 38 false [qi 80, qi 18446744073709551617, qu 0, qu 0, qi 18, qi 0, qi 0, ql 35 0 0 0, ql 36 0 0 0],
  .row 5 false [],
  .row 5 true [qb 18446744073709551619, qb 18446744073709551620, qb 0, qb 80, qb 0, qb 0, qb 0, qb 0, qb 0, qb 0, qb 0, qb 0, qb 80, qb 16, qb 0, qb 0, qb 18446744073709551789, qb 18446744073709551790, qb 0, qb 0]]
noncomputable def tF4 (i : Nat) : List Value := [qi 1, qi 18446744077711212544, qi 18446744073709551617, qi 18446744073709551618, qt false, qt false, qt false, qa 13 0, qt false, qa 27 0, qa 34 0, qt true, qi 0, qt true, qi 0, qa 37 0, qt false, qa 30 0, qi (i + 0), pw i [(1, qv)] (qt true), qv]
noncomputable def tG4 (i : Nat) : List Value := [qi 1, qi 18446744077711212544, qi 18446744073709551617, qi 18446744073709551618, qt false, qt false, qt false, qa 13 0, qt false, qa 27 0, qa 34 0, qt true, qi 0, qt true, qi 0, qa 37 0, qt false, qa 30 0, qi (i + 0), qt true, qv]
noncomputable def tX4 (i : Nat) : List Value := [qi 1, qi 18446744077711212544, qi 18446744073709551617, qi 18446744073709551618, qt false, qt false, qt false, qa 13 0, qt false, qa 27 0, qa 34 0, qt true, qi 0, qt true, qi 0, qa 37 0, qt false, qa 30 0, qi (i + 0), qt false, qv]
noncomputable def tP4 : List Value := [qi 1, qi 18446744077711212544, qi 18446744073709551617, qi 18446744073709551618, qt false, qt false, qt false, qa 13 0, qt false, qa 27 0, qa 34 0, qt true, qi 0, qt true, qi 0, qa 37 0, qt false, qa 30 0, qv, qv, qv]
noncomputable def tS4 : List Value := [qi 1, qi 18446744077711212544, qi 18446744073709551617, qi 18446744073709551618, qt false, qt false, qv, qv, qv, qv, qv, qv, qv, qv, qv, qv, qv, qv, qv, qv, qv]
noncomputable def tQ4 : List Value := [qi 1, qi 18446744077711212544, qi 18446744073709551617, qi 18446744073709551618, qt false, qt false, qt false, qa 13 0, qv, qv, qv, qv, qv, qv, qv, qv, qv, qv, qv, qv, qv]
def sl4 : List Nat := [0, 1, 2, 3, 4, 5, 6, 7, 8, 9, 10, 11, 12, 13, 14, 15, 16, 17, 18, 19, 20, 21, 22, 23, 24, 25, 26, 27, 28, 29, 30, 31, 32, 33, 34, 35, 36, 37, 38, 39]
def sa4 : List Nat := [0, 1, 2, 3, 4, 5, 6, 7, 8, 9, 10, 11, 12, 13, 14, 15, 16, 17, 18, 19, 20, 21, 301, 313, 404, 604, 606, 609, 625, 626, 627, 978, 1179, 1181, 1184, 1200, 1201, 1202, 1603, 1605]
noncomputable def TB5 : Tab := mkTab (rowV :: rows5)
noncomputable def TY5' : Ty := tyOf Tryz.prog EQ1 TB5
/-- the program, gatehousetop.up by what it hands back -/
noncomputable def EE5 : Env := (envL Tryz.prog EQ1 TB5 LV0).put 5 (.sum (toldSum (qa 13 0) UpH13))
theorem hEE5 [Val] (h : ∀ w, TB5.has w → RowOk w) : Top Tryz.prog TY5' EE5 := ⟨tyOf_ok _ _ h, eqT_of heq, hfol, (put_ok (envS h).1 (envS h).2 flt up_sum).2⟩
noncomputable def tH5 (i : Nat) : List LB := [.row 107 false [qb 192, qb 168, qb 1, qb 1, qb 192, qb 168, qb 1, qb 0, qi 24, qb 2, qb 0, qb 0, qb 0, qb 0, qb 1, qb 2, qb 0, qb 0, qb 0, qb 0, qb 2, qb 192, qb 168, qb 1, qb 100, qb 192, qb 168, qb 1, qb 131, qi 3600, qb 9, qb 9, qb 9, qb 9, qi 120, qi 7200, qi 30, qi 40000, qz, qz, qi (i + 1), pw i [(1, qu 5)] (qu 3), qa 1 0, qa 19 0, qa 4 0, qa 5 0, qa 6 0, qa 8 0, qa 10 0, qa 11 0, qz],
  .row 303 false [qi 600, qi (i + 1), qo 31 0 1 0],
  .map0,
  .row 405 false [qu 3232235876, qu 3232235907, qz, qo 21 0 3 0, qM 2, qi (i + 1)],
  .row 266 false [qb 192, qb 168, qb 1, qb 1, qb 192, qb 168, qb 1, qb 0, qi 24, qb 2, qb 0, qb 0, qb 0, qb 0, qb 1, qb 2, qb 0, qb 0, qb 0, qb 0, qb 2, qb 192, qb 168, qb 1, qb 100, qb 192, qb 168, qb 1, qb 131, qi 3600, qb 9, qb 9, qb 9, qb 9, qi 120, qi 7200, qi 30, qi 40000, qz, qz, qa 3 0],
  .row 277 false [qb 2, qb 0, qb 0, qb 0, qb 0, qb 2, qi 3, qi (i + 1), qu 5, qb 203, qb 0, qb 113, qb 1, qb 255, qb 255, qb 255, qb 0, qb 203, qb 0, qb 113, qb 254, qb 203, qb 0, qb 113, qb 254, qi 3001, qi 1, qb 203, qb 0, qb 113, qb 1, qb 203, qb 0, qb 113, qb 254, qi 1, qi 4, qi 1],
  .row 336 false [qi 40000, qi 128, qi (i + 1), qo 22 0 1 0],
  .row 455 false [qi 128, qo 23 0 1 0],
  .row 345 false [qa 6 0, qa 7 0, qi 120, qi 7200, qi 30],
  .row 458 false [qi 64, qz],
  .row 291 false [qi 32, qz, qa 9 0],
  .row 350 false [qa 6 0, qi 0, pw i [(1, qo 20 0 10 0), (3, qo 20 0 8 0), (7, qo 20 0 7 0), (15, qo 20 0 6 0), (31, qo 20 0 5 0), (63, qo 20 0 4 0)] (qo 20 0 3 0)],
  .row 60 false [qb 192, qb 168, qb 1, qb 1, qb 192, qb 168, qb 1, qb 0, qi 24, qb 2, qb 0, qb 0, qb 0, qb 0, qb 1, qb 2, qb 0, qb 0, qb 0, qb 0, qb 2, qb 192, qb 168, qb 1, qb 100, qb 192, qb 168, qb 1, qb 131, qi 3600, qb 9, qb 9, qb 9, qb 9, qi 120, qi 7200, qi 30, qi 40000, qz, qz, qb 192, qb 168, qb 1, qb 100, qb 192, qb 168, qb 1, qb 101, qb 192, qb 168, qb 1, qb 102, qb 0, qb 0, qb 0, qb 0, qb 0, qb 0, qb 0, qb 0, qb 0, qb 0, qb 0, qb 0, qb 0, qb 0, qb 0, qb 0, qb 0, qb 0, qb 0, qb 0, qb 203, qb 0, qb 113, qb 1, qt true, qi 0, qi 0, qi 0, qi 0, qi 63, qi 6, qb 203, qb 0, qb 113, qb 1, qb 8, qb 8, qb 4, qb 18446744073709551616, ql 38 0 0 0, qo 39 0 20 0, qt true, qi 0, qi 0, qi 0, qi 0, qi 0, qi 0, qb 0, qb 0, qb 0, qb 0, qb 0, qb 0, qb 0, qb 0, qz, qz, qi 0, qi 0, qz, qz, qz, qz, qz, qi 1, qi 0, qu 5, qi 0, qi 32768, qb 0, qb 0, qb 0, qb 0, qb 0, qb 0, qb 0, qb 0, qb 0, qb 0, qb 0, qb 0, qb 0, qb 0, qb 0, qb 0, qb 2, qb 0, qb 0, qb 0, qb 0, qb 2, qo 18 0 4 0, qt false],
  .row 64 false [qa 0 0, qa 12 0],
  .row 5 true [qb 3],
  .row 5 true [qb 203, qb 0, qb 113, qb 1],
  .row 5 true [qb 203, qb 0, qb 113, qb 254],
  .row 5 true [qb 1, qb 3, qb 6],
  .row 193 true [qi 53, qo 14 0 1 0, qi 50, qo 15 0 4 0, qi 54, qo 16 0 4 0, qi 55, qo 17 0 3 0],
  .row 303 false [qi 600, qi (i + 1), qo 24 0 1 0],
  .row 2 true [pw i [(1, qi 1), (3, qi 4), (7, qi 8), (15, qi 16), (31, qi 32), (63, qi 64)] (qi 128), pw i [(1, qi 2), (3, qi 8), (7, qi 16), (15, qi 32), (31, qi 64), (63, qi 128)] (qi 256), pw i [(1, qi 4), (3, qi 16), (7, qi 32), (15, qi 64), (31, qi 128), (63, qi 256)] (qi 512), pw i [(1, qi 8), (3, qi 32), (7, qi 64), (15, qi 128), (31, qi 256), (63, qi 512)] (qi 0), pw i [(1, qi 16), (3, qi 64), (7, qi 128), (15, qi 256), (31, qi 512)] (qi 0), pw i [(1, qi 32), (3, qi 128), (7, qi 256), (15, qi 512)] (qi 0), pw i [(1, qi 64), (3, qi 256), (7, qi 512)] (qi 0), pw i [(1, qi 128), (3, qi 512)] (qi 0), pw i [(1, qi 256)] (qi 0), pw i [(1, qi 512)] (qi 0)],
  .row 408 true [qb 2, qb 1, qb 0, qb 0, qb 0, qb 0, qb 192, qb 168, qb 1, qb 100, qi 3601, qt false, qb 2, qb 1, qb 0, qb 0, qb 0, qb 1, qb 192, qb 168, qb 1, qb 101, qi 3601, qt false, qb 2, qb 1, qb 0, qb 0, qb 0, qb 2, qb 192, qb 168, qb 1, qb 102, qi 3601, qt false],
  .row 68 true [qi 6, qi 18446744073709551617, qb 192, qb 168, qb 1, qb 102, qi 18446744073709551617, qi 1, qi 7201],
  .row 502 true [qi 18446744073709551617, qb 8, qb 8, qb 4, qb 18446744073709551616, qi 80, qi 6, qt false],
  .row 301 true [qb 203, qb 0, qb 113, qb 254, qt true, qb 2, qb 2, qb 0, qb 0, qb 0, qb 1, qi 1, qi 0, qz],
  .row 5 false [],
  .row 5 true [qb 18446744073709551619, qb 18446744073709551620, qb 0, qb 80, qb 0, qb 0, qb 0, qb 0, qb 0, qb 0, qb 0, qb 0, qb 80, qb 2, qb 0, qb 0, qb 18446744073709551686, qb 18446744073709551687, qb 0, qb 0],
  .row 29 false [qi 0, qi 0, qi 0, qi 0, qi 63, qi 6, qb 203, qb 0, qb 113, qb 1, qb 8, qb 8, qb 4, qb 18446744073709551616, ql 25 0 0 0, qo 26 0 20 0],
  .row 5 false [],
  .row 5 false [],
  .row 38 false [qi 18446744073709551617, qi 80, qu 0, qu 0, qi 2, qi 0, qi 0, ql 28 0 0 0, ql 29 0 0 0],
  .row 301 true [qb 192, qb 168, qb 1, qb 102, qt true, qb 2, qb 1, qb 0, qb 0, qb 0, qb 2, qi 1, qi 0, qz],
  .row 5 false [],
  .row 5 true [qb 0, qb 80, qb 18446744073709551619, qb 18446744073709551620, qb 0, qb 0, qb 0, qb 0, qb 0, qb 0, qb 0, qb 0, qb 80, qb 18, qb 0, qb 0, qb 18446744073709551747, qb 18446744073709551748, qb 0, qb 0],
  .row 29 false [qi 0, qi 0, qi 0, qi 0, qi 59, qi 6, qb 8, qb 8, qb 4, qb 18446744073709551616, qb 192, qb 168, qb 1, qb 102, ql 32 0 0 0, qo 33 0 20 0],
  .row 5 false [],
  .row 5 false [],
  .row 38 false [qi 80, qi 18446744073709551617, qu 0, qu 0, qi 18, qi 0, qi 0, ql 35 0 0 0, ql 36 0 0 0],
  .row 5 false [],
  .row 5 true [qb 18446744073709551619, qb 18446744073709551620, qb 0, qb 80, qb 0, qb 0, qb 0, qb 0, qb 0, qb 0, qb 0, qb 0, qb 80, qb 16, qb 0, qb 0, qb 18446744073709551789, qb 18446744073709551790, qb 0, qb 0]]
noncomputable def tF5 (i : Nat) : List Value := [qi 2, qi 18446744077711212544, qi 18446744073709551617, qi 18446744073709551618, qt false, qt false, qt false, qa 13 0, qt false, qa 27 0, qa 34 0, qt true, qi 0, qt true, qi 0, qa 37 0, qt false, qa 30 0, qi (i + 0), pw i [(1, qv)] (qt true), qv]
noncomputable def tG5 (i : Nat) : List Value := [qi 2, qi 18446744077711212544, qi 18446744073709551617, qi 18446744073709551618, qt false, qt false, qt false, qa 13 0, qt false, qa 27 0, qa 34 0, qt true, qi 0, qt true, qi 0, qa 37 0, qt false, qa 30 0, qi (i + 0), qt true, qv]
noncomputable def tX5 (i : Nat) : List Value := [qi 2, qi 18446744077711212544, qi 18446744073709551617, qi 18446744073709551618, qt false, qt false, qt false, qa 13 0, qt false, qa 27 0, qa 34 0, qt true, qi 0, qt true, qi 0, qa 37 0, qt false, qa 30 0, qi (i + 0), qt false, qv]
noncomputable def tP5 : List Value := [qi 2, qi 18446744077711212544, qi 18446744073709551617, qi 18446744073709551618, qt false, qt false, qt false, qa 13 0, qt false, qa 27 0, qa 34 0, qt true, qi 0, qt true, qi 0, qa 37 0, qt false, qa 30 0, qv, qv, qv]
noncomputable def tS5 : List Value := [qi 2, qi 18446744077711212544, qi 18446744073709551617, qi 18446744073709551618, qt false, qt false, qv, qv, qv, qv, qv, qv, qv, qv, qv, qv, qv, qv, qv, qv, qv]
noncomputable def tQ5 : List Value := [qi 2, qi 18446744077711212544, qi 18446744073709551617, qi 18446744073709551618, qt false, qt false, qt false, qa 13 0, qv, qv, qv, qv, qv, qv, qv, qv, qv, qv, qv, qv, qv]
def sl5 : List Nat := [0, 1, 2, 3, 4, 5, 6, 7, 8, 9, 10, 11, 12, 13, 14, 15, 16, 17, 18, 19, 20, 21, 22, 23, 24, 25, 26, 27, 28, 29, 30, 31, 32, 33, 34, 35, 36, 37, 38, 39]
def sa5 : List Nat := [0, 1, 2, 3, 4, 5, 6, 7, 8, 9, 10, 11, 12, 13, 14, 15, 16, 17, 18, 19, 20, 21, 302, 314, 405, 605, 607, 610, 626, 627, 628, 980, 1181, 1183, 1186, 1202, 1203, 1204, 1606, 1608]
end Go.Proofs.YtccbdaffjkdpgaaGreatDoor.Vw
