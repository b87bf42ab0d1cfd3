/-
  gatehousetop.TopFull: the told states of its loop, so many mappings being there.
-/
import Derived.Test.YthgpfnbajjmcdaaGreatDoorTu5
namespace Go.Proofs.YthgpfnbajjmcdaaGreatDoor.Vw
open LB
/-- the program, gatehousetop.up by what it hands back -/
noncomputable def E2 : Env := E1.put 5 (.sum (toldSum (qa 13 0) UpH13))
theorem up_sum : CallAt Tryz.prog 5 (toldSum (qa 13 0) UpH13) := sum_told ⟨upF, up_f, hname _ _ up_f, by rw [up_b]; rfl⟩ (by decide +kernel) rfl up_calls
theorem hE2 : Top Tryz.prog TY1 E2 := ⟨tyOf_ok _ _ (fun w hw => by cases hw), eqT_of heq, hfol, (put_ok hE1s.1 hE1s.2 (flt _ rfl) up_sum).2⟩
noncomputable def fuF : Func := Tryz.prog.funcs[(3 : Nat)]!
noncomputable def fuB : Code := fuF.body.getD .skip
def fuLive : List Nat := [0, 2, 14, 20, 3, 23, 4, 25, 7, 5, 11, 6, 8, 10, 9, 99, 12, 101, 112]
/-- the mappings from the j-th on -/
noncomputable def tfM (n k : Nat) : Nat → List Value := Nat.rec (fun _ => []) (fun _ ih j => forceN (Nat.succ j) fun j' => qi 17 :: qi (2000 + j) :: qb 192 :: qb 168 :: qb 1 :: qb (100 + n) :: qi (100 + j) :: qi 2 :: qi 5001 :: ih j') k
noncomputable def tfH (n i : Nat) : List LB := [.row 100 false [qb 192, qb 168, qb 1, qb 1, qb 192, qb 168, qb 1, qb 0, qi 24, qb 2, qb 0, qb 0, qb 0, qb 0, qb 1, qb 2, qb 0, qb 0, qb 0, qb 0, qb 2, qb 192, qb 168, qb 1, qb 100, qb 192, qb 168, qb 1, qb 131, qi 3600, qb 9, qb 9, qb 9, qb 9, qi 120, qi 7200, qi 30, qi 40000, qz, qz, qi 1, qu 5, qa 1 0, qa 19 0, qa 4 0, qa 5 0, qa 6 0, qa 8 0, qa 10 0, qa 11 0, qz],
  .row 297 false [qi 600, qi 1, qo 22 0 1 0],
  .map0,
  .row 404 false [qu 3232235876, qu 3232235907, qz, qo 21 0 3 0, qM 2, qi 1],
  .row 260 false [qb 192, qb 168, qb 1, qb 1, qb 192, qb 168, qb 1, qb 0, qi 24, qb 2, qb 0, qb 0, qb 0, qb 0, qb 1, qb 2, qb 0, qb 0, qb 0, qb 0, qb 2, qb 192, qb 168, qb 1, qb 100, qb 192, qb 168, qb 1, qb 131, qi 3600, qb 9, qb 9, qb 9, qb 9, qi 120, qi 7200, qi 30, qi 40000, qz, qz, qa 3 0],
  .row 271 false [qb 2, qb 0, qb 0, qb 0, qb 0, qb 2, qi 3, qi 1, qu 5, qb 203, qb 0, qb 113, qb 1, qb 255, qb 255, qb 255, qb 0, qb 203, qb 0, qb 113, qb 254, qb 203, qb 0, qb 113, qb 254, qi 3001, qi 1, qb 203, qb 0, qb 113, qb 1, qb 203, qb 0, qb 113, qb 254, qi 1, qi 4, qi 1],
  .row 330 false [qi 40000, qi 128, qi 1, qo 23 0 i 0],
  .row 454 false [qi 128, qz],
  .row 339 false [qa 6 0, qa 7 0, qi 120, qi 7200, qi 30],
  .row 457 false [qi 64, qz],
  .row 285 false [qi 32, qz, qa 9 0],
  .row 344 false [qa 6 0, qi 0, qo 20 0 10 0],
  .row 80 false [qb 192, qb 168, qb 1, qb 1, qb 192, qb 168, qb 1, qb 0, qi 24, qb 2, qb 0, qb 0, qb 0, qb 0, qb 1, qb 2, qb 0, qb 0, qb 0, qb 0, qb 2, qb 192, qb 168, qb 1, qb 100, qb 192, qb 168, qb 1, qb 131, qi 3600, qb 9, qb 9, qb 9, qb 9, qi 120, qi 7200, qi 30, qi 40000, qz, qz, qb 192, qb 168, qb 1, qb 100, qb 192, qb 168, qb 1, qb 101, qb 192, qb 168, qb 1, qb 102, qb 0, qb 0, qb 0, qb 0, qb 0, qb 0, qb 0, qb 0, qb 0, qb 0, qb 0, qb 0, qb 0, qb 0, qb 0, qb 0, qb 0, qb 0, qb 0, qb 0, qb 203, qb 0, qb 113, qb 1, qt true, qi 0, qi 0, qi 0, qi 0, qi 0, qi 0, qb 0, qb 0, qb 0, qb 0, qb 0, qb 0, qb 0, qb 0, qz, qz, qt false, qi 0, qi 0, qi 0, qi 0, qi 0, qi 0, qb 0, qb 0, qb 0, qb 0, qb 0, qb 0, qb 0, qb 0, qz, qz, qi 0, qi 0, qz, qz, qz, qz, qz, qi 1, qi 0, qu 5, qi 0, qi 32768, qb 0, qb 0, qb 0, qb 0, qb 0, qb 0, qb 0, qb 0, qb 0, qb 0, qb 0, qb 0, qb 0, qb 0, qb 0, qb 0, qb 2, qb 0, qb 0, qb 0, qb 0, qb 2, qo 18 0 4 0, qt false],
  .row 35 false [qa 0 0, qa 12 0],
  .row 5 true [qb 3],
  .row 5 true [qb 203, qb 0, qb 113, qb 1],
  .row 5 true [qb 203, qb 0, qb 113, qb 254],
  .row 5 true [qb 1, qb 3, qb 6],
  .row 183 true [qi 53, qo 14 0 1 0, qi 50, qo 15 0 4 0, qi 54, qo 16 0 4 0, qi 55, qo 17 0 3 0],
  .row 297 false [qi 600, qi 0, qz],
  .row 2 true [qi 1, qi 2, qi 4, qi 8, qi 16, qi 32, qi 64, qi 128, qi 256, qi 512],
  .row 407 true [qb 2, qb 1, qb 0, qb 0, qb 0, qb 0, qb 192, qb 168, qb 1, qb 100, qi 3601, qt false, qb 2, qb 1, qb 0, qb 0, qb 0, qb 1, qb 192, qb 168, qb 1, qb 101, qi 3601, qt false, qb 2, qb 1, qb 0, qb 0, qb 0, qb 2, qb 192, qb 168, qb 1, qb 102, qi 3601, qt false],
  .row 295 true [qb 192, qb 168, qb 1, qb (100 + n), qt true, qb 2, qb 1, qb 0, qb 0, qb 0, qb (0 + n), qi 1, qi 0, qz],
  .row 49 true (tfM n i 0)]
noncomputable def tfF (n i : Nat) : List Value := [qi n, qt false, qt false, qt false, qa 13 0, qt false, qi i, qt true, qv, qv, qv, qv, qv, qv, qv, qv, qv, qv, qv]
/-- ahead of the loop -/
noncomputable def tfF0 (n : Nat) : List Value := [qi n, qt false, qt false, qt false, qa 13 0, qt false, qi 0, qv, qv, qv, qv, qv, qv, qv, qv, qv, qv, qv, qv]
abbrev fp (c : Code) (e : En) (f : List Value) (h : List LB) (s : List Nat) (f' : List Value) (h' : List LB) : Prop := pieceB (callR E2 1000) (ccode TY1 fuLive 113 c) e f h s f' h' = true
/-- the loop and what is behind it -/
noncomputable def fuL : Code := cr (cr (cr (cr (cr fuB))))
noncomputable def fuR : Code := cb (cb (cr (cl fuL)))
abbrev fr (m : Nat) (f : List Value) (h : List LB) (s : List Nat) (f' : List Value) (h' : List LB) : Prop := roundsB (callR E2 1000) (ccode TY1 fuLive 113 fuR) m f h s f' h' = true
noncomputable def tg0F0 : List Value := [qi 0, qt false, qt false, qv, qv, qv, qv, qv, qv, qv, qv, qv, qv, qv, qv, qv, qv, qv, qv]
noncomputable def tg0F1 : List Value := [qi 0, qt false, qt false, qt false, qv, qv, qv, qv, qv, qv, qv, qv, qv, qv, qv, qv, qv, qv, qv]
noncomputable def tg0F2 : List Value := [qi 0, qt false, qt false, qt false, qa 13 0, qv, qv, qv, qv, qv, qv, qv, qv, qv, qv, qv, qv, qv, qv]
noncomputable def tg0F3 : List Value := [qi 0, qt false, qt false, qt false, qa 13 0, qt false, qv, qv, qv, qv, qv, qv, qv, qv, qv, qv, qv, qv, qv]
noncomputable def tg0FX : List Value := [qi 0, qt false, qt false, qt false, qa 13 0, qt false, qi 128, qt false, qv, qv, qv, qv, qv, qv, qv, qv, qv, qv, qv]
noncomputable def tg0FE : List Value := [qi 0, qt true, qt false, qt false, qa 13 0, qt false, qi 128, qt false, qa 27 0, qo 24 0 128 0, qo 30 0 128 0, qz, qt true, qi 0, qa 29 0, qt false, qi 128, qt false, qt false]
noncomputable def tg0HE : List LB := [.row 100 false [qb 192, qb 168, qb 1, qb 1, qb 192, qb 168, qb 1, qb 0, qi 24, qb 2, qb 0, qb 0, qb 0, qb 0, qb 1, qb 2, qb 0, qb 0, qb 0, qb 0, qb 2, qb 192, qb 168, qb 1, qb 100, qb 192, qb 168, qb 1, qb 131, qi 3600, qb 9, qb 9, qb 9, qb 9, qi 120, qi 7200, qi 30, qi 40000, qz, qz, qi 1, qu 5, qa 1 0, qa 19 0, qa 4 0, qa 5 0, qa 6 0, qa 8 0, qa 10 0, qa 11 0, qz],
  .row 297 false [qi 600, qi 1, qo 22 0 1 0],
  .map0,
  .row 404 false [qu 3232235876, qu 3232235907, qz, qo 21 0 3 0, qM 2, qi 1],
  .row 260 false [qb 192, qb 168, qb 1, qb 1, qb 192, qb 168, qb 1, qb 0, qi 24, qb 2, qb 0, qb 0, qb 0, qb 0, qb 1, qb 2, qb 0, qb 0, qb 0, qb 0, qb 2, qb 192, qb 168, qb 1, qb 100, qb 192, qb 168, qb 1, qb 131, qi 3600, qb 9, qb 9, qb 9, qb 9, qi 120, qi 7200, qi 30, qi 40000, qz, qz, qa 3 0],
  .row 271 false [qb 2, qb 0, qb 0, qb 0, qb 0, qb 2, qi 3, qi 1, qu 5, qb 203, qb 0, qb 113, qb 1, qb 255, qb 255, qb 255, qb 0, qb 203, qb 0, qb 113, qb 254, qb 203, qb 0, qb 113, qb 254, qi 3001, qi 1, qb 203, qb 0, qb 113, qb 1, qb 203, qb 0, qb 113, qb 254, qi 1, qi 4, qi 1],
  .row 330 false [qi 40000, qi 128, qi 1, qo 23 0 128 0],
  .row 454 false [qi 128, qz],
  .row 339 false [qa 6 0, qa 7 0, qi 120, qi 7200, qi 30],
  .row 457 false [qi 64, qz],
  .row 285 false [qi 32, qz, qa 9 0],
  .row 344 false [qa 6 0, qi 0, qo 20 0 10 0],
  .row 80 false [qb 192, qb 168, qb 1, qb 1, qb 192, qb 168, qb 1, qb 0, qi 24, qb 2, qb 0, qb 0, qb 0, qb 0, qb 1, qb 2, qb 0, qb 0, qb 0, qb 0, qb 2, qb 192, qb 168, qb 1, qb 100, qb 192, qb 168, qb 1, qb 131, qi 3600, qb 9, qb 9, qb 9, qb 9, qi 120, qi 7200, qi 30, qi 40000, qz, qz, qb 192, qb 168, qb 1, qb 100, qb 192, qb 168, qb 1, qb 101, qb 192, qb 168, qb 1, qb 102, qb 0, qb 0, qb 0, qb 0, qb 0, qb 0, qb 0, qb 0, qb 0, qb 0, qb 0, qb 0, qb 0, qb 0, qb 0, qb 0, qb 0, qb 0, qb 0, qb 0, qb 203, qb 0, qb 113, qb 1, qt true, qi 0, qi 0, qi 0, qi 0, qi 0, qi 0, qb 0, qb 0, qb 0, qb 0, qb 0, qb 0, qb 0, qb 0, qz, qz, qt false, qi 0, qi 0, qi 0, qi 0, qi 0, qi 0, qb 0, qb 0, qb 0, qb 0, qb 0, qb 0, qb 0, qb 0, qz, qz, qi 0, qi 0, qz, qz, qz, qz, qz, qi 1, qi 0, qu 5, qi 0, qi 32768, qb 0, qb 0, qb 0, qb 0, qb 0, qb 0, qb 0, qb 0, qb 0, qb 0, qb 0, qb 0, qb 0, qb 0, qb 0, qb 0, qb 2, qb 0, qb 0, qb 0, qb 0, qb 2, qo 18 0 4 0, qt false],
  .row 35 false [qa 0 0, qa 12 0],
  .row 5 true [qb 3],
  .row 5 true [qb 203, qb 0, qb 113, qb 1],
  .row 5 true [qb 203, qb 0, qb 113, qb 254],
  .row 5 true [qb 1, qb 3, qb 6],
  .row 183 true [qi 53, qo 14 0 1 0, qi 50, qo 15 0 4 0, qi 54, qo 16 0 4 0, qi 55, qo 17 0 3 0],
  .row 297 false [qi 600, qi 0, qz],
  .row 2 true [qi 1, qi 2, qi 4, qi 8, qi 16, qi 32, qi 64, qi 128, qi 256, qi 512],
  .row 407 true [qb 2, qb 1, qb 0, qb 0, qb 0, qb 0, qb 192, qb 168, qb 1, qb 100, qi 3601, qt false, qb 2, qb 1, qb 0, qb 0, qb 0, qb 1, qb 192, qb 168, qb 1, qb 101, qi 3601, qt false, qb 2, qb 1, qb 0, qb 0, qb 0, qb 2, qb 192, qb 168, qb 1, qb 102, qi 3601, qt false],
  .row 295 true [qb 192, qb 168, qb 1, qb 100, qt true, qb 2, qb 1, qb 0, qb 0, qb 0, qb 0, qi 1, qi 0, qz],
  .row 49 true (tfM 0 128 0),
  .row 49 true (tfM 0 128 0),
  .row 5 false [],
  .row 5 true [qb 20, qb 231, qb 19, qb 136, qb 0, qb 24, qb 82, qb 176, qb 0, qb 129, qb 0, qb 4, qb 0, qb 0, qb 0, qb 1, qb 0, qb 99, qb 0, qb 0, qb 0, qb 0, qb 0, qb 0],
  .row 40 false [qi 0, qi 0, qi 0, qi 0, qi 64, qi 17, qb 192, qb 168, qb 1, qb 1, qb 192, qb 168, qb 1, qb 100, ql 25 0 0 0, qo 26 0 24 0],
  .row 5 true [qb 0, qb 129, qb 0, qb 4, qb 0, qb 0, qb 0, qb 1, qb 0, qb 99, qb 0, qb 0, qb 0, qb 0, qb 0, qb 0],
  .row 44 false [qi 5351, qi 5000, qo 28 0 16 0],
  .row 49 true (tfM 0 128 0)]
noncomputable def tg1F0 : List Value := [qi 1, qt false, qt false, qv, qv, qv, qv, qv, qv, qv, qv, qv, qv, qv, qv, qv, qv, qv, qv]
noncomputable def tg1F1 : List Value := [qi 1, qt false, qt false, qt false, qv, qv, qv, qv, qv, qv, qv, qv, qv, qv, qv, qv, qv, qv, qv]
noncomputable def tg1F2 : List Value := [qi 1, qt false, qt false, qt false, qa 13 0, qv, qv, qv, qv, qv, qv, qv, qv, qv, qv, qv, qv, qv, qv]
noncomputable def tg1F3 : List Value := [qi 1, qt false, qt false, qt false, qa 13 0, qt false, qv, qv, qv, qv, qv, qv, qv, qv, qv, qv, qv, qv, qv]
noncomputable def tg1FX : List Value := [qi 1, qt false, qt false, qt false, qa 13 0, qt false, qi 128, qt false, qv, qv, qv, qv, qv, qv, qv, qv, qv, qv, qv]
noncomputable def tg1FE : List Value := [qi 1, qt true, qt false, qt false, qa 13 0, qt false, qi 128, qt false, qa 27 0, qo 24 0 128 0, qo 30 0 128 0, qz, qt true, qi 0, qa 29 0, qt false, qi 128, qt false, qt false]
noncomputable def tg1HE : List LB := [.row 100 false [qb 192, qb 168, qb 1, qb 1, qb 192, qb 168, qb 1, qb 0, qi 24, qb 2, qb 0, qb 0, qb 0, qb 0, qb 1, qb 2, qb 0, qb 0, qb 0, qb 0, qb 2, qb 192, qb 168, qb 1, qb 100, qb 192, qb 168, qb 1, qb 131, qi 3600, qb 9, qb 9, qb 9, qb 9, qi 120, qi 7200, qi 30, qi 40000, qz, qz, qi 1, qu 5, qa 1 0, qa 19 0, qa 4 0, qa 5 0, qa 6 0, qa 8 0, qa 10 0, qa 11 0, qz],
  .row 297 false [qi 600, qi 1, qo 22 0 1 0],
  .map0,
  .row 404 false [qu 3232235876, qu 3232235907, qz, qo 21 0 3 0, qM 2, qi 1],
  .row 260 false [qb 192, qb 168, qb 1, qb 1, qb 192, qb 168, qb 1, qb 0, qi 24, qb 2, qb 0, qb 0, qb 0, qb 0, qb 1, qb 2, qb 0, qb 0, qb 0, qb 0, qb 2, qb 192, qb 168, qb 1, qb 100, qb 192, qb 168, qb 1, qb 131, qi 3600, qb 9, qb 9, qb 9, qb 9, qi 120, qi 7200, qi 30, qi 40000, qz, qz, qa 3 0],
  .row 271 false [qb 2, qb 0, qb 0, qb 0, qb 0, qb 2, qi 3, qi 1, qu 5, qb 203, qb 0, qb 113, qb 1, qb 255, qb 255, qb 255, qb 0, qb 203, qb 0, qb 113, qb 254, qb 203, qb 0, qb 113, qb 254, qi 3001, qi 1, qb 203, qb 0, qb 113, qb 1, qb 203, qb 0, qb 113, qb 254, qi 1, qi 4, qi 1],
  .row 330 false [qi 40000, qi 128, qi 1, qo 23 0 128 0],
  .row 454 false [qi 128, qz],
  .row 339 false [qa 6 0, qa 7 0, qi 120, qi 7200, qi 30],
  .row 457 false [qi 64, qz],
  .row 285 false [qi 32, qz, qa 9 0],
  .row 344 false [qa 6 0, qi 0, qo 20 0 10 0],
  .row 80 false [qb 192, qb 168, qb 1, qb 1, qb 192, qb 168, qb 1, qb 0, qi 24, qb 2, qb 0, qb 0, qb 0, qb 0, qb 1, qb 2, qb 0, qb 0, qb 0, qb 0, qb 2, qb 192, qb 168, qb 1, qb 100, qb 192, qb 168, qb 1, qb 131, qi 3600, qb 9, qb 9, qb 9, qb 9, qi 120, qi 7200, qi 30, qi 40000, qz, qz, qb 192, qb 168, qb 1, qb 100, qb 192, qb 168, qb 1, qb 101, qb 192, qb 168, qb 1, qb 102, qb 0, qb 0, qb 0, qb 0, qb 0, qb 0, qb 0, qb 0, qb 0, qb 0, qb 0, qb 0, qb 0, qb 0, qb 0, qb 0, qb 0, qb 0, qb 0, qb 0, qb 203, qb 0, qb 113, qb 1, qt true, qi 0, qi 0, qi 0, qi 0, qi 0, qi 0, qb 0, qb 0, qb 0, qb 0, qb 0, qb 0, qb 0, qb 0, qz, qz, qt false, qi 0, qi 0, qi 0, qi 0, qi 0, qi 0, qb 0, qb 0, qb 0, qb 0, qb 0, qb 0, qb 0, qb 0, qz, qz, qi 0, qi 0, qz, qz, qz, qz, qz, qi 1, qi 0, qu 5, qi 0, qi 32768, qb 0, qb 0, qb 0, qb 0, qb 0, qb 0, qb 0, qb 0, qb 0, qb 0, qb 0, qb 0, qb 0, qb 0, qb 0, qb 0, qb 2, qb 0, qb 0, qb 0, qb 0, qb 2, qo 18 0 4 0, qt false],
  .row 35 false [qa 0 0, qa 12 0],
  .row 5 true [qb 3],
  .row 5 true [qb 203, qb 0, qb 113, qb 1],
  .row 5 true [qb 203, qb 0, qb 113, qb 254],
  .row 5 true [qb 1, qb 3, qb 6],
  .row 183 true [qi 53, qo 14 0 1 0, qi 50, qo 15 0 4 0, qi 54, qo 16 0 4 0, qi 55, qo 17 0 3 0],
  .row 297 false [qi 600, qi 0, qz],
  .row 2 true [qi 1, qi 2, qi 4, qi 8, qi 16, qi 32, qi 64, qi 128, qi 256, qi 512],
  .row 407 true [qb 2, qb 1, qb 0, qb 0, qb 0, qb 0, qb 192, qb 168, qb 1, qb 100, qi 3601, qt false, qb 2, qb 1, qb 0, qb 0, qb 0, qb 1, qb 192, qb 168, qb 1, qb 101, qi 3601, qt false, qb 2, qb 1, qb 0, qb 0, qb 0, qb 2, qb 192, qb 168, qb 1, qb 102, qi 3601, qt false],
  .row 295 true [qb 192, qb 168, qb 1, qb 101, qt true, qb 2, qb 1, qb 0, qb 0, qb 0, qb 1, qi 1, qi 0, qz],
  .row 49 true (tfM 1 128 0),
  .row 49 true (tfM 1 128 0),
  .row 5 false [],
  .row 5 true [qb 20, qb 231, qb 19, qb 136, qb 0, qb 24, qb 82, qb 175, qb 0, qb 129, qb 0, qb 4, qb 0, qb 0, qb 0, qb 1, qb 0, qb 99, qb 0, qb 0, qb 0, qb 0, qb 0, qb 0],
  .row 40 false [qi 0, qi 0, qi 0, qi 0, qi 64, qi 17, qb 192, qb 168, qb 1, qb 1, qb 192, qb 168, qb 1, qb 101, ql 25 0 0 0, qo 26 0 24 0],
  .row 5 true [qb 0, qb 129, qb 0, qb 4, qb 0, qb 0, qb 0, qb 1, qb 0, qb 99, qb 0, qb 0, qb 0, qb 0, qb 0, qb 0],
  .row 44 false [qi 5351, qi 5000, qo 28 0 16 0],
  .row 49 true (tfM 1 128 0)]
noncomputable def tg2F0 : List Value := [qi 2, qt false, qt false, qv, qv, qv, qv, qv, qv, qv, qv, qv, qv, qv, qv, qv, qv, qv, qv]
noncomputable def tg2F1 : List Value := [qi 2, qt false, qt false, qt false, qv, qv, qv, qv, qv, qv, qv, qv, qv, qv, qv, qv, qv, qv, qv]
noncomputable def tg2F2 : List Value := [qi 2, qt false, qt false, qt false, qa 13 0, qv, qv, qv, qv, qv, qv, qv, qv, qv, qv, qv, qv, qv, qv]
noncomputable def tg2F3 : List Value := [qi 2, qt false, qt false, qt false, qa 13 0, qt false, qv, qv, qv, qv, qv, qv, qv, qv, qv, qv, qv, qv, qv]
noncomputable def tg2FX : List Value := [qi 2, qt false, qt false, qt false, qa 13 0, qt false, qi 128, qt false, qv, qv, qv, qv, qv, qv, qv, qv, qv, qv, qv]
noncomputable def tg2FE : List Value := [qi 2, qt true, qt false, qt false, qa 13 0, qt false, qi 128, qt false, qa 27 0, qo 24 0 128 0, qo 30 0 128 0, qz, qt true, qi 0, qa 29 0, qt false, qi 128, qt false, qt false]
noncomputable def tg2HE : List LB := [.row 100 false [qb 192, qb 168, qb 1, qb 1, qb 192, qb 168, qb 1, qb 0, qi 24, qb 2, qb 0, qb 0, qb 0, qb 0, qb 1, qb 2, qb 0, qb 0, qb 0, qb 0, qb 2, qb 192, qb 168, qb 1, qb 100, qb 192, qb 168, qb 1, qb 131, qi 3600, qb 9, qb 9, qb 9, qb 9, qi 120, qi 7200, qi 30, qi 40000, qz, qz, qi 1, qu 5, qa 1 0, qa 19 0, qa 4 0, qa 5 0, qa 6 0, qa 8 0, qa 10 0, qa 11 0, qz],
  .row 297 false [qi 600, qi 1, qo 22 0 1 0],
  .map0,
  .row 404 false [qu 3232235876, qu 3232235907, qz, qo 21 0 3 0, qM 2, qi 1],
  .row 260 false [qb 192, qb 168, qb 1, qb 1, qb 192, qb 168, qb 1, qb 0, qi 24, qb 2, qb 0, qb 0, qb 0, qb 0, qb 1, qb 2, qb 0, qb 0, qb 0, qb 0, qb 2, qb 192, qb 168, qb 1, qb 100, qb 192, qb 168, qb 1, qb 131, qi 3600, qb 9, qb 9, qb 9, qb 9, qi 120, qi 7200, qi 30, qi 40000, qz, qz, qa 3 0],
  .row 271 false [qb 2, qb 0, qb 0, qb 0, qb 0, qb 2, qi 3, qi 1, qu 5, qb 203, qb 0, qb 113, qb 1, qb 255, qb 255, qb 255, qb 0, qb 203, qb 0, qb 113, qb 254, qb 203, qb 0, qb 113, qb 254, qi 3001, qi 1, qb 203, qb 0, qb 113, qb 1, qb 203, qb 0, qb 113, qb 254, qi 1, qi 4, qi 1],
  .row 330 false [qi 40000, qi 128, qi 1, qo 23 0 128 0],
  .row 454 false [qi 128, qz],
  .row 339 false [qa 6 0, qa 7 0, qi 120, qi 7200, qi 30],
  .row 457 false [qi 64, qz],
  .row 285 false [qi 32, qz, qa 9 0],
  .row 344 false [qa 6 0, qi 0, qo 20 0 10 0],
  .row 80 false [qb 192, qb 168, qb 1, qb 1, qb 192, qb 168, qb 1, qb 0, qi 24, qb 2, qb 0, qb 0, qb 0, qb 0, qb 1, qb 2, qb 0, qb 0, qb 0, qb 0, qb 2, qb 192, qb 168, qb 1, qb 100, qb 192, qb 168, qb 1, qb 131, qi 3600, qb 9, qb 9, qb 9, qb 9, qi 120, qi 7200, qi 30, qi 40000, qz, qz, qb 192, qb 168, qb 1, qb 100, qb 192, qb 168, qb 1, qb 101, qb 192, qb 168, qb 1, qb 102, qb 0, qb 0, qb 0, qb 0, qb 0, qb 0, qb 0, qb 0, qb 0, qb 0, qb 0, qb 0, qb 0, qb 0, qb 0, qb 0, qb 0, qb 0, qb 0, qb 0, qb 203, qb 0, qb 113, qb 1, qt true, qi 0, qi 0, qi 0, qi 0, qi 0, qi 0, qb 0, qb 0, qb 0, qb 0, qb 0, qb 0, qb 0, qb 0, qz, qz, qt false, qi 0, qi 0, qi 0, qi 0, qi 0, qi 0, qb 0, qb 0, qb 0, qb 0, qb 0, qb 0, qb 0, qb 0, qz, qz, qi 0, qi 0, qz, qz, qz, qz, qz, qi 1, qi 0, qu 5, qi 0, qi 32768, qb 0, qb 0, qb 0, qb 0, qb 0, qb 0, qb 0, qb 0, qb 0, qb 0, qb 0, qb 0, qb 0, qb 0, qb 0, qb 0, qb 2, qb 0, qb 0, qb 0, qb 0, qb 2, qo 18 0 4 0, qt false],
  .row 35 false [qa 0 0, qa 12 0],
  .row 5 true [qb 3],
  .row 5 true [qb 203, qb 0, qb 113, qb 1],
  .row 5 true [qb 203, qb 0, qb 113, qb 254],
  .row 5 true [qb 1, qb 3, qb 6],
  .row 183 true [qi 53, qo 14 0 1 0, qi 50, qo 15 0 4 0, qi 54, qo 16 0 4 0, qi 55, qo 17 0 3 0],
  .row 297 false [qi 600, qi 0, qz],
  .row 2 true [qi 1, qi 2, qi 4, qi 8, qi 16, qi 32, qi 64, qi 128, qi 256, qi 512],
  .row 407 true [qb 2, qb 1, qb 0, qb 0, qb 0, qb 0, qb 192, qb 168, qb 1, qb 100, qi 3601, qt false, qb 2, qb 1, qb 0, qb 0, qb 0, qb 1, qb 192, qb 168, qb 1, qb 101, qi 3601, qt false, qb 2, qb 1, qb 0, qb 0, qb 0, qb 2, qb 192, qb 168, qb 1, qb 102, qi 3601, qt false],
  .row 295 true [qb 192, qb 168, qb 1, qb 102, qt true, qb 2, qb 1, qb 0, qb 0, qb 0, qb 2, qi 1, qi 0, qz],
  .row 49 true (tfM 2 128 0),
  .row 49 true (tfM 2 128 0),
  .row 5 false [],
  .row 5 true [qb 20, qb 231, qb 19, qb 136, qb 0, qb 24, qb 82, qb 174, qb 0, qb 129, qb 0, qb 4, qb 0, qb 0, qb 0, qb 1, qb 0, qb 99, qb 0, qb 0, qb 0, qb 0, qb 0, qb 0],
  .row 40 false [qi 0, qi 0, qi 0, qi 0, qi 64, qi 17, qb 192, qb 168, qb 1, qb 1, qb 192, qb 168, qb 1, qb 102, ql 25 0 0 0, qo 26 0 24 0],
  .row 5 true [qb 0, qb 129, qb 0, qb 4, qb 0, qb 0, qb 0, qb 1, qb 0, qb 99, qb 0, qb 0, qb 0, qb 0, qb 0, qb 0],
  .row 44 false [qi 5351, qi 5000, qo 28 0 16 0],
  .row 49 true (tfM 2 128 0)]
end Go.Proofs.YthgpfnbajjmcdaaGreatDoor.Vw
