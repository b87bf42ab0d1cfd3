/-
  gatehousetop.up: the told states between its pieces.
-/
import Derived.Test.YtccbdaffjkdpgaaGreatDoorTf0
namespace Go.Proofs.YtccbdaffjkdpgaaGreatDoor.Vw
open LB
noncomputable def TY1 : Ty := tyOf Tryz.prog EQ1 .e
noncomputable def E1 : Env := envL Tryz.prog EQ1 .e LV0
theorem hE1 [Val] : Top Tryz.prog TY1 E1 := ⟨tyOf_ok _ _ (fun w hw => absurd hw (no_row w)), eqT_of heq, hfol, (envS (fun w hw => absurd hw (no_row w))).2⟩
noncomputable def upF : Func := Tryz.prog.funcs[(5 : Nat)]!
noncomputable def upB : Code := upF.body.getD .skip
def upLive : List Nat := [0, 1, 6, 2, 17]
abbrev pc (c : Code) (e : En) (f : List Value) (h : List LB) (s : List Nat) (f' : List Value) (h' : List LB) : Prop := pieceB (callR E1 1000) (ccode TY1 upLive 28 c) e f h s f' h' = true
abbrev rc (c : Code) (f : List Value) (h : List LB) (s : List Nat) (f' : List Value) (h' : List LB) : Prop := roundsB (callR E1 1000) (ccode TY1 upLive 28 c) 1 f h s f' h' = true
noncomputable abbrev lp : Code := cl (cr (cr (cr (cr (cr (cr upB))))))
noncomputable def UpF0 : List Value := [qv, qv, qv, qv, qv]
noncomputable def UpH0 : List LB := []
def UpS1 : List Nat := []
noncomputable def UpF1 : List Value := [qp, qv, qv, qv, qv]
noncomputable def UpH1 : List LB := []
def UpS2 : List Nat := [87, 88, 89, 168, 169, 172, 174, 175, 178, 179, 180, 181, 182, 186, 187]
noncomputable def UpF2 : List Value := [qp, qa 14 0, qv, qv, qv]
noncomputable def UpH2 : List LB := [.row 107 false [qb 192, qb 168, qb 1, qb 1, qb 192, qb 168, qb 1, qb 0, qi 24, qb 2, qb 0, qb 0, qb 0, qb 0, qb 1, qb 2, qb 0, qb 0, qb 0, qb 0, qb 2, qb 192, qb 168, qb 1, qb 100, qb 192, qb 168, qb 1, qb 131, qi 3600, qb 9, qb 9, qb 9, qb 9, qi 120, qi 7200, qi 30, qi 40000, qz, qz, qi 0, qu 0, qa 1 0, qa 2 0, qa 5 0, qa 6 0, qa 7 0, qa 9 0, qa 11 0, qa 12 0, qz],
  .row 303 false [qi 600, qi 0, qz],
  .row 303 false [qi 600, qi 0, qz],
  .map0,
  .row 405 false [qu 3232235876, qu 3232235907, qz, qz, qM 3, qi 0],
  .row 266 false [qb 192, qb 168, qb 1, qb 1, qb 192, qb 168, qb 1, qb 0, qi 24, qb 2, qb 0, qb 0, qb 0, qb 0, qb 1, qb 2, qb 0, qb 0, qb 0, qb 0, qb 2, qb 192, qb 168, qb 1, qb 100, qb 192, qb 168, qb 1, qb 131, qi 3600, qb 9, qb 9, qb 9, qb 9, qi 120, qi 7200, qi 30, qi 40000, qz, qz, qa 4 0],
  .row 277 false [qb 2, qb 0, qb 0, qb 0, qb 0, qb 2, qi 0, qi 0, qu 0, qb 0, qb 0, qb 0, qb 0, qb 0, qb 0, qb 0, qb 0, qb 0, qb 0, qb 0, qb 0, qb 0, qb 0, qb 0, qb 0, qi 0, qi 0, qb 0, qb 0, qb 0, qb 0, qb 0, qb 0, qb 0, qb 0, qi 0, qi 0, qi 0],
  .row 336 false [qi 40000, qi 128, qi 0, qz],
  .row 455 false [qi 128, qz],
  .row 345 false [qa 7 0, qa 8 0, qi 120, qi 7200, qi 30],
  .row 458 false [qi 64, qz],
  .row 291 false [qi 32, qz, qa 10 0],
  .row 350 false [qa 7 0, qi 0, qz],
  .row 60 false [qb 192, qb 168, qb 1, qb 1, qb 192, qb 168, qb 1, qb 0, qi 24, qb 2, qb 0, qb 0, qb 0, qb 0, qb 1, qb 2, qb 0, qb 0, qb 0, qb 0, qb 2, qb 192, qb 168, qb 1, qb 100, qb 192, qb 168, qb 1, qb 131, qi 3600, qb 9, qb 9, qb 9, qb 9, qi 120, qi 7200, qi 30, qi 40000, qz, qz, qb 0, qb 0, qb 0, qb 0, qb 0, qb 0, qb 0, qb 0, qb 0, qb 0, qb 0, qb 0, qb 0, qb 0, qb 0, qb 0, qb 0, qb 0, qb 0, qb 0, qb 0, qb 0, qb 0, qb 0, qb 0, qb 0, qb 0, qb 0, qb 0, qb 0, qb 0, qb 0, qb 0, qb 0, qb 0, qb 0, qt false, qi 0, qi 0, qi 0, qi 0, qi 0, qi 0, qb 0, qb 0, qb 0, qb 0, qb 0, qb 0, qb 0, qb 0, qz, qz, qt false, qi 0, qi 0, qi 0, qi 0, qi 0, qi 0, qb 0, qb 0, qb 0, qb 0, qb 0, qb 0, qb 0, qb 0, qz, qz, qi 0, qi 0, qz, qz, qz, qz, qz, qi 0, qi 0, qu 0, qi 0, qi 0, qb 0, qb 0, qb 0, qb 0, qb 0, qb 0, qb 0, qb 0, qb 0, qb 0, qb 0, qb 0, qb 0, qb 0, qb 0, qb 0, qb 0, qb 0, qb 0, qb 0, qb 0, qb 0, qz, qt false],
  .row 64 false [qa 0 0, qa 13 0]]
def UpS3 : List Nat := [0, 1, 2, 3, 4, 5, 6, 7, 8, 9, 10, 11, 12, 13, 14]
noncomputable def UpF3 : List Value := [qp, qa 14 0, qt false, qv, qv]
noncomputable def UpH3 : List LB := [.row 107 false [qb 192, qb 168, qb 1, qb 1, qb 192, qb 168, qb 1, qb 0, qi 24, qb 2, qb 0, qb 0, qb 0, qb 0, qb 1, qb 2, qb 0, qb 0, qb 0, qb 0, qb 2, qb 192, qb 168, qb 1, qb 100, qb 192, qb 168, qb 1, qb 131, qi 3600, qb 9, qb 9, qb 9, qb 9, qi 120, qi 7200, qi 30, qi 40000, qz, qz, qi 0, qu 0, qa 1 0, qa 2 0, qa 5 0, qa 6 0, qa 7 0, qa 9 0, qa 11 0, qa 12 0, qz],
  .row 303 false [qi 600, qi 0, qz],
  .row 303 false [qi 600, qi 0, qz],
  .map0,
  .row 405 false [qu 3232235876, qu 3232235907, qz, qz, qM 3, qi 0],
  .row 266 false [qb 192, qb 168, qb 1, qb 1, qb 192, qb 168, qb 1, qb 0, qi 24, qb 2, qb 0, qb 0, qb 0, qb 0, qb 1, qb 2, qb 0, qb 0, qb 0, qb 0, qb 2, qb 192, qb 168, qb 1, qb 100, qb 192, qb 168, qb 1, qb 131, qi 3600, qb 9, qb 9, qb 9, qb 9, qi 120, qi 7200, qi 30, qi 40000, qz, qz, qa 4 0],
  .row 277 false [qb 2, qb 0, qb 0, qb 0, qb 0, qb 2, qi 0, qi 0, qu 0, qb 0, qb 0, qb 0, qb 0, qb 0, qb 0, qb 0, qb 0, qb 0, qb 0, qb 0, qb 0, qb 0, qb 0, qb 0, qb 0, qi 0, qi 0, qb 0, qb 0, qb 0, qb 0, qb 0, qb 0, qb 0, qb 0, qi 0, qi 0, qi 0],
  .row 336 false [qi 40000, qi 128, qi 0, qz],
  .row 455 false [qi 128, qz],
  .row 345 false [qa 7 0, qa 8 0, qi 120, qi 7200, qi 30],
  .row 458 false [qi 64, qz],
  .row 291 false [qi 32, qz, qa 10 0],
  .row 350 false [qa 7 0, qi 0, qz],
  .row 60 false [qb 192, qb 168, qb 1, qb 1, qb 192, qb 168, qb 1, qb 0, qi 24, qb 2, qb 0, qb 0, qb 0, qb 0, qb 1, qb 2, qb 0, qb 0, qb 0, qb 0, qb 2, qb 192, qb 168, qb 1, qb 100, qb 192, qb 168, qb 1, qb 131, qi 3600, qb 9, qb 9, qb 9, qb 9, qi 120, qi 7200, qi 30, qi 40000, qz, qz, qb 0, qb 0, qb 0, qb 0, qb 0, qb 0, qb 0, qb 0, qb 0, qb 0, qb 0, qb 0, qb 0, qb 0, qb 0, qb 0, qb 0, qb 0, qb 0, qb 0, qb 0, qb 0, qb 0, qb 0, qb 0, qb 0, qb 0, qb 0, qb 0, qb 0, qb 0, qb 0, qb 0, qb 0, qb 0, qb 0, qt false, qi 0, qi 0, qi 0, qi 0, qi 0, qi 0, qb 0, qb 0, qb 0, qb 0, qb 0, qb 0, qb 0, qb 0, qz, qz, qt false, qi 0, qi 0, qi 0, qi 0, qi 0, qi 0, qb 0, qb 0, qb 0, qb 0, qb 0, qb 0, qb 0, qb 0, qz, qz, qi 0, qi 0, qz, qz, qz, qz, qz, qi 0, qi 0, qu 0, qi 0, qi 0, qb 0, qb 0, qb 0, qb 0, qb 0, qb 0, qb 0, qb 0, qb 0, qb 0, qb 0, qb 0, qb 0, qb 0, qb 0, qb 0, qb 0, qb 0, qb 0, qb 0, qb 0, qb 0, qz, qt false],
  .row 64 false [qa 0 0, qa 13 0]]
def UpS4 : List Nat := [0, 1, 2, 3, 4, 5, 6, 7, 8, 9, 10, 11, 12, 13, 14, 208, 212, 214]
noncomputable def UpF4 : List Value := [qp, qa 14 0, qt false, qv, qv]
noncomputable def UpH4 : List LB := [.row 107 false [qb 192, qb 168, qb 1, qb 1, qb 192, qb 168, qb 1, qb 0, qi 24, qb 2, qb 0, qb 0, qb 0, qb 0, qb 1, qb 2, qb 0, qb 0, qb 0, qb 0, qb 2, qb 192, qb 168, qb 1, qb 100, qb 192, qb 168, qb 1, qb 131, qi 3600, qb 9, qb 9, qb 9, qb 9, qi 120, qi 7200, qi 30, qi 40000, qz, qz, qi 1, qu 5, qa 1 0, qa 2 0, qa 5 0, qa 6 0, qa 7 0, qa 9 0, qa 11 0, qa 12 0, qz],
  .row 303 false [qi 600, qi 1, qz],
  .row 303 false [qi 600, qi 1, qz],
  .map0,
  .row 405 false [qu 3232235876, qu 3232235907, qz, qz, qM 3, qi 1],
  .row 266 false [qb 192, qb 168, qb 1, qb 1, qb 192, qb 168, qb 1, qb 0, qi 24, qb 2, qb 0, qb 0, qb 0, qb 0, qb 1, qb 2, qb 0, qb 0, qb 0, qb 0, qb 2, qb 192, qb 168, qb 1, qb 100, qb 192, qb 168, qb 1, qb 131, qi 3600, qb 9, qb 9, qb 9, qb 9, qi 120, qi 7200, qi 30, qi 40000, qz, qz, qa 4 0],
  .row 277 false [qb 2, qb 0, qb 0, qb 0, qb 0, qb 2, qi 1, qi 1, qu 5, qb 0, qb 0, qb 0, qb 0, qb 0, qb 0, qb 0, qb 0, qb 0, qb 0, qb 0, qb 0, qb 0, qb 0, qb 0, qb 0, qi 0, qi 0, qb 0, qb 0, qb 0, qb 0, qb 0, qb 0, qb 0, qb 0, qi 1, qi 4, qi 1],
  .row 336 false [qi 40000, qi 128, qi 1, qz],
  .row 455 false [qi 128, qz],
  .row 345 false [qa 7 0, qa 8 0, qi 120, qi 7200, qi 30],
  .row 458 false [qi 64, qz],
  .row 291 false [qi 32, qz, qa 10 0],
  .row 350 false [qa 7 0, qi 0, qz],
  .row 60 false [qb 192, qb 168, qb 1, qb 1, qb 192, qb 168, qb 1, qb 0, qi 24, qb 2, qb 0, qb 0, qb 0, qb 0, qb 1, qb 2, qb 0, qb 0, qb 0, qb 0, qb 2, qb 192, qb 168, qb 1, qb 100, qb 192, qb 168, qb 1, qb 131, qi 3600, qb 9, qb 9, qb 9, qb 9, qi 120, qi 7200, qi 30, qi 40000, qz, qz, qb 0, qb 0, qb 0, qb 0, qb 0, qb 0, qb 0, qb 0, qb 0, qb 0, qb 0, qb 0, qb 0, qb 0, qb 0, qb 0, qb 0, qb 0, qb 0, qb 0, qb 0, qb 0, qb 0, qb 0, qb 0, qb 0, qb 0, qb 0, qb 0, qb 0, qb 0, qb 0, qb 0, qb 0, qb 0, qb 0, qt false, qi 0, qi 0, qi 0, qi 0, qi 0, qi 0, qb 0, qb 0, qb 0, qb 0, qb 0, qb 0, qb 0, qb 0, qz, qz, qt false, qi 0, qi 0, qi 0, qi 0, qi 0, qi 0, qb 0, qb 0, qb 0, qb 0, qb 0, qb 0, qb 0, qb 0, qz, qz, qi 0, qi 0, qz, qz, qz, qz, qz, qi 1, qi 0, qu 5, qi 0, qi 32768, qb 0, qb 0, qb 0, qb 0, qb 0, qb 0, qb 0, qb 0, qb 0, qb 0, qb 0, qb 0, qb 0, qb 0, qb 0, qb 0, qb 2, qb 0, qb 0, qb 0, qb 0, qb 2, qo 17 0 2 0, qt true],
  .row 64 false [qa 0 0, qa 13 0],
  .row 5 true [qb 1],
  .row 5 true [qb 1, qb 3, qb 6],
  .row 193 true [qi 53, qo 15 0 1 0, qi 55, qo 16 0 3 0]]
def UpS5 : List Nat := [0, 1, 2, 3, 4, 5, 6, 7, 8, 9, 10, 11, 12, 13, 14, 543, 547, 551, 555, 557]
noncomputable def UpF5 : List Value := [qp, qa 14 0, qt false, qv, qv]
noncomputable def UpH5 : List LB := [.row 107 false [qb 192, qb 168, qb 1, qb 1, qb 192, qb 168, qb 1, qb 0, qi 24, qb 2, qb 0, qb 0, qb 0, qb 0, qb 1, qb 2, qb 0, qb 0, qb 0, qb 0, qb 2, qb 192, qb 168, qb 1, qb 100, qb 192, qb 168, qb 1, qb 131, qi 3600, qb 9, qb 9, qb 9, qb 9, qi 120, qi 7200, qi 30, qi 40000, qz, qz, qi 1, qu 5, qa 1 0, qa 2 0, qa 5 0, qa 6 0, qa 7 0, qa 9 0, qa 11 0, qa 12 0, qz],
  .row 303 false [qi 600, qi 1, qz],
  .row 303 false [qi 600, qi 1, qz],
  .map0,
  .row 405 false [qu 3232235876, qu 3232235907, qz, qz, qM 3, qi 1],
  .row 266 false [qb 192, qb 168, qb 1, qb 1, qb 192, qb 168, qb 1, qb 0, qi 24, qb 2, qb 0, qb 0, qb 0, qb 0, qb 1, qb 2, qb 0, qb 0, qb 0, qb 0, qb 2, qb 192, qb 168, qb 1, qb 100, qb 192, qb 168, qb 1, qb 131, qi 3600, qb 9, qb 9, qb 9, qb 9, qi 120, qi 7200, qi 30, qi 40000, qz, qz, qa 4 0],
  .row 277 false [qb 2, qb 0, qb 0, qb 0, qb 0, qb 2, qi 2, qi 1, qu 5, qb 0, qb 0, qb 0, qb 0, qb 0, qb 0, qb 0, qb 0, qb 0, qb 0, qb 0, qb 0, qb 0, qb 0, qb 0, qb 0, qi 0, qi 0, qb 203, qb 0, qb 113, qb 1, qb 203, qb 0, qb 113, qb 254, qi 1, qi 4, qi 1],
  .row 336 false [qi 40000, qi 128, qi 1, qz],
  .row 455 false [qi 128, qz],
  .row 345 false [qa 7 0, qa 8 0, qi 120, qi 7200, qi 30],
  .row 458 false [qi 64, qz],
  .row 291 false [qi 32, qz, qa 10 0],
  .row 350 false [qa 7 0, qi 0, qz],
  .row 60 false [qb 192, qb 168, qb 1, qb 1, qb 192, qb 168, qb 1, qb 0, qi 24, qb 2, qb 0, qb 0, qb 0, qb 0, qb 1, qb 2, qb 0, qb 0, qb 0, qb 0, qb 2, qb 192, qb 168, qb 1, qb 100, qb 192, qb 168, qb 1, qb 131, qi 3600, qb 9, qb 9, qb 9, qb 9, qi 120, qi 7200, qi 30, qi 40000, qz, qz, qb 0, qb 0, qb 0, qb 0, qb 0, qb 0, qb 0, qb 0, qb 0, qb 0, qb 0, qb 0, qb 0, qb 0, qb 0, qb 0, qb 0, qb 0, qb 0, qb 0, qb 0, qb 0, qb 0, qb 0, qb 0, qb 0, qb 0, qb 0, qb 0, qb 0, qb 0, qb 0, qb 0, qb 0, qb 0, qb 0, qt false, qi 0, qi 0, qi 0, qi 0, qi 0, qi 0, qb 0, qb 0, qb 0, qb 0, qb 0, qb 0, qb 0, qb 0, qz, qz, qt false, qi 0, qi 0, qi 0, qi 0, qi 0, qi 0, qb 0, qb 0, qb 0, qb 0, qb 0, qb 0, qb 0, qb 0, qz, qz, qi 0, qi 0, qz, qz, qz, qz, qz, qi 1, qi 0, qu 5, qi 0, qi 32768, qb 0, qb 0, qb 0, qb 0, qb 0, qb 0, qb 0, qb 0, qb 0, qb 0, qb 0, qb 0, qb 0, qb 0, qb 0, qb 0, qb 2, qb 0, qb 0, qb 0, qb 0, qb 2, qo 19 0 4 0, qt true],
  .row 64 false [qa 0 0, qa 13 0],
  .row 5 true [qb 3],
  .row 5 true [qb 203, qb 0, qb 113, qb 1],
  .row 5 true [qb 203, qb 0, qb 113, qb 254],
  .row 5 true [qb 1, qb 3, qb 6],
  .row 193 true [qi 53, qo 15 0 1 0, qi 50, qo 16 0 4 0, qi 54, qo 17 0 4 0, qi 55, qo 18 0 3 0]]
def UpS6 : List Nat := [0, 1, 3, 4, 5, 6, 7, 8, 9, 10, 11, 12, 13, 14, 15, 16, 17, 18, 19, 387, 407]
noncomputable def UpF6 : List Value := [qp, qa 13 0, qt false, qv, qv]
noncomputable def UpH6 : List LB := [.row 107 false [qb 192, qb 168, qb 1, qb 1, qb 192, qb 168, qb 1, qb 0, qi 24, qb 2, qb 0, qb 0, qb 0, qb 0, qb 1, qb 2, qb 0, qb 0, qb 0, qb 0, qb 2, qb 192, qb 168, qb 1, qb 100, qb 192, qb 168, qb 1, qb 131, qi 3600, qb 9, qb 9, qb 9, qb 9, qi 120, qi 7200, qi 30, qi 40000, qz, qz, qi 1, qu 5, qa 1 0, qa 19 0, qa 4 0, qa 5 0, qa 6 0, qa 8 0, qa 10 0, qa 11 0, qz],
  .row 303 false [qi 600, qi 1, qz],
  .map0,
  .row 405 false [qu 3232235876, qu 3232235907, qz, qz, qM 2, qi 1],
  .row 266 false [qb 192, qb 168, qb 1, qb 1, qb 192, qb 168, qb 1, qb 0, qi 24, qb 2, qb 0, qb 0, qb 0, qb 0, qb 1, qb 2, qb 0, qb 0, qb 0, qb 0, qb 2, qb 192, qb 168, qb 1, qb 100, qb 192, qb 168, qb 1, qb 131, qi 3600, qb 9, qb 9, qb 9, qb 9, qi 120, qi 7200, qi 30, qi 40000, qz, qz, qa 3 0],
  .row 277 false [qb 2, qb 0, qb 0, qb 0, qb 0, qb 2, qi 3, qi 1, qu 5, qb 203, qb 0, qb 113, qb 1, qb 255, qb 255, qb 255, qb 0, qb 203, qb 0, qb 113, qb 254, qb 203, qb 0, qb 113, qb 254, qi 3001, qi 1, qb 203, qb 0, qb 113, qb 1, qb 203, qb 0, qb 113, qb 254, qi 1, qi 4, qi 1],
  .row 336 false [qi 40000, qi 128, qi 1, qz],
  .row 455 false [qi 128, qz],
  .row 345 false [qa 6 0, qa 7 0, qi 120, qi 7200, qi 30],
  .row 458 false [qi 64, qz],
  .row 291 false [qi 32, qz, qa 9 0],
  .row 350 false [qa 6 0, qi 0, qo 20 0 10 0],
  .row 60 false [qb 192, qb 168, qb 1, qb 1, qb 192, qb 168, qb 1, qb 0, qi 24, qb 2, qb 0, qb 0, qb 0, qb 0, qb 1, qb 2, qb 0, qb 0, qb 0, qb 0, qb 2, qb 192, qb 168, qb 1, qb 100, qb 192, qb 168, qb 1, qb 131, qi 3600, qb 9, qb 9, qb 9, qb 9, qi 120, qi 7200, qi 30, qi 40000, qz, qz, qb 0, qb 0, qb 0, qb 0, qb 0, qb 0, qb 0, qb 0, qb 0, qb 0, qb 0, qb 0, qb 0, qb 0, qb 0, qb 0, qb 0, qb 0, qb 0, qb 0, qb 0, qb 0, qb 0, qb 0, qb 0, qb 0, qb 0, qb 0, qb 0, qb 0, qb 0, qb 0, qb 203, qb 0, qb 113, qb 1, qt true, qi 0, qi 0, qi 0, qi 0, qi 0, qi 0, qb 0, qb 0, qb 0, qb 0, qb 0, qb 0, qb 0, qb 0, qz, qz, qt false, qi 0, qi 0, qi 0, qi 0, qi 0, qi 0, qb 0, qb 0, qb 0, qb 0, qb 0, qb 0, qb 0, qb 0, qz, qz, qi 0, qi 0, qz, qz, qz, qz, qz, qi 1, qi 0, qu 5, qi 0, qi 32768, qb 0, qb 0, qb 0, qb 0, qb 0, qb 0, qb 0, qb 0, qb 0, qb 0, qb 0, qb 0, qb 0, qb 0, qb 0, qb 0, qb 2, qb 0, qb 0, qb 0, qb 0, qb 2, qo 18 0 4 0, qt false],
  .row 64 false [qa 0 0, qa 12 0],
  .row 5 true [qb 3],
  .row 5 true [qb 203, qb 0, qb 113, qb 1],
  .row 5 true [qb 203, qb 0, qb 113, qb 254],
  .row 5 true [qb 1, qb 3, qb 6],
  .row 193 true [qi 53, qo 14 0 1 0, qi 50, qo 15 0 4 0, qi 54, qo 16 0 4 0, qi 55, qo 17 0 3 0],
  .row 303 false [qi 600, qi 0, qz],
  .row 2 true [qi 1, qi 2, qi 4, qi 8, qi 16, qi 32, qi 64, qi 128, qi 256, qi 512]]
def UpS7 : List Nat := [0, 1, 2, 3, 4, 5, 6, 7, 8, 9, 10, 11, 12, 13, 14, 15, 16, 17, 18, 19, 20]
noncomputable def UpF7 : List Value := [qp, qa 13 0, qt false, qi 0, qv]
noncomputable def UpH7 : List LB := [.row 107 false [qb 192, qb 168, qb 1, qb 1, qb 192, qb 168, qb 1, qb 0, qi 24, qb 2, qb 0, qb 0, qb 0, qb 0, qb 1, qb 2, qb 0, qb 0, qb 0, qb 0, qb 2, qb 192, qb 168, qb 1, qb 100, qb 192, qb 168, qb 1, qb 131, qi 3600, qb 9, qb 9, qb 9, qb 9, qi 120, qi 7200, qi 30, qi 40000, qz, qz, qi 1, qu 5, qa 1 0, qa 19 0, qa 4 0, qa 5 0, qa 6 0, qa 8 0, qa 10 0, qa 11 0, qz],
  .row 303 false [qi 600, qi 1, qz],
  .map0,
  .row 405 false [qu 3232235876, qu 3232235907, qz, qz, qM 2, qi 1],
  .row 266 false [qb 192, qb 168, qb 1, qb 1, qb 192, qb 168, qb 1, qb 0, qi 24, qb 2, qb 0, qb 0, qb 0, qb 0, qb 1, qb 2, qb 0, qb 0, qb 0, qb 0, qb 2, qb 192, qb 168, qb 1, qb 100, qb 192, qb 168, qb 1, qb 131, qi 3600, qb 9, qb 9, qb 9, qb 9, qi 120, qi 7200, qi 30, qi 40000, qz, qz, qa 3 0],
  .row 277 false [qb 2, qb 0, qb 0, qb 0, qb 0, qb 2, qi 3, qi 1, qu 5, qb 203, qb 0, qb 113, qb 1, qb 255, qb 255, qb 255, qb 0, qb 203, qb 0, qb 113, qb 254, qb 203, qb 0, qb 113, qb 254, qi 3001, qi 1, qb 203, qb 0, qb 113, qb 1, qb 203, qb 0, qb 113, qb 254, qi 1, qi 4, qi 1],
  .row 336 false [qi 40000, qi 128, qi 1, qz],
  .row 455 false [qi 128, qz],
  .row 345 false [qa 6 0, qa 7 0, qi 120, qi 7200, qi 30],
  .row 458 false [qi 64, qz],
  .row 291 false [qi 32, qz, qa 9 0],
  .row 350 false [qa 6 0, qi 0, qo 20 0 10 0],
  .row 60 false [qb 192, qb 168, qb 1, qb 1, qb 192, qb 168, qb 1, qb 0, qi 24, qb 2, qb 0, qb 0, qb 0, qb 0, qb 1, qb 2, qb 0, qb 0, qb 0, qb 0, qb 2, qb 192, qb 168, qb 1, qb 100, qb 192, qb 168, qb 1, qb 131, qi 3600, qb 9, qb 9, qb 9, qb 9, qi 120, qi 7200, qi 30, qi 40000, qz, qz, qb 0, qb 0, qb 0, qb 0, qb 0, qb 0, qb 0, qb 0, qb 0, qb 0, qb 0, qb 0, qb 0, qb 0, qb 0, qb 0, qb 0, qb 0, qb 0, qb 0, qb 0, qb 0, qb 0, qb 0, qb 0, qb 0, qb 0, qb 0, qb 0, qb 0, qb 0, qb 0, qb 203, qb 0, qb 113, qb 1, qt true, qi 0, qi 0, qi 0, qi 0, qi 0, qi 0, qb 0, qb 0, qb 0, qb 0, qb 0, qb 0, qb 0, qb 0, qz, qz, qt false, qi 0, qi 0, qi 0, qi 0, qi 0, qi 0, qb 0, qb 0, qb 0, qb 0, qb 0, qb 0, qb 0, qb 0, qz, qz, qi 0, qi 0, qz, qz, qz, qz, qz, qi 1, qi 0, qu 5, qi 0, qi 32768, qb 0, qb 0, qb 0, qb 0, qb 0, qb 0, qb 0, qb 0, qb 0, qb 0, qb 0, qb 0, qb 0, qb 0, qb 0, qb 0, qb 2, qb 0, qb 0, qb 0, qb 0, qb 2, qo 18 0 4 0, qt false],
  .row 64 false [qa 0 0, qa 12 0],
  .row 5 true [qb 3],
  .row 5 true [qb 203, qb 0, qb 113, qb 1],
  .row 5 true [qb 203, qb 0, qb 113, qb 254],
  .row 5 true [qb 1, qb 3, qb 6],
  .row 193 true [qi 53, qo 14 0 1 0, qi 50, qo 15 0 4 0, qi 54, qo 16 0 4 0, qi 55, qo 17 0 3 0],
  .row 303 false [qi 600, qi 0, qz],
  .row 2 true [qi 1, qi 2, qi 4, qi 8, qi 16, qi 32, qi 64, qi 128, qi 256, qi 512]]
def UpS8 : List Nat := [0, 1, 2, 3, 4, 5, 6, 7, 8, 9, 10, 11, 12, 13, 14, 15, 16, 17, 18, 19, 20, 1207]
noncomputable def UpF8 : List Value := [qp, qa 13 0, qt false, qi 1, qt true]
noncomputable def UpH8 : List LB := [.row 107 false [qb 192, qb 168, qb 1, qb 1, qb 192, qb 168, qb 1, qb 0, qi 24, qb 2, qb 0, qb 0, qb 0, qb 0, qb 1, qb 2, qb 0, qb 0, qb 0, qb 0, qb 2, qb 192, qb 168, qb 1, qb 100, qb 192, qb 168, qb 1, qb 131, qi 3600, qb 9, qb 9, qb 9, qb 9, qi 120, qi 7200, qi 30, qi 40000, qz, qz, qi 1, qu 5, qa 1 0, qa 19 0, qa 4 0, qa 5 0, qa 6 0, qa 8 0, qa 10 0, qa 11 0, qz],
  .row 303 false [qi 600, qi 1, qz],
  .map0,
  .row 405 false [qu 3232235876, qu 3232235907, qz, qo 21 0 1 0, qM 2, qi 1],
  .row 266 false [qb 192, qb 168, qb 1, qb 1, qb 192, qb 168, qb 1, qb 0, qi 24, qb 2, qb 0, qb 0, qb 0, qb 0, qb 1, qb 2, qb 0, qb 0, qb 0, qb 0, qb 2, qb 192, qb 168, qb 1, qb 100, qb 192, qb 168, qb 1, qb 131, qi 3600, qb 9, qb 9, qb 9, qb 9, qi 120, qi 7200, qi 30, qi 40000, qz, qz, qa 3 0],
  .row 277 false [qb 2, qb 0, qb 0, qb 0, qb 0, qb 2, qi 3, qi 1, qu 5, qb 203, qb 0, qb 113, qb 1, qb 255, qb 255, qb 255, qb 0, qb 203, qb 0, qb 113, qb 254, qb 203, qb 0, qb 113, qb 254, qi 3001, qi 1, qb 203, qb 0, qb 113, qb 1, qb 203, qb 0, qb 113, qb 254, qi 1, qi 4, qi 1],
  .row 336 false [qi 40000, qi 128, qi 1, qz],
  .row 455 false [qi 128, qz],
  .row 345 false [qa 6 0, qa 7 0, qi 120, qi 7200, qi 30],
  .row 458 false [qi 64, qz],
  .row 291 false [qi 32, qz, qa 9 0],
  .row 350 false [qa 6 0, qi 0, qo 20 0 10 0],
  .row 60 false [qb 192, qb 168, qb 1, qb 1, qb 192, qb 168, qb 1, qb 0, qi 24, qb 2, qb 0, qb 0, qb 0, qb 0, qb 1, qb 2, qb 0, qb 0, qb 0, qb 0, qb 2, qb 192, qb 168, qb 1, qb 100, qb 192, qb 168, qb 1, qb 131, qi 3600, qb 9, qb 9, qb 9, qb 9, qi 120, qi 7200, qi 30, qi 40000, qz, qz, qb 192, qb 168, qb 1, qb 100, qb 0, qb 0, qb 0, qb 0, qb 0, qb 0, qb 0, qb 0, qb 0, qb 0, qb 0, qb 0, qb 0, qb 0, qb 0, qb 0, qb 0, qb 0, qb 0, qb 0, qb 0, qb 0, qb 0, qb 0, qb 0, qb 0, qb 0, qb 0, qb 203, qb 0, qb 113, qb 1, qt true, qi 0, qi 0, qi 0, qi 0, qi 0, qi 0, qb 0, qb 0, qb 0, qb 0, qb 0, qb 0, qb 0, qb 0, qz, qz, qt false, qi 0, qi 0, qi 0, qi 0, qi 0, qi 0, qb 0, qb 0, qb 0, qb 0, qb 0, qb 0, qb 0, qb 0, qz, qz, qi 0, qi 0, qz, qz, qz, qz, qz, qi 1, qi 0, qu 5, qi 0, qi 32768, qb 0, qb 0, qb 0, qb 0, qb 0, qb 0, qb 0, qb 0, qb 0, qb 0, qb 0, qb 0, qb 0, qb 0, qb 0, qb 0, qb 2, qb 0, qb 0, qb 0, qb 0, qb 2, qo 18 0 4 0, qt false],
  .row 64 false [qa 0 0, qa 12 0],
  .row 5 true [qb 3],
  .row 5 true [qb 203, qb 0, qb 113, qb 1],
  .row 5 true [qb 203, qb 0, qb 113, qb 254],
  .row 5 true [qb 1, qb 3, qb 6],
  .row 193 true [qi 53, qo 14 0 1 0, qi 50, qo 15 0 4 0, qi 54, qo 16 0 4 0, qi 55, qo 17 0 3 0],
  .row 303 false [qi 600, qi 0, qz],
  .row 2 true [qi 1, qi 2, qi 4, qi 8, qi 16, qi 32, qi 64, qi 128, qi 256, qi 512],
  .row 408 true [qb 2, qb 1, qb 0, qb 0, qb 0, qb 0, qb 192, qb 168, qb 1, qb 100, qi 3601, qt false]]
def UpS9 : List Nat := [0, 1, 2, 3, 4, 5, 6, 7, 8, 9, 10, 11, 12, 13, 14, 15, 16, 17, 18, 19, 20, 1271]
noncomputable def UpF9 : List Value := [qp, qa 13 0, qt false, qi 2, qt true]
noncomputable def UpH9 : List LB := [.row 107 false [qb 192, qb 168, qb 1, qb 1, qb 192, qb 168, qb 1, qb 0, qi 24, qb 2, qb 0, qb 0, qb 0, qb 0, qb 1, qb 2, qb 0, qb 0, qb 0, qb 0, qb 2, qb 192, qb 168, qb 1, qb 100, qb 192, qb 168, qb 1, qb 131, qi 3600, qb 9, qb 9, qb 9, qb 9, qi 120, qi 7200, qi 30, qi 40000, qz, qz, qi 1, qu 5, qa 1 0, qa 19 0, qa 4 0, qa 5 0, qa 6 0, qa 8 0, qa 10 0, qa 11 0, qz],
  .row 303 false [qi 600, qi 1, qz],
  .map0,
  .row 405 false [qu 3232235876, qu 3232235907, qz, qo 21 0 2 0, qM 2, qi 1],
  .row 266 false [qb 192, qb 168, qb 1, qb 1, qb 192, qb 168, qb 1, qb 0, qi 24, qb 2, qb 0, qb 0, qb 0, qb 0, qb 1, qb 2, qb 0, qb 0, qb 0, qb 0, qb 2, qb 192, qb 168, qb 1, qb 100, qb 192, qb 168, qb 1, qb 131, qi 3600, qb 9, qb 9, qb 9, qb 9, qi 120, qi 7200, qi 30, qi 40000, qz, qz, qa 3 0],
  .row 277 false [qb 2, qb 0, qb 0, qb 0, qb 0, qb 2, qi 3, qi 1, qu 5, qb 203, qb 0, qb 113, qb 1, qb 255, qb 255, qb 255, qb 0, qb 203, qb 0, qb 113, qb 254, qb 203, qb 0, qb 113, qb 254, qi 3001, qi 1, qb 203, qb 0, qb 113, qb 1, qb 203, qb 0, qb 113, qb 254, qi 1, qi 4, qi 1],
  .row 336 false [qi 40000, qi 128, qi 1, qz],
  .row 455 false [qi 128, qz],
  .row 345 false [qa 6 0, qa 7 0, qi 120, qi 7200, qi 30],
  .row 458 false [qi 64, qz],
  .row 291 false [qi 32, qz, qa 9 0],
  .row 350 false [qa 6 0, qi 0, qo 20 0 10 0],
  .row 60 false [qb 192, qb 168, qb 1, qb 1, qb 192, qb 168, qb 1, qb 0, qi 24, qb 2, qb 0, qb 0, qb 0, qb 0, qb 1, qb 2, qb 0, qb 0, qb 0, qb 0, qb 2, qb 192, qb 168, qb 1, qb 100, qb 192, qb 168, qb 1, qb 131, qi 3600, qb 9, qb 9, qb 9, qb 9, qi 120, qi 7200, qi 30, qi 40000, qz, qz, qb 192, qb 168, qb 1, qb 100, qb 192, qb 168, qb 1, qb 101, qb 0, qb 0, qb 0, qb 0, qb 0, qb 0, qb 0, qb 0, qb 0, qb 0, qb 0, qb 0, qb 0, qb 0, qb 0, qb 0, qb 0, qb 0, qb 0, qb 0, qb 0, qb 0, qb 0, qb 0, qb 203, qb 0, qb 113, qb 1, qt true, qi 0, qi 0, qi 0, qi 0, qi 0, qi 0, qb 0, qb 0, qb 0, qb 0, qb 0, qb 0, qb 0, qb 0, qz, qz, qt false, qi 0, qi 0, qi 0, qi 0, qi 0, qi 0, qb 0, qb 0, qb 0, qb 0, qb 0, qb 0, qb 0, qb 0, qz, qz, qi 0, qi 0, qz, qz, qz, qz, qz, qi 1, qi 0, qu 5, qi 0, qi 32768, qb 0, qb 0, qb 0, qb 0, qb 0, qb 0, qb 0, qb 0, qb 0, qb 0, qb 0, qb 0, qb 0, qb 0, qb 0, qb 0, qb 2, qb 0, qb 0, qb 0, qb 0, qb 2, qo 18 0 4 0, qt false],
  .row 64 false [qa 0 0, qa 12 0],
  .row 5 true [qb 3],
  .row 5 true [qb 203, qb 0, qb 113, qb 1],
  .row 5 true [qb 203, qb 0, qb 113, qb 254],
  .row 5 true [qb 1, qb 3, qb 6],
  .row 193 true [qi 53, qo 14 0 1 0, qi 50, qo 15 0 4 0, qi 54, qo 16 0 4 0, qi 55, qo 17 0 3 0],
  .row 303 false [qi 600, qi 0, qz],
  .row 2 true [qi 1, qi 2, qi 4, qi 8, qi 16, qi 32, qi 64, qi 128, qi 256, qi 512],
  .row 408 true [qb 2, qb 1, qb 0, qb 0, qb 0, qb 0, qb 192, qb 168, qb 1, qb 100, qi 3601, qt false, qb 2, qb 1, qb 0, qb 0, qb 0, qb 1, qb 192, qb 168, qb 1, qb 101, qi 3601, qt false]]
def UpS10 : List Nat := [0, 1, 2, 3, 4, 5, 6, 7, 8, 9, 10, 11, 12, 13, 14, 15, 16, 17, 18, 19, 20, 1331]
noncomputable def UpF10 : List Value := [qp, qa 13 0, qt false, qi 3, qt true]
noncomputable def UpH10 : List LB := [.row 107 false [qb 192, qb 168, qb 1, qb 1, qb 192, qb 168, qb 1, qb 0, qi 24, qb 2, qb 0, qb 0, qb 0, qb 0, qb 1, qb 2, qb 0, qb 0, qb 0, qb 0, qb 2, qb 192, qb 168, qb 1, qb 100, qb 192, qb 168, qb 1, qb 131, qi 3600, qb 9, qb 9, qb 9, qb 9, qi 120, qi 7200, qi 30, qi 40000, qz, qz, qi 1, qu 5, qa 1 0, qa 19 0, qa 4 0, qa 5 0, qa 6 0, qa 8 0, qa 10 0, qa 11 0, qz],
  .row 303 false [qi 600, qi 1, qz],
  .map0,
  .row 405 false [qu 3232235876, qu 3232235907, qz, qo 21 0 3 0, qM 2, qi 1],
  .row 266 false [qb 192, qb 168, qb 1, qb 1, qb 192, qb 168, qb 1, qb 0, qi 24, qb 2, qb 0, qb 0, qb 0, qb 0, qb 1, qb 2, qb 0, qb 0, qb 0, qb 0, qb 2, qb 192, qb 168, qb 1, qb 100, qb 192, qb 168, qb 1, qb 131, qi 3600, qb 9, qb 9, qb 9, qb 9, qi 120, qi 7200, qi 30, qi 40000, qz, qz, qa 3 0],
  .row 277 false [qb 2, qb 0, qb 0, qb 0, qb 0, qb 2, qi 3, qi 1, qu 5, qb 203, qb 0, qb 113, qb 1, qb 255, qb 255, qb 255, qb 0, qb 203, qb 0, qb 113, qb 254, qb 203, qb 0, qb 113, qb 254, qi 3001, qi 1, qb 203, qb 0, qb 113, qb 1, qb 203, qb 0, qb 113, qb 254, qi 1, qi 4, qi 1],
  .row 336 false [qi 40000, qi 128, qi 1, qz],
  .row 455 false [qi 128, qz],
  .row 345 false [qa 6 0, qa 7 0, qi 120, qi 7200, qi 30],
  .row 458 false [qi 64, qz],
  .row 291 false [qi 32, qz, qa 9 0],
  .row 350 false [qa 6 0, qi 0, qo 20 0 10 0],
  .row 60 false [qb 192, qb 168, qb 1, qb 1, qb 192, qb 168, qb 1, qb 0, qi 24, qb 2, qb 0, qb 0, qb 0, qb 0, qb 1, qb 2, qb 0, qb 0, qb 0, qb 0, qb 2, qb 192, qb 168, qb 1, qb 100, qb 192, qb 168, qb 1, qb 131, qi 3600, qb 9, qb 9, qb 9, qb 9, qi 120, qi 7200, qi 30, qi 40000, qz, qz, qb 192, qb 168, qb 1, qb 100, qb 192, qb 168, qb 1, qb 101, qb 192, qb 168, qb 1, qb 102, qb 0, qb 0, qb 0, qb 0, qb 0, qb 0, qb 0, qb 0, qb 0, qb 0, qb 0, qb 0, qb 0, qb 0, qb 0, qb 0, qb 0, qb 0, qb 0, qb 0, qb 203, qb 0, qb 113, qb 1, qt true, qi 0, qi 0, qi 0, qi 0, qi 0, qi 0, qb 0, qb 0, qb 0, qb 0, qb 0, qb 0, qb 0, qb 0, qz, qz, qt false, qi 0, qi 0, qi 0, qi 0, qi 0, qi 0, qb 0, qb 0, qb 0, qb 0, qb 0, qb 0, qb 0, qb 0, qz, qz, qi 0, qi 0, qz, qz, qz, qz, qz, qi 1, qi 0, qu 5, qi 0, qi 32768, qb 0, qb 0, qb 0, qb 0, qb 0, qb 0, qb 0, qb 0, qb 0, qb 0, qb 0, qb 0, qb 0, qb 0, qb 0, qb 0, qb 2, qb 0, qb 0, qb 0, qb 0, qb 2, qo 18 0 4 0, qt false],
  .row 64 false [qa 0 0, qa 12 0],
  .row 5 true [qb 3],
  .row 5 true [qb 203, qb 0, qb 113, qb 1],
  .row 5 true [qb 203, qb 0, qb 113, qb 254],
  .row 5 true [qb 1, qb 3, qb 6],
  .row 193 true [qi 53, qo 14 0 1 0, qi 50, qo 15 0 4 0, qi 54, qo 16 0 4 0, qi 55, qo 17 0 3 0],
  .row 303 false [qi 600, qi 0, qz],
  .row 2 true [qi 1, qi 2, qi 4, qi 8, qi 16, qi 32, qi 64, qi 128, qi 256, qi 512],
  .row 408 true [qb 2, qb 1, qb 0, qb 0, qb 0, qb 0, qb 192, qb 168, qb 1, qb 100, qi 3601, qt false, qb 2, qb 1, qb 0, qb 0, qb 0, qb 1, qb 192, qb 168, qb 1, qb 101, qi 3601, qt false, qb 2, qb 1, qb 0, qb 0, qb 0, qb 2, qb 192, qb 168, qb 1, qb 102, qi 3601, qt false]]
def UpS11 : List Nat := [0, 1, 2, 3, 4, 5, 6, 7, 8, 9, 10, 11, 12, 13, 14, 15, 16, 17, 18, 19, 20, 21]
noncomputable def UpF11 : List Value := [qp, qa 13 0, qt false, qi 3, qt false]
noncomputable def UpH11 : List LB := [.row 107 false [qb 192, qb 168, qb 1, qb 1, qb 192, qb 168, qb 1, qb 0, qi 24, qb 2, qb 0, qb 0, qb 0, qb 0, qb 1, qb 2, qb 0, qb 0, qb 0, qb 0, qb 2, qb 192, qb 168, qb 1, qb 100, qb 192, qb 168, qb 1, qb 131, qi 3600, qb 9, qb 9, qb 9, qb 9, qi 120, qi 7200, qi 30, qi 40000, qz, qz, qi 1, qu 5, qa 1 0, qa 19 0, qa 4 0, qa 5 0, qa 6 0, qa 8 0, qa 10 0, qa 11 0, qz],
  .row 303 false [qi 600, qi 1, qz],
  .map0,
  .row 405 false [qu 3232235876, qu 3232235907, qz, qo 21 0 3 0, qM 2, qi 1],
  .row 266 false [qb 192, qb 168, qb 1, qb 1, qb 192, qb 168, qb 1, qb 0, qi 24, qb 2, qb 0, qb 0, qb 0, qb 0, qb 1, qb 2, qb 0, qb 0, qb 0, qb 0, qb 2, qb 192, qb 168, qb 1, qb 100, qb 192, qb 168, qb 1, qb 131, qi 3600, qb 9, qb 9, qb 9, qb 9, qi 120, qi 7200, qi 30, qi 40000, qz, qz, qa 3 0],
  .row 277 false [qb 2, qb 0, qb 0, qb 0, qb 0, qb 2, qi 3, qi 1, qu 5, qb 203, qb 0, qb 113, qb 1, qb 255, qb 255, qb 255, qb 0, qb 203, qb 0, qb 113, qb 254, qb 203, qb 0, qb 113, qb 254, qi 3001, qi 1, qb 203, qb 0, qb 113, qb 1, qb 203, qb 0, qb 113, qb 254, qi 1, qi 4, qi 1],
  .row 336 false [qi 40000, qi 128, qi 1, qz],
  .row 455 false [qi 128, qz],
  .row 345 false [qa 6 0, qa 7 0, qi 120, qi 7200, qi 30],
  .row 458 false [qi 64, qz],
  .row 291 false [qi 32, qz, qa 9 0],
  .row 350 false [qa 6 0, qi 0, qo 20 0 10 0],
  .row 60 false [qb 192, qb 168, qb 1, qb 1, qb 192, qb 168, qb 1, qb 0, qi 24, qb 2, qb 0, qb 0, qb 0, qb 0, qb 1, qb 2, qb 0, qb 0, qb 0, qb 0, qb 2, qb 192, qb 168, qb 1, qb 100, qb 192, qb 168, qb 1, qb 131, qi 3600, qb 9, qb 9, qb 9, qb 9, qi 120, qi 7200, qi 30, qi 40000, qz, qz, qb 192, qb 168, qb 1, qb 100, qb 192, qb 168, qb 1, qb 101, qb 192, qb 168, qb 1, qb 102, qb 0, qb 0, qb 0, qb 0, qb 0, qb 0, qb 0, qb 0, qb 0, qb 0, qb 0, qb 0, qb 0, qb 0, qb 0, qb 0, qb 0, qb 0, qb 0, qb 0, qb 203, qb 0, qb 113, qb 1, qt true, qi 0, qi 0, qi 0, qi 0, qi 0, qi 0, qb 0, qb 0, qb 0, qb 0, qb 0, qb 0, qb 0, qb 0, qz, qz, qt false, qi 0, qi 0, qi 0, qi 0, qi 0, qi 0, qb 0, qb 0, qb 0, qb 0, qb 0, qb 0, qb 0, qb 0, qz, qz, qi 0, qi 0, qz, qz, qz, qz, qz, qi 1, qi 0, qu 5, qi 0, qi 32768, qb 0, qb 0, qb 0, qb 0, qb 0, qb 0, qb 0, qb 0, qb 0, qb 0, qb 0, qb 0, qb 0, qb 0, qb 0, qb 0, qb 2, qb 0, qb 0, qb 0, qb 0, qb 2, qo 18 0 4 0, qt false],
  .row 64 false [qa 0 0, qa 12 0],
  .row 5 true [qb 3],
  .row 5 true [qb 203, qb 0, qb 113, qb 1],
  .row 5 true [qb 203, qb 0, qb 113, qb 254],
  .row 5 true [qb 1, qb 3, qb 6],
  .row 193 true [qi 53, qo 14 0 1 0, qi 50, qo 15 0 4 0, qi 54, qo 16 0 4 0, qi 55, qo 17 0 3 0],
  .row 303 false [qi 600, qi 0, qz],
  .row 2 true [qi 1, qi 2, qi 4, qi 8, qi 16, qi 32, qi 64, qi 128, qi 256, qi 512],
  .row 408 true [qb 2, qb 1, qb 0, qb 0, qb 0, qb 0, qb 192, qb 168, qb 1, qb 100, qi 3601, qt false, qb 2, qb 1, qb 0, qb 0, qb 0, qb 1, qb 192, qb 168, qb 1, qb 101, qi 3601, qt false, qb 2, qb 1, qb 0, qb 0, qb 0, qb 2, qb 192, qb 168, qb 1, qb 102, qi 3601, qt false]]
def UpS12 : List Nat := [0, 1, 2, 3, 4, 5, 6, 7, 8, 9, 10, 11, 12, 13, 14, 15, 16, 17, 18, 19, 20, 21]
noncomputable def UpF12 : List Value := [qa 13 0, qa 13 0, qt false, qi 3, qt false]
noncomputable def UpH12 : List LB := [.row 107 false [qb 192, qb 168, qb 1, qb 1, qb 192, qb 168, qb 1, qb 0, qi 24, qb 2, qb 0, qb 0, qb 0, qb 0, qb 1, qb 2, qb 0, qb 0, qb 0, qb 0, qb 2, qb 192, qb 168, qb 1, qb 100, qb 192, qb 168, qb 1, qb 131, qi 3600, qb 9, qb 9, qb 9, qb 9, qi 120, qi 7200, qi 30, qi 40000, qz, qz, qi 1, qu 5, qa 1 0, qa 19 0, qa 4 0, qa 5 0, qa 6 0, qa 8 0, qa 10 0, qa 11 0, qz],
  .row 303 false [qi 600, qi 1, qz],
  .map0,
  .row 405 false [qu 3232235876, qu 3232235907, qz, qo 21 0 3 0, qM 2, qi 1],
  .row 266 false [qb 192, qb 168, qb 1, qb 1, qb 192, qb 168, qb 1, qb 0, qi 24, qb 2, qb 0, qb 0, qb 0, qb 0, qb 1, qb 2, qb 0, qb 0, qb 0, qb 0, qb 2, qb 192, qb 168, qb 1, qb 100, qb 192, qb 168, qb 1, qb 131, qi 3600, qb 9, qb 9, qb 9, qb 9, qi 120, qi 7200, qi 30, qi 40000, qz, qz, qa 3 0],
  .row 277 false [qb 2, qb 0, qb 0, qb 0, qb 0, qb 2, qi 3, qi 1, qu 5, qb 203, qb 0, qb 113, qb 1, qb 255, qb 255, qb 255, qb 0, qb 203, qb 0, qb 113, qb 254, qb 203, qb 0, qb 113, qb 254, qi 3001, qi 1, qb 203, qb 0, qb 113, qb 1, qb 203, qb 0, qb 113, qb 254, qi 1, qi 4, qi 1],
  .row 336 false [qi 40000, qi 128, qi 1, qz],
  .row 455 false [qi 128, qz],
  .row 345 false [qa 6 0, qa 7 0, qi 120, qi 7200, qi 30],
  .row 458 false [qi 64, qz],
  .row 291 false [qi 32, qz, qa 9 0],
  .row 350 false [qa 6 0, qi 0, qo 20 0 10 0],
  .row 60 false [qb 192, qb 168, qb 1, qb 1, qb 192, qb 168, qb 1, qb 0, qi 24, qb 2, qb 0, qb 0, qb 0, qb 0, qb 1, qb 2, qb 0, qb 0, qb 0, qb 0, qb 2, qb 192, qb 168, qb 1, qb 100, qb 192, qb 168, qb 1, qb 131, qi 3600, qb 9, qb 9, qb 9, qb 9, qi 120, qi 7200, qi 30, qi 40000, qz, qz, qb 192, qb 168, qb 1, qb 100, qb 192, qb 168, qb 1, qb 101, qb 192, qb 168, qb 1, qb 102, qb 0, qb 0, qb 0, qb 0, qb 0, qb 0, qb 0, qb 0, qb 0, qb 0, qb 0, qb 0, qb 0, qb 0, qb 0, qb 0, qb 0, qb 0, qb 0, qb 0, qb 203, qb 0, qb 113, qb 1, qt true, qi 0, qi 0, qi 0, qi 0, qi 0, qi 0, qb 0, qb 0, qb 0, qb 0, qb 0, qb 0, qb 0, qb 0, qz, qz, qt false, qi 0, qi 0, qi 0, qi 0, qi 0, qi 0, qb 0, qb 0, qb 0, qb 0, qb 0, qb 0, qb 0, qb 0, qz, qz, qi 0, qi 0, qz, qz, qz, qz, qz, qi 1, qi 0, qu 5, qi 0, qi 32768, qb 0, qb 0, qb 0, qb 0, qb 0, qb 0, qb 0, qb 0, qb 0, qb 0, qb 0, qb 0, qb 0, qb 0, qb 0, qb 0, qb 2, qb 0, qb 0, qb 0, qb 0, qb 2, qo 18 0 4 0, qt false],
  .row 64 false [qa 0 0, qa 12 0],
  .row 5 true [qb 3],
  .row 5 true [qb 203, qb 0, qb 113, qb 1],
  .row 5 true [qb 203, qb 0, qb 113, qb 254],
  .row 5 true [qb 1, qb 3, qb 6],
  .row 193 true [qi 53, qo 14 0 1 0, qi 50, qo 15 0 4 0, qi 54, qo 16 0 4 0, qi 55, qo 17 0 3 0],
  .row 303 false [qi 600, qi 0, qz],
  .row 2 true [qi 1, qi 2, qi 4, qi 8, qi 16, qi 32, qi 64, qi 128, qi 256, qi 512],
  .row 408 true [qb 2, qb 1, qb 0, qb 0, qb 0, qb 0, qb 192, qb 168, qb 1, qb 100, qi 3601, qt false, qb 2, qb 1, qb 0, qb 0, qb 0, qb 1, qb 192, qb 168, qb 1, qb 101, qi 3601, qt false, qb 2, qb 1, qb 0, qb 0, qb 0, qb 2, qb 192, qb 168, qb 1, qb 102, qi 3601, qt false]]
def UpS13 : List Nat := [0, 1, 2, 3, 4, 5, 6, 7, 8, 9, 10, 11, 12, 13, 14, 15, 16, 17, 18, 19, 20, 21]
noncomputable def UpF13 : List Value := [qa 13 0, qa 13 0, qt false, qi 3, qt false]
noncomputable def UpH13 : List LB := [.row 107 false [qb 192, qb 168, qb 1, qb 1, qb 192, qb 168, qb 1, qb 0, qi 24, qb 2, qb 0, qb 0, qb 0, qb 0, qb 1, qb 2, qb 0, qb 0, qb 0, qb 0, qb 2, qb 192, qb 168, qb 1, qb 100, qb 192, qb 168, qb 1, qb 131, qi 3600, qb 9, qb 9, qb 9, qb 9, qi 120, qi 7200, qi 30, qi 40000, qz, qz, qi 1, qu 5, qa 1 0, qa 19 0, qa 4 0, qa 5 0, qa 6 0, qa 8 0, qa 10 0, qa 11 0, qz],
  .row 303 false [qi 600, qi 1, qz],
  .map0,
  .row 405 false [qu 3232235876, qu 3232235907, qz, qo 21 0 3 0, qM 2, qi 1],
  .row 266 false [qb 192, qb 168, qb 1, qb 1, qb 192, qb 168, qb 1, qb 0, qi 24, qb 2, qb 0, qb 0, qb 0, qb 0, qb 1, qb 2, qb 0, qb 0, qb 0, qb 0, qb 2, qb 192, qb 168, qb 1, qb 100, qb 192, qb 168, qb 1, qb 131, qi 3600, qb 9, qb 9, qb 9, qb 9, qi 120, qi 7200, qi 30, qi 40000, qz, qz, qa 3 0],
  .row 277 false [qb 2, qb 0, qb 0, qb 0, qb 0, qb 2, qi 3, qi 1, qu 5, qb 203, qb 0, qb 113, qb 1, qb 255, qb 255, qb 255, qb 0, qb 203, qb 0, qb 113, qb 254, qb 203, qb 0, qb 113, qb 254, qi 3001, qi 1, qb 203, qb 0, qb 113, qb 1, qb 203, qb 0, qb 113, qb 254, qi 1, qi 4, qi 1],
  .row 336 false [qi 40000, qi 128, qi 1, qz],
  .row 455 false [qi 128, qz],
  .row 345 false [qa 6 0, qa 7 0, qi 120, qi 7200, qi 30],
  .row 458 false [qi 64, qz],
  .row 291 false [qi 32, qz, qa 9 0],
  .row 350 false [qa 6 0, qi 0, qo 20 0 10 0],
  .row 60 false [qb 192, qb 168, qb 1, qb 1, qb 192, qb 168, qb 1, qb 0, qi 24, qb 2, qb 0, qb 0, qb 0, qb 0, qb 1, qb 2, qb 0, qb 0, qb 0, qb 0, qb 2, qb 192, qb 168, qb 1, qb 100, qb 192, qb 168, qb 1, qb 131, qi 3600, qb 9, qb 9, qb 9, qb 9, qi 120, qi 7200, qi 30, qi 40000, qz, qz, qb 192, qb 168, qb 1, qb 100, qb 192, qb 168, qb 1, qb 101, qb 192, qb 168, qb 1, qb 102, qb 0, qb 0, qb 0, qb 0, qb 0, qb 0, qb 0, qb 0, qb 0, qb 0, qb 0, qb 0, qb 0, qb 0, qb 0, qb 0, qb 0, qb 0, qb 0, qb 0, qb 203, qb 0, qb 113, qb 1, qt true, qi 0, qi 0, qi 0, qi 0, qi 0, qi 0, qb 0, qb 0, qb 0, qb 0, qb 0, qb 0, qb 0, qb 0, qz, qz, qt false, qi 0, qi 0, qi 0, qi 0, qi 0, qi 0, qb 0, qb 0, qb 0, qb 0, qb 0, qb 0, qb 0, qb 0, qz, qz, qi 0, qi 0, qz, qz, qz, qz, qz, qi 1, qi 0, qu 5, qi 0, qi 32768, qb 0, qb 0, qb 0, qb 0, qb 0, qb 0, qb 0, qb 0, qb 0, qb 0, qb 0, qb 0, qb 0, qb 0, qb 0, qb 0, qb 2, qb 0, qb 0, qb 0, qb 0, qb 2, qo 18 0 4 0, qt false],
  .row 64 false [qa 0 0, qa 12 0],
  .row 5 true [qb 3],
  .row 5 true [qb 203, qb 0, qb 113, qb 1],
  .row 5 true [qb 203, qb 0, qb 113, qb 254],
  .row 5 true [qb 1, qb 3, qb 6],
  .row 193 true [qi 53, qo 14 0 1 0, qi 50, qo 15 0 4 0, qi 54, qo 16 0 4 0, qi 55, qo 17 0 3 0],
  .row 303 false [qi 600, qi 0, qz],
  .row 2 true [qi 1, qi 2, qi 4, qi 8, qi 16, qi 32, qi 64, qi 128, qi 256, qi 512],
  .row 408 true [qb 2, qb 1, qb 0, qb 0, qb 0, qb 0, qb 192, qb 168, qb 1, qb 100, qi 3601, qt false, qb 2, qb 1, qb 0, qb 0, qb 0, qb 1, qb 192, qb 168, qb 1, qb 101, qi 3601, qt false, qb 2, qb 1, qb 0, qb 0, qb 0, qb 2, qb 192, qb 168, qb 1, qb 102, qi 3601, qt false]]
end Go.Proofs.YtccbdaffjkdpgaaGreatDoor.Vw
