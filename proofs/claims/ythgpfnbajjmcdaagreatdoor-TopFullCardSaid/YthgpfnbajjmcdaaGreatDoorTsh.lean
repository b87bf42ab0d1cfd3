/-
  The library's contracts at this program, laid by the kit's lay-shelf and lay-plain, named: strings.Split, strconv.FormatInt of small numbers, the Builder.
-/
import Derived.Shelf.Strings.OnBuilder
import Derived.Shelf.Strings.BuilderK
import Derived.Shelf.Strconv.Itoa4
import Derived.Shelf.Strings.Split
import Derived.Lib.SplitLaws
import Derived.Lib.IndexBytes
import Derived.Test.YthgpfnbajjmcdaaGreatDoorChecked
import Derived.Test.YthgpfnbajjmcdaaGreatDoorOctet6
import Derived.Test.YthgpfnbajjmcdaaGreatDoorKp2
import Derived.Test.YthgpfnbajjmcdaaGreatDoorTk
namespace Go.Proofs.YthgpfnbajjmcdaaGreatDoor
open Go.Shelf
def Tryz.lays169_ren : Go.Shelf.Ren := ⟨fun | 169 => 32 | n => n, fun | 70 => 115 | 9 => 9 | 0 => 0 | 72 => 117 | 37 => 28 | 127 => 248 | 3 => 3 | 5 => 5 | n => n, fun | n => n⟩
theorem Tryz.lays169 : Go.Proofs.Lays.n169 Tryz.prog Tryz.lays169_ren := {
  mixed := by kernel_rfl
  f169 := Tryz.func32.trans (congrArg some (by kernel_rfl))
  t0 := Tryz.underlying0
  a0 := Tryz.isAgg0
  z0 := Tryz.sizeOf0
  v0 := Tryz.zeroValue0
  t3 := Tryz.underlying3
  a3 := Tryz.isAgg3
  z3 := Tryz.sizeOf3
  v3 := Tryz.zeroValue3
  t9 := Tryz.underlying9
  a9 := Tryz.isAgg9
  z9 := Tryz.sizeOf9
  v9 := Tryz.zeroValue9
  t37 := Tryz.underlying28
  a37 := Tryz.isAgg28
  z37 := Tryz.sizeOf28
  v37 := Tryz.zeroValue28
  t70 := Tryz.underlying115
  a70 := Tryz.isAgg115
  z70 := Tryz.sizeOf115
  v70 := Tryz.zeroValue115
  t72 := Tryz.underlying117
  a72 := Tryz.isAgg117
  z72 := Tryz.sizeOf117
  v72 := Tryz.zeroValue117
  t127 := Tryz.underlying248
  a127 := Tryz.isAgg248
  z127 := Tryz.sizeOf248
  v127 := Tryz.zeroValue248 }
theorem Tryz.Builder_Extra_169 : Builder.Extra Tryz.prog Tryz.lays169_ren := {
  sizeBuilder := by kernel_rfl
  liesBuilder := by kernel_rfl
  t5 := Tryz.underlying5
  a5 := Tryz.isAgg5
  z5 := Tryz.sizeOf5
  v5 := Tryz.zeroValue5
  infoByte := by kernel_rfl
  cellsByte := by kernel_rfl
  sizeByte := by kernel_rfl
  neB5 := by decide }
def Tryz.lays173_ren : Go.Shelf.Ren := ⟨fun | 173 => 104 | 246 => 219 | 283 => 318 | 284 => 319 | 285 => 320 | 286 => 321 | 129 => 352 | 317 => 410 | 318 => 411 | 319 => 412 | 320 => 413 | 337 => 496 | 338 => 497 | n => n, fun | 2 => 2 | 3 => 3 | 9 => 9 | 4 => 4 | 171 => 485 | 0 => 0 | 53 => 280 | 37 => 28 | 5 => 5 | 173 => 488 | 212 => 566 | 51 => 27 | 20 => 20 | 213 => 567 | 46 => 206 | 232 => 690 | 233 => 691 | n => n, fun | 17 => 0 | 18 => 6 | 19 => 7 | n => n⟩
theorem Tryz.lays173 : Go.Proofs.Lays.n173 Tryz.prog Tryz.lays173_ren := {
  mixed := by kernel_rfl
  f129 := Tryz.func352.trans (congrArg some (by kernel_rfl))
  f173 := Tryz.func104.trans (congrArg some (by kernel_rfl))
  f246 := Tryz.func219.trans (congrArg some (by kernel_rfl))
  f283 := Tryz.func318.trans (congrArg some (by kernel_rfl))
  f284 := Tryz.func319.trans (congrArg some (by kernel_rfl))
  f285 := Tryz.func320.trans (congrArg some (by kernel_rfl))
  f286 := Tryz.func321.trans (congrArg some (by kernel_rfl))
  f317 := Tryz.func410.trans (congrArg some (by kernel_rfl))
  f318 := Tryz.func411.trans (congrArg some (by kernel_rfl))
  f319 := Tryz.func412.trans (congrArg some (by kernel_rfl))
  f320 := Tryz.func413.trans (congrArg some (by kernel_rfl))
  f337 := Tryz.func496.trans (congrArg some (by kernel_rfl))
  f338 := Tryz.func497.trans (congrArg some (by kernel_rfl))
  t0 := Tryz.underlying0
  a0 := Tryz.isAgg0
  z0 := Tryz.sizeOf0
  v0 := Tryz.zeroValue0
  t2 := Tryz.underlying2
  a2 := Tryz.isAgg2
  z2 := Tryz.sizeOf2
  v2 := Tryz.zeroValue2
  t3 := Tryz.underlying3
  a3 := Tryz.isAgg3
  z3 := Tryz.sizeOf3
  v3 := Tryz.zeroValue3
  t4 := Tryz.underlying4
  a4 := Tryz.isAgg4
  z4 := Tryz.sizeOf4
  v4 := Tryz.zeroValue4
  t5 := Tryz.underlying5
  a5 := Tryz.isAgg5
  z5 := Tryz.sizeOf5
  v5 := Tryz.zeroValue5
  t9 := Tryz.underlying9
  a9 := Tryz.isAgg9
  z9 := Tryz.sizeOf9
  v9 := Tryz.zeroValue9
  t20 := Tryz.underlying20
  a20 := Tryz.isAgg20
  z20 := Tryz.sizeOf20
  v20 := Tryz.zeroValue20
  t37 := Tryz.underlying28
  a37 := Tryz.isAgg28
  z37 := Tryz.sizeOf28
  v37 := Tryz.zeroValue28
  t46 := Tryz.underlying206
  a46 := Tryz.isAgg206
  z46 := Tryz.sizeOf206
  v46 := Tryz.zeroValue206
  t51 := Tryz.underlying27
  a51 := Tryz.isAgg27
  z51 := Tryz.sizeOf27
  v51 := Tryz.zeroValue27
  t53 := Tryz.underlying280
  a53 := Tryz.isAgg280
  z53 := Tryz.sizeOf280
  v53 := Tryz.zeroValue280
  t171 := Tryz.underlying485
  a171 := Tryz.isAgg485
  z171 := Tryz.sizeOf485
  v171 := Tryz.zeroValue485
  t173 := Tryz.underlying488
  a173 := Tryz.isAgg488
  z173 := Tryz.sizeOf488
  v173 := Tryz.zeroValue488
  t212 := Tryz.underlying566
  a212 := Tryz.isAgg566
  z212 := Tryz.sizeOf566
  v212 := Tryz.zeroValue566
  t213 := Tryz.underlying567
  a213 := Tryz.isAgg567
  z213 := Tryz.sizeOf567
  t232 := Tryz.underlying690
  a232 := Tryz.isAgg690
  z232 := Tryz.sizeOf690
  v232 := Tryz.zeroValue690
  t233 := Tryz.underlying691
  a233 := Tryz.isAgg691
  z233 := Tryz.sizeOf691
  v233 := Tryz.zeroValue691
  g17 := by kernel_rfl
  g18 := by kernel_rfl
  g19 := by kernel_rfl }
open Go.RowKit Go.Sort Go.Lib in
/-- THE ROAD WITHOUT THE TABLE: 0 <= i < 100. (LAID: no walk: one application.) -/
theorem Tryz.strconv_FormatInt_10_small (i : Nat) (hi : i < 100) (w : World) :
    Calls Tryz.prog 104 #[.int .i64 i, .int .i64 10] w fun e w' => e = .returned (.string ⟨(Lib.decDigits i).toArray⟩) ∧ w' = w := Any.strconv_FormatInt_10_small Tryz.lays173 i hi w
def Tryz.lays146_ren : Go.Shelf.Ren := ⟨fun | 146 => 99 | 221 => 214 | 268 => 312 | 138 => 313 | 143 => 314 | 195 => 396 | 197 => 397 | 218 => 398 | 219 => 399 | 260 => 484 | 217 => 409 | 225 => 485 | 224 => 486 | 267 => 487 | 266 => 495 | 314 => 552 | n => n, fun | 9 => 9 | 31 => 195 | 3 => 3 | 4 => 4 | 0 => 0 | 105 => 554 | 21 => 21 | 5 => 5 | 46 => 206 | 119 => 585 | 139 => 588 | 138 => 587 | 146 => 684 | 51 => 27 | n => n, fun | 1 => 3 | 3 => 1 | 4 => 2 | n => n⟩
theorem Tryz.lays146 : Go.Proofs.Lays.n146 Tryz.prog Tryz.lays146_ren := {
  mixed := by kernel_rfl
  f138 := Tryz.func313.trans (congrArg some (by kernel_rfl))
  f143 := Tryz.func314.trans (congrArg some (by kernel_rfl))
  f146 := Tryz.func99.trans (congrArg some (by kernel_rfl))
  f195 := Tryz.func396.trans (congrArg some (by kernel_rfl))
  f197 := Tryz.func397.trans (congrArg some (by kernel_rfl))
  f217 := Tryz.func409.trans (congrArg some (by kernel_rfl))
  f218 := Tryz.func398.trans (congrArg some (by kernel_rfl))
  f219 := Tryz.func399.trans (congrArg some (by kernel_rfl))
  f221 := Tryz.func214.trans (congrArg some (by kernel_rfl))
  f224 := Tryz.func486.trans (congrArg some (by kernel_rfl))
  f225 := Tryz.func485.trans (congrArg some (by kernel_rfl))
  f260 := Tryz.func484.trans (congrArg some (by kernel_rfl))
  f266 := Tryz.func495.trans (congrArg some (by kernel_rfl))
  f267 := Tryz.func487.trans (congrArg some (by kernel_rfl))
  f268 := Tryz.func312.trans (congrArg some (by kernel_rfl))
  f314 := Tryz.func552.trans (congrArg some (by kernel_rfl))
  t0 := Tryz.underlying0
  a0 := Tryz.isAgg0
  z0 := Tryz.sizeOf0
  v0 := Tryz.zeroValue0
  t3 := Tryz.underlying3
  a3 := Tryz.isAgg3
  z3 := Tryz.sizeOf3
  v3 := Tryz.zeroValue3
  t4 := Tryz.underlying4
  a4 := Tryz.isAgg4
  z4 := Tryz.sizeOf4
  v4 := Tryz.zeroValue4
  t5 := Tryz.underlying5
  a5 := Tryz.isAgg5
  z5 := Tryz.sizeOf5
  v5 := Tryz.zeroValue5
  t9 := Tryz.underlying9
  a9 := Tryz.isAgg9
  z9 := Tryz.sizeOf9
  v9 := Tryz.zeroValue9
  t21 := Tryz.underlying21
  a21 := Tryz.isAgg21
  z21 := Tryz.sizeOf21
  v21 := Tryz.zeroValue21
  t31 := Tryz.underlying195
  a31 := Tryz.isAgg195
  z31 := Tryz.sizeOf195
  v31 := Tryz.zeroValue195
  t46 := Tryz.underlying206
  a46 := Tryz.isAgg206
  z46 := Tryz.sizeOf206
  v46 := Tryz.zeroValue206
  t51 := Tryz.underlying27
  a51 := Tryz.isAgg27
  z51 := Tryz.sizeOf27
  v51 := Tryz.zeroValue27
  t105 := Tryz.underlying554
  a105 := Tryz.isAgg554
  z105 := Tryz.sizeOf554
  v105 := Tryz.zeroValue554
  t119 := Tryz.underlying585
  a119 := Tryz.isAgg585
  z119 := Tryz.sizeOf585
  t138 := Tryz.underlying587
  a138 := Tryz.isAgg587
  z138 := Tryz.sizeOf587
  v138 := Tryz.zeroValue587
  t139 := Tryz.underlying588
  a139 := Tryz.isAgg588
  z139 := Tryz.sizeOf588
  v139 := Tryz.zeroValue588
  t146 := Tryz.underlying684
  a146 := Tryz.isAgg684
  z146 := Tryz.sizeOf684
  v146 := Tryz.zeroValue684
  g1 := by kernel_rfl
  g3 := by kernel_rfl
  g4 := by kernel_rfl }
open Go.RowKit Go.Lib in
/-- strings.Split. (LAID: no walk: one application.) -/
theorem Tryz.strings_Split (s sep : ByteArray) (m : Int) (w : World) (hs : s.size < 4294967281) (hm : w.cell? ⟨3, 0, none⟩ = some (.int .i64 m)) (h1 : 1 ≤ sep.size) :
    Calls Tryz.prog 99 #[.string s, .string sep] w fun e w' =>
      e = .returned (.slice (some ⟨w.heap.size, 0, none⟩) (Lib.countB s sep + 1) (Lib.countB s sep + 1)) ∧ w' = w.alloc (.cells ((Lib.splitB sep 0 (Lib.countB s sep) s).map Value.string).toArray 9) := Any.strings_Split Tryz.lays146 (by kernel_rfl) s sep m w hs hm h1
def Tryz.lays166_ren : Go.Shelf.Ren := ⟨fun | 166 => 30 | 240 => 101 | 276 => 217 | n => n, fun | 9 => 9 | 3 => 3 | 4 => 4 | 0 => 0 | 20 => 20 | 72 => 117 | 76 => 122 | 70 => 115 | 37 => 28 | 75 => 121 | 127 => 248 | 164 => 394 | 5 => 5 | 80 => 125 | n => n, fun | n => n⟩
theorem Tryz.lays166 : Go.Proofs.Lays.n166 Tryz.prog Tryz.lays166_ren := {
  mixed := by kernel_rfl
  f166 := Tryz.func30.trans (congrArg some (by kernel_rfl))
  f240 := Tryz.func101.trans (congrArg some (by kernel_rfl))
  f276 := Tryz.func217.trans (congrArg some (by kernel_rfl))
  t0 := Tryz.underlying0
  a0 := Tryz.isAgg0
  z0 := Tryz.sizeOf0
  v0 := Tryz.zeroValue0
  t3 := Tryz.underlying3
  a3 := Tryz.isAgg3
  z3 := Tryz.sizeOf3
  v3 := Tryz.zeroValue3
  t4 := Tryz.underlying4
  a4 := Tryz.isAgg4
  z4 := Tryz.sizeOf4
  v4 := Tryz.zeroValue4
  t9 := Tryz.underlying9
  a9 := Tryz.isAgg9
  z9 := Tryz.sizeOf9
  v9 := Tryz.zeroValue9
  t20 := Tryz.underlying20
  a20 := Tryz.isAgg20
  z20 := Tryz.sizeOf20
  v20 := Tryz.zeroValue20
  t37 := Tryz.underlying28
  a37 := Tryz.isAgg28
  z37 := Tryz.sizeOf28
  v37 := Tryz.zeroValue28
  t70 := Tryz.underlying115
  a70 := Tryz.isAgg115
  z70 := Tryz.sizeOf115
  v70 := Tryz.zeroValue115
  t72 := Tryz.underlying117
  a72 := Tryz.isAgg117
  z72 := Tryz.sizeOf117
  v72 := Tryz.zeroValue117
  t75 := Tryz.underlying121
  a75 := Tryz.isAgg121
  z75 := Tryz.sizeOf121
  v75 := Tryz.zeroValue121
  t164 := Tryz.underlying394
  a164 := Tryz.isAgg394
  z164 := Tryz.sizeOf394
  v164 := Tryz.zeroValue394 }
theorem Tryz.Builder_Extra_166 : Builder.Extra Tryz.prog Tryz.lays166_ren := {
  sizeBuilder := by kernel_rfl
  liesBuilder := by kernel_rfl
  t5 := Tryz.underlying5
  a5 := Tryz.isAgg5
  z5 := Tryz.sizeOf5
  v5 := Tryz.zeroValue5
  infoByte := by kernel_rfl
  cellsByte := by kernel_rfl
  sizeByte := by kernel_rfl
  neB5 := by decide }
section
open Go.RowKit
abbrev BB (B b : Nat) (bs : List UInt8) (w : World) : Prop := Lib.IsBuilderF 117 5 B b (Lib.byteCells bs) w
theorem byteCells_app (x y : List UInt8) : Lib.byteCells x ++ Lib.byteCells y = Lib.byteCells (x ++ y) := by simp [Lib.byteCells]
theorem BB.made (w : World) : BB w.heap.size w.heap.size [] (w.alloc (.cells #[.pointer none, .slice none 0 0] 117)) :=
  Lib.IsBuilderF.of (Lib.fresh_isBuilder _ _ w)
theorem BB.next {B b : Nat} {bs : List UInt8} {w w' : World} (h : BB B b bs w) (q : Below w.heap.size w w') : BB B b bs w' := by
  rcases h with ⟨h1, v, h2, h3, h4⟩ | ⟨h1, v, h2, h3, h4⟩
  · exact .inl ⟨h1, v, below_at q h2 (heap_lt h2), h3.kept (grown_of_below w.heap.size q) (.inr fun e => by have := (h3.lt _ e).2; omega), h4⟩
  · exact .inr ⟨h1, v, below_at q h2 (heap_lt h2), h3.kept (grown_of_below w.heap.size q) (.inr fun e => by have := (h3.lt _ e).2; omega), h4⟩
theorem bwrite_any (B b : Nat) (bs s : List UInt8) (w : World) (h : BB B b bs w) (hlen : bs.length + s.length ≤ 1000000) (hBw : B ≤ w.heap.size) :
    Calls Tryz.prog 30 #[.pointer (some ⟨b, 0, none⟩), .string (str s)] w (fun e w' => e = .returned (.tuple #[.int .i64 s.length, .nilIface]) ∧ BB B b (bs ++ s) w' ∧ Below B w w' ∧ Lib.OthersKept 5 (some b) w w') := by
  have hs : (str s).size = s.length := rfl
  refine (Any.Builder_WriteString_k Tryz.lays166 Tryz.Builder_Extra_166 B b (Lib.byteCells bs) (str s) w h (by rw [Lib.byteCells_length, hs]; omega) hBw).mono ?_
  rintro e w' ⟨rfl, h1, h2, h3⟩
  refine ⟨rfl, .inr ?_, h2, h3⟩
  have e1 : Lib.byteCells bs ++ Lib.strCells (str s) = Lib.byteCells (bs ++ s) := byteCells_app bs s
  rw [← e1]
  exact h1
theorem bstring_any (B b : Nat) (bs : List UInt8) (w : World) (h : BB B b bs w) (hBw : B ≤ w.heap.size) :
    Calls Tryz.prog 32 #[.pointer (some ⟨b, 0, none⟩)] w (fun e w' => e = .returned (.string (str bs)) ∧ Below B w w') :=
  (Any.Builder_String_any_k Tryz.lays169 Tryz.Builder_Extra_169 B b bs w h hBw).mono fun _ _ ⟨he, _, hb, _⟩ => ⟨he, hb⟩
end
end Go.Proofs.YthgpfnbajjmcdaaGreatDoor
