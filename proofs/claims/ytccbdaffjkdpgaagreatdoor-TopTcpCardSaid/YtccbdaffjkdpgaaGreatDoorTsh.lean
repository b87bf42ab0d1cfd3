/-
  The library's contracts at this program, laid by the kit's lay-shelf and lay-plain, named: strings.Split, strconv.FormatInt of small numbers, the Builder.
-/
import Derived.Shelf.Strings.OnBuilder
import Derived.Shelf.Strings.BuilderK
import Derived.Shelf.Strconv.Itoa4
import Derived.Shelf.Strings.Split
import Derived.Lib.SplitLaws
import Derived.Lib.IndexBytes
import Derived.Test.YtccbdaffjkdpgaaGreatDoorChecked
import Derived.Test.YtccbdaffjkdpgaaGreatDoorOctet6
import Derived.Test.YtccbdaffjkdpgaaGreatDoorKp2
import Derived.Test.YtccbdaffjkdpgaaGreatDoorTk
namespace Go.Proofs.YtccbdaffjkdpgaaGreatDoor
open Go.Shelf
def Tryz.lays169_ren : Go.Shelf.Ren := ⟨fun | 169 => 33 | n => n, fun | 70 => 117 | 9 => 9 | 0 => 0 | 72 => 119 | 37 => 27 | 127 => 251 | 3 => 3 | 5 => 5 | n => n, fun | n => n⟩
theorem Tryz.lays169 : Go.Proofs.Lays.n169 Tryz.prog Tryz.lays169_ren := {
  mixed := by kernel_rfl
  f169 := Tryz.func33.trans (congrArg some (by kernel_rfl))
  t0 := Tryz.underlying0
  a0 := Tryz.isAgg0
  z0 := Tryz.sizeOf0
  v0 := Tryz.zeroValue0
  t3 := Tryz.underlying3
  a3 := Tryz.isAgg3
  z3 := Tryz.sizeOf3
  v3 := Tryz.zeroValue3
  t9 := Tryz.underlying9
  a9 := Tryz.isAgg9
  z9 := Tryz.sizeOf9
  v9 := Tryz.zeroValue9
  t37 := Tryz.underlying27
  a37 := Tryz.isAgg27
  z37 := Tryz.sizeOf27
  v37 := Tryz.zeroValue27
  t70 := Tryz.underlying117
  a70 := Tryz.isAgg117
  z70 := Tryz.sizeOf117
  v70 := Tryz.zeroValue117
  t72 := Tryz.underlying119
  a72 := Tryz.isAgg119
  z72 := Tryz.sizeOf119
  v72 := Tryz.zeroValue119
  t127 := Tryz.underlying251
  a127 := Tryz.isAgg251
  z127 := Tryz.sizeOf251
  v127 := Tryz.zeroValue251 }
theorem Tryz.Builder_Extra_169 : Builder.Extra Tryz.prog Tryz.lays169_ren := {
  sizeBuilder := by kernel_rfl
  liesBuilder := by kernel_rfl
  t5 := Tryz.underlying5
  a5 := Tryz.isAgg5
  z5 := Tryz.sizeOf5
  v5 := Tryz.zeroValue5
  infoByte := by kernel_rfl
  cellsByte := by kernel_rfl
  sizeByte := by kernel_rfl
  neB5 := by decide }
def Tryz.lays173_ren : Go.Shelf.Ren := ⟨fun | 173 => 106 | 246 => 219 | 283 => 318 | 284 => 319 | 285 => 320 | 286 => 321 | 129 => 352 | 317 => 410 | 318 => 411 | 319 => 412 | 320 => 413 | 337 => 496 | 338 => 497 | n => n, fun | 2 => 2 | 3 => 3 | 9 => 9 | 4 => 4 | 171 => 486 | 0 => 0 | 53 => 286 | 37 => 27 | 5 => 5 | 173 => 489 | 212 => 567 | 51 => 34 | 20 => 20 | 213 => 568 | 46 => 83 | 232 => 691 | 233 => 692 | n => n, fun | 17 => 0 | 18 => 6 | 19 => 7 | n => n⟩
theorem Tryz.lays173 : Go.Proofs.Lays.n173 Tryz.prog Tryz.lays173_ren := {
  mixed := by kernel_rfl
  f129 := Tryz.func352.trans (congrArg some (by kernel_rfl))
  f173 := Tryz.func106.trans (congrArg some (by kernel_rfl))
  f246 := Tryz.func219.trans (congrArg some (by kernel_rfl))
  f283 := Tryz.func318.trans (congrArg some (by kernel_rfl))
  f284 := Tryz.func319.trans (congrArg some (by kernel_rfl))
  f285 := Tryz.func320.trans (congrArg some (by kernel_rfl))
  f286 := Tryz.func321.trans (congrArg some (by kernel_rfl))
  f317 := Tryz.func410.trans (congrArg some (by kernel_rfl))
  f318 := Tryz.func411.trans (congrArg some (by kernel_rfl))
  f319 := Tryz.func412.trans (congrArg some (by kernel_rfl))
  f320 := Tryz.func413.trans (congrArg some (by kernel_rfl))
  f337 := Tryz.func496.trans (congrArg some (by kernel_rfl))
  f338 := Tryz.func497.trans (congrArg some (by kernel_rfl))
  t0 := Tryz.underlying0
  a0 := Tryz.isAgg0
  z0 := Tryz.sizeOf0
  v0 := Tryz.zeroValue0
  t2 := Tryz.underlying2
  a2 := Tryz.isAgg2
  z2 := Tryz.sizeOf2
  v2 := Tryz.zeroValue2
  t3 := Tryz.underlying3
  a3 := Tryz.isAgg3
  z3 := Tryz.sizeOf3
  v3 := Tryz.zeroValue3
  t4 := Tryz.underlying4
  a4 := Tryz.isAgg4
  z4 := Tryz.sizeOf4
  v4 := Tryz.zeroValue4
  t5 := Tryz.underlying5
  a5 := Tryz.isAgg5
  z5 := Tryz.sizeOf5
  v5 := Tryz.zeroValue5
  t9 := Tryz.underlying9
  a9 := Tryz.isAgg9
  z9 := Tryz.sizeOf9
  v9 := Tryz.zeroValue9
  t20 := Tryz.underlying20
  a20 := Tryz.isAgg20
  z20 := Tryz.sizeOf20
  v20 := Tryz.zeroValue20
  t37 := Tryz.underlying27
  a37 := Tryz.isAgg27
  z37 := Tryz.sizeOf27
  v37 := Tryz.zeroValue27
  t46 := Tryz.underlying83
  a46 := Tryz.isAgg83
  z46 := Tryz.sizeOf83
  v46 := Tryz.zeroValue83
  t51 := Tryz.underlying34
  a51 := Tryz.isAgg34
  z51 := Tryz.sizeOf34
  v51 := Tryz.zeroValue34
  t53 := Tryz.underlying286
  a53 := Tryz.isAgg286
  z53 := Tryz.sizeOf286
  v53 := Tryz.zeroValue286
  t171 := Tryz.underlying486
  a171 := Tryz.isAgg486
  z171 := Tryz.sizeOf486
  v171 := Tryz.zeroValue486
  t173 := Tryz.underlying489
  a173 := Tryz.isAgg489
  z173 := Tryz.sizeOf489
  v173 := Tryz.zeroValue489
  t212 := Tryz.underlying567
  a212 := Tryz.isAgg567
  z212 := Tryz.sizeOf567
  v212 := Tryz.zeroValue567
  t213 := Tryz.underlying568
  a213 := Tryz.isAgg568
  z213 := Tryz.sizeOf568
  t232 := Tryz.underlying691
  a232 := Tryz.isAgg691
  z232 := Tryz.sizeOf691
  v232 := Tryz.zeroValue691
  t233 := Tryz.underlying692
  a233 := Tryz.isAgg692
  z233 := Tryz.sizeOf692
  v233 := Tryz.zeroValue692
  g17 := by kernel_rfl
  g18 := by kernel_rfl
  g19 := by kernel_rfl }
open Go.RowKit Go.Sort Go.Lib in
/-- THE ROAD WITHOUT THE TABLE: 0 <= i < 100. (LAID: no walk: one application.) -/
theorem Tryz.strconv_FormatInt_10_small (i : Nat) (hi : i < 100) (w : World) :
    Calls Tryz.prog 106 #[.int .i64 i, .int .i64 10] w fun e w' => e = .returned (.string ⟨(Lib.decDigits i).toArray⟩) ∧ w' = w := Any.strconv_FormatInt_10_small Tryz.lays173 i hi w
def Tryz.lays146_ren : Go.Shelf.Ren := ⟨fun | 146 => 101 | 221 => 214 | 268 => 312 | 138 => 313 | 143 => 314 | 195 => 396 | 197 => 397 | 218 => 398 | 219 => 399 | 260 => 484 | 217 => 409 | 225 => 485 | 224 => 486 | 267 => 487 | 266 => 495 | 314 => 552 | n => n, fun | 9 => 9 | 31 => 205 | 3 => 3 | 4 => 4 | 0 => 0 | 105 => 555 | 21 => 21 | 5 => 5 | 46 => 83 | 119 => 586 | 139 => 589 | 138 => 588 | 146 => 685 | 51 => 34 | n => n, fun | 1 => 3 | 3 => 1 | 4 => 2 | n => n⟩
theorem Tryz.lays146 : Go.Proofs.Lays.n146 Tryz.prog Tryz.lays146_ren := {
  mixed := by kernel_rfl
  f138 := Tryz.func313.trans (congrArg some (by kernel_rfl))
  f143 := Tryz.func314.trans (congrArg some (by kernel_rfl))
  f146 := Tryz.func101.trans (congrArg some (by kernel_rfl))
  f195 := Tryz.func396.trans (congrArg some (by kernel_rfl))
  f197 := Tryz.func397.trans (congrArg some (by kernel_rfl))
  f217 := Tryz.func409.trans (congrArg some (by kernel_rfl))
  f218 := Tryz.func398.trans (congrArg some (by kernel_rfl))
  f219 := Tryz.func399.trans (congrArg some (by kernel_rfl))
  f221 := Tryz.func214.trans (congrArg some (by kernel_rfl))
  f224 := Tryz.func486.trans (congrArg some (by kernel_rfl))
  f225 := Tryz.func485.trans (congrArg some (by kernel_rfl))
  f260 := Tryz.func484.trans (congrArg some (by kernel_rfl))
  f266 := Tryz.func495.trans (congrArg some (by kernel_rfl))
  f267 := Tryz.func487.trans (congrArg some (by kernel_rfl))
  f268 := Tryz.func312.trans (congrArg some (by kernel_rfl))
  f314 := Tryz.func552.trans (congrArg some (by kernel_rfl))
  t0 := Tryz.underlying0
  a0 := Tryz.isAgg0
  z0 := Tryz.sizeOf0
  v0 := Tryz.zeroValue0
  t3 := Tryz.underlying3
  a3 := Tryz.isAgg3
  z3 := Tryz.sizeOf3
  v3 := Tryz.zeroValue3
  t4 := Tryz.underlying4
  a4 := Tryz.isAgg4
  z4 := Tryz.sizeOf4
  v4 := Tryz.zeroValue4
  t5 := Tryz.underlying5
  a5 := Tryz.isAgg5
  z5 := Tryz.sizeOf5
  v5 := Tryz.zeroValue5
  t9 := Tryz.underlying9
  a9 := Tryz.isAgg9
  z9 := Tryz.sizeOf9
  v9 := Tryz.zeroValue9
  t21 := Tryz.underlying21
  a21 := Tryz.isAgg21
  z21 := Tryz.sizeOf21
  v21 := Tryz.zeroValue21
  t31 := Tryz.underlying205
  a31 := Tryz.isAgg205
  z31 := Tryz.sizeOf205
  v31 := Tryz.zeroValue205
  t46 := Tryz.underlying83
  a46 := Tryz.isAgg83
  z46 := Tryz.sizeOf83
  v46 := Tryz.zeroValue83
  t51 := Tryz.underlying34
  a51 := Tryz.isAgg34
  z51 := Tryz.sizeOf34
  v51 := Tryz.zeroValue34
  t105 := Tryz.underlying555
  a105 := Tryz.isAgg555
  z105 := Tryz.sizeOf555
  v105 := Tryz.zeroValue555
  t119 := Tryz.underlying586
  a119 := Tryz.isAgg586
  z119 := Tryz.sizeOf586
  t138 := Tryz.underlying588
  a138 := Tryz.isAgg588
  z138 := Tryz.sizeOf588
  v138 := Tryz.zeroValue588
  t139 := Tryz.underlying589
  a139 := Tryz.isAgg589
  z139 := Tryz.sizeOf589
  v139 := Tryz.zeroValue589
  t146 := Tryz.underlying685
  a146 := Tryz.isAgg685
  z146 := Tryz.sizeOf685
  v146 := Tryz.zeroValue685
  g1 := by kernel_rfl
  g3 := by kernel_rfl
  g4 := by kernel_rfl }
open Go.RowKit Go.Lib in
/-- strings.Split. (LAID: no walk: one application.) -/
theorem Tryz.strings_Split (s sep : ByteArray) (m : Int) (w : World) (hs : s.size < 4294967281) (hm : w.cell? ⟨3, 0, none⟩ = some (.int .i64 m)) (h1 : 1 ≤ sep.size) :
    Calls Tryz.prog 101 #[.string s, .string sep] w fun e w' =>
      e = .returned (.slice (some ⟨w.heap.size, 0, none⟩) (Lib.countB s sep + 1) (Lib.countB s sep + 1)) ∧ w' = w.alloc (.cells ((Lib.splitB sep 0 (Lib.countB s sep) s).map Value.string).toArray 9) := Any.strings_Split Tryz.lays146 (by kernel_rfl) s sep m w hs hm h1
def Tryz.lays166_ren : Go.Shelf.Ren := ⟨fun | 166 => 31 | 240 => 103 | 276 => 217 | n => n, fun | 9 => 9 | 3 => 3 | 4 => 4 | 0 => 0 | 20 => 20 | 72 => 119 | 76 => 124 | 70 => 117 | 37 => 27 | 75 => 123 | 127 => 251 | 164 => 395 | 5 => 5 | 80 => 127 | n => n, fun | n => n⟩
theorem Tryz.lays166 : Go.Proofs.Lays.n166 Tryz.prog Tryz.lays166_ren := {
  mixed := by kernel_rfl
  f166 := Tryz.func31.trans (congrArg some (by kernel_rfl))
  f240 := Tryz.func103.trans (congrArg some (by kernel_rfl))
  f276 := Tryz.func217.trans (congrArg some (by kernel_rfl))
  t0 := Tryz.underlying0
  a0 := Tryz.isAgg0
  z0 := Tryz.sizeOf0
  v0 := Tryz.zeroValue0
  t3 := Tryz.underlying3
  a3 := Tryz.isAgg3
  z3 := Tryz.sizeOf3
  v3 := Tryz.zeroValue3
  t4 := Tryz.underlying4
  a4 := Tryz.isAgg4
  z4 := Tryz.sizeOf4
  v4 := Tryz.zeroValue4
  t9 := Tryz.underlying9
  a9 := Tryz.isAgg9
  z9 := Tryz.sizeOf9
  v9 := Tryz.zeroValue9
  t20 := Tryz.underlying20
  a20 := Tryz.isAgg20
  z20 := Tryz.sizeOf20
  v20 := Tryz.zeroValue20
  t37 := Tryz.underlying27
  a37 := Tryz.isAgg27
  z37 := Tryz.sizeOf27
  v37 := Tryz.zeroValue27
  t70 := Tryz.underlying117
  a70 := Tryz.isAgg117
  z70 := Tryz.sizeOf117
  v70 := Tryz.zeroValue117
  t72 := Tryz.underlying119
  a72 := Tryz.isAgg119
  z72 := Tryz.sizeOf119
  v72 := Tryz.zeroValue119
  t75 := Tryz.underlying123
  a75 := Tryz.isAgg123
  z75 := Tryz.sizeOf123
  v75 := Tryz.zeroValue123
  t164 := Tryz.underlying395
  a164 := Tryz.isAgg395
  z164 := Tryz.sizeOf395
  v164 := Tryz.zeroValue395 }
theorem Tryz.Builder_Extra_166 : Builder.Extra Tryz.prog Tryz.lays166_ren := {
  sizeBuilder := by kernel_rfl
  liesBuilder := by kernel_rfl
  t5 := Tryz.underlying5
  a5 := Tryz.isAgg5
  z5 := Tryz.sizeOf5
  v5 := Tryz.zeroValue5
  infoByte := by kernel_rfl
  cellsByte := by kernel_rfl
  sizeByte := by kernel_rfl
  neB5 := by decide }
section
open Go.RowKit
abbrev BB (B b : Nat) (bs : List UInt8) (w : World) : Prop := Lib.IsBuilderF 119 5 B b (Lib.byteCells bs) w
theorem byteCells_app (x y : List UInt8) : Lib.byteCells x ++ Lib.byteCells y = Lib.byteCells (x ++ y) := by simp [Lib.byteCells]
theorem BB.made (w : World) : BB w.heap.size w.heap.size [] (w.alloc (.cells #[.pointer none, .slice none 0 0] 119)) :=
  Lib.IsBuilderF.of (Lib.fresh_isBuilder _ _ w)
theorem BB.next {B b : Nat} {bs : List UInt8} {w w' : World} (h : BB B b bs w) (q : Below w.heap.size w w') : BB B b bs w' := by
  rcases h with ⟨h1, v, h2, h3, h4⟩ | ⟨h1, v, h2, h3, h4⟩
  · exact .inl ⟨h1, v, below_at q h2 (heap_lt h2), h3.kept (grown_of_below w.heap.size q) (.inr fun e => by have := (h3.lt _ e).2; omega), h4⟩
  · exact .inr ⟨h1, v, below_at q h2 (heap_lt h2), h3.kept (grown_of_below w.heap.size q) (.inr fun e => by have := (h3.lt _ e).2; omega), h4⟩
theorem bwrite_any (B b : Nat) (bs s : List UInt8) (w : World) (h : BB B b bs w) (hlen : bs.length + s.length ≤ 1000000) (hBw : B ≤ w.heap.size) :
    Calls Tryz.prog 31 #[.pointer (some ⟨b, 0, none⟩), .string (str s)] w (fun e w' => e = .returned (.tuple #[.int .i64 s.length, .nilIface]) ∧ BB B b (bs ++ s) w' ∧ Below B w w' ∧ Lib.OthersKept 5 (some b) w w') := by
  have hs : (str s).size = s.length := rfl
  refine (Any.Builder_WriteString_k Tryz.lays166 Tryz.Builder_Extra_166 B b (Lib.byteCells bs) (str s) w h (by rw [Lib.byteCells_length, hs]; omega) hBw).mono ?_
  rintro e w' ⟨rfl, h1, h2, h3⟩
  refine ⟨rfl, .inr ?_, h2, h3⟩
  have e1 : Lib.byteCells bs ++ Lib.strCells (str s) = Lib.byteCells (bs ++ s) := byteCells_app bs s
  rw [← e1]
  exact h1
theorem bstring_any (B b : Nat) (bs : List UInt8) (w : World) (h : BB B b bs w) (hBw : B ≤ w.heap.size) :
    Calls Tryz.prog 33 #[.pointer (some ⟨b, 0, none⟩)] w (fun e w' => e = .returned (.string (str bs)) ∧ Below B w w') :=
  (Any.Builder_String_any_k Tryz.lays169 Tryz.Builder_Extra_169 B b bs w h hBw).mono fun _ _ ⟨he, _, hb, _⟩ => ⟨he, hb⟩
end
end Go.Proofs.YtccbdaffjkdpgaaGreatDoor
