/-
  The library's contracts at this program, laid by the kit's lay-shelf and lay-plain, named: lays156_ren, lays156, Builder_Extra_156.
-/
import Derived.Shelf.Strings.OnBuilder
import Derived.Shelf.Strings.BuilderK
import Derived.Test.YtnmdiageigbphaaGreatDoorChecked
import Derived.Test.YtnmdiageigbphaaGreatDoorOctet6
import Derived.Test.YtnmdiageigbphaaGreatDoorKq12
namespace Go.Proofs.YtnmdiageigbphaaGreatDoor
open Go.Shelf
def Tryz.lays156_ren : Go.Shelf.Ren := ⟨fun | 156 => 32 | 165 => 73 | 166 => 31 | 169 => 38 | 240 => 72 | 241 => 102 | 276 => 101 | 277 => 116 | n => n, fun | 31 => 55 | 9 => 9 | 3 => 3 | 4 => 4 | 0 => 0 | 20 => 20 | 72 => 77 | 76 => 80 | 70 => 74 | 37 => 75 | 75 => 79 | 127 => 115 | 164 => 143 | 5 => 5 | 80 => 88 | n => n, fun | n => n⟩
theorem Tryz.lays156 : Go.Proofs.Lays.n156 Tryz.prog Tryz.lays156_ren := {
  mixed := by kernel_rfl
  f156 := Tryz.func32.trans (congrArg some (by kernel_rfl))
  f165 := Tryz.func73.trans (congrArg some (by kernel_rfl))
  f166 := Tryz.func31.trans (congrArg some (by kernel_rfl))
  f169 := Tryz.func38.trans (congrArg some (by kernel_rfl))
  f240 := Tryz.func72.trans (congrArg some (by kernel_rfl))
  f241 := Tryz.func102.trans (congrArg some (by kernel_rfl))
  f276 := Tryz.func101.trans (congrArg some (by kernel_rfl))
  f277 := Tryz.func116.trans (congrArg some (by kernel_rfl))
  t0 := Tryz.underlying0
  a0 := Tryz.isAgg0
  z0 := Tryz.sizeOf0
  v0 := Tryz.zeroValue0
  t3 := Tryz.underlying3
  a3 := Tryz.isAgg3
  z3 := Tryz.sizeOf3
  v3 := Tryz.zeroValue3
  t4 := Tryz.underlying4
  a4 := Tryz.isAgg4
  z4 := Tryz.sizeOf4
  v4 := Tryz.zeroValue4
  t9 := Tryz.underlying9
  a9 := Tryz.isAgg9
  z9 := Tryz.sizeOf9
  v9 := Tryz.zeroValue9
  t20 := Tryz.underlying20
  a20 := Tryz.isAgg20
  z20 := Tryz.sizeOf20
  v20 := Tryz.zeroValue20
  t31 := Tryz.underlying55
  a31 := Tryz.isAgg55
  z31 := Tryz.sizeOf55
  v31 := Tryz.zeroValue55
  t37 := Tryz.underlying75
  a37 := Tryz.isAgg75
  z37 := Tryz.sizeOf75
  v37 := Tryz.zeroValue75
  t70 := Tryz.underlying74
  a70 := Tryz.isAgg74
  z70 := Tryz.sizeOf74
  v70 := Tryz.zeroValue74
  t72 := Tryz.underlying77
  a72 := Tryz.isAgg77
  z72 := Tryz.sizeOf77
  v72 := Tryz.zeroValue77
  t75 := Tryz.underlying79
  a75 := Tryz.isAgg79
  z75 := Tryz.sizeOf79
  v75 := Tryz.zeroValue79
  t76 := Tryz.underlying80
  a76 := Tryz.isAgg80
  z76 := Tryz.sizeOf80
  v76 := Tryz.zeroValue80
  t127 := Tryz.underlying115
  a127 := Tryz.isAgg115
  z127 := Tryz.sizeOf115
  v127 := Tryz.zeroValue115
  t164 := Tryz.underlying143
  a164 := Tryz.isAgg143
  z164 := Tryz.sizeOf143
  v164 := Tryz.zeroValue143 }
theorem Tryz.Builder_Extra_156 : Builder.Extra Tryz.prog Tryz.lays156_ren := {
  sizeBuilder := by kernel_rfl
  liesBuilder := by kernel_rfl
  t5 := Tryz.underlying5
  a5 := Tryz.isAgg5
  z5 := Tryz.sizeOf5
  v5 := Tryz.zeroValue5
  infoByte := by kernel_rfl
  cellsByte := by kernel_rfl
  sizeByte := by kernel_rfl
  neB5 := by decide }
section
open Go.RowKit
abbrev BB (B b : Nat) (bs : List UInt8) (w : World) : Prop := Lib.IsBuilderF 77 5 B b (Lib.byteCells bs) w
theorem byteCells_app (x y : List UInt8) : Lib.byteCells x ++ Lib.byteCells y = Lib.byteCells (x ++ y) := by simp [Lib.byteCells]
theorem BB.made (w : World) : BB w.heap.size w.heap.size [] (w.alloc (.cells #[.pointer none, .slice none 0 0] 77)) :=
  Lib.IsBuilderF.of (Lib.fresh_isBuilder _ _ w)
theorem BB.next {B b : Nat} {bs : List UInt8} {w w' : World} (h : BB B b bs w) (q : Below w.heap.size w w') : BB B b bs w' := by
  rcases h with ⟨h1, v, h2, h3, h4⟩ | ⟨h1, v, h2, h3, h4⟩
  · exact .inl ⟨h1, v, below_at q h2 (heap_lt h2), h3.kept (grown_of_below w.heap.size q) (.inr fun e => by have := (h3.lt _ e).2; omega), h4⟩
  · exact .inr ⟨h1, v, below_at q h2 (heap_lt h2), h3.kept (grown_of_below w.heap.size q) (.inr fun e => by have := (h3.lt _ e).2; omega), h4⟩
theorem bwrite_any (B b : Nat) (bs s : List UInt8) (w : World) (h : BB B b bs w) (hlen : bs.length + s.length ≤ 1000000) (hBw : B ≤ w.heap.size) :
    Calls Tryz.prog 31 #[.pointer (some ⟨b, 0, none⟩), .string (str s)] w (fun e w' => e = .returned (.tuple #[.int .i64 s.length, .nilIface]) ∧ BB B b (bs ++ s) w' ∧ Below B w w' ∧ Lib.OthersKept 5 (some b) w w') := by
  have hs : (str s).size = s.length := rfl
  refine (Any.Builder_WriteString_k { Tryz.lays156 with } Tryz.Builder_Extra_156 B b (Lib.byteCells bs) (str s) w h (by rw [Lib.byteCells_length, hs]; omega) hBw).mono ?_
  rintro e w' ⟨rfl, h1, h2, h3⟩
  refine ⟨rfl, .inr ?_, h2, h3⟩
  have e1 : Lib.byteCells bs ++ Lib.strCells (str s) = Lib.byteCells (bs ++ s) := byteCells_app bs s
  rw [← e1]
  exact h1
theorem bstring_any (B b : Nat) (bs : List UInt8) (w : World) (h : BB B b bs w) (hBw : B ≤ w.heap.size) :
    Calls Tryz.prog 38 #[.pointer (some ⟨b, 0, none⟩)] w (fun e w' => e = .returned (.string (str bs)) ∧ Below B w w') :=
  (Any.Builder_String_any_k { Tryz.lays156 with } Tryz.Builder_Extra_156 B b bs w h hBw).mono fun _ _ ⟨he, _, hb, _⟩ => ⟨he, hb⟩
theorem join_any (w : World) (bk o c n : Nat) (xs : List (List UInt8)) (s : List UInt8) (hn : n = xs.length)
    (hcells : ∀ j x, xs[j]? = some x → w.cell? ⟨bk, o + j, none⟩ = some (.string (str x))) (hbk : bk < w.heap.size) (hN : n ≤ 1000) (hcap : n ≤ c) (hlen : (Lib.join xs s).length ≤ 1000000) :
    Calls Tryz.prog 32 #[.slice (some ⟨bk, o, none⟩) n c, .string (str s)] w (fun e w' => e = .returned (.string (str (Lib.join xs s))) ∧ Below w.heap.size w w') := by
  have e1 : (xs.map str).map (·.data.toList) = xs := by rw [List.map_map]; exact List.map_id xs
  have h := Any.strings_Join Tryz.lays156 Tryz.Builder_Extra_156 bk o c (xs.map str) (str s) w (fun j x hx => by
    rw [List.getElem?_map, Option.map_eq_some_iff] at hx
    obtain ⟨y, hy, rfl⟩ := hx
    exact hcells j y hy) hbk (by simp; omega) (by simp; omega) (by rw [e1]; show (Lib.join xs s).length ≤ _; omega)
  rw [e1, List.length_map, ← hn] at h
  exact h
end
end Go.Proofs.YtnmdiageigbphaaGreatDoor
