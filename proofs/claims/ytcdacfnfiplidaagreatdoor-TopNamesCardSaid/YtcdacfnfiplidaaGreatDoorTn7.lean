/-
  The script's two lines, parsed.
-/
import Derived.Test.YtcdacfnfiplidaaGreatDoorTn6
namespace Go.Proofs.YtcdacfnfiplidaaGreatDoor
open Go.RowKit

def tRun : List UInt8 := [110, 111, 119, 10, 97, 100, 100, 114, 101, 115, 115, 10]
theorem cut_run : cutB 10 tRun = [sNow, sAddr, []] := by kernel_rfl
theorem cut_word {s : List UInt8} (hs : s = sNow ∨ s = sAddr) : cutB 32 s = [s] := by
  rcases hs with rfl | rfl <;> kernel_rfl
def lnL (l : List (List UInt8)) : List Value := l.flatMap fun s => (lnC s).toList
theorem lnL_snoc (l : List (List UInt8)) (s : List UInt8) : lnL (l ++ [s]) = lnL l ++ (lnC s).toList := by simp [lnL]
abbrev LO (w : World) (H : Nat) (A : Option Addr) (n c : Nat) (l : List (List UInt8)) : Prop := TO w H 52 3 A n c l.length (lnL l)
theorem infoLn : (Tryz.prog.info? 52).map (fun i => (i.zero, i.size, i.bytes)) = some (some (.agg lnZ), 3, 48) := by kernel_rfl
/-- The two lines, by the number of those that are done. -/
def twoL : List (List UInt8) := [sNow, sAddr]
def ParseP (w : World) (e : Ending) (w' : World) : Prop := ∃ H A c, w.heap.size ≤ H ∧ e = .returned (.tuple #[.slice A 2 c, .int .i64 0]) ∧ LO w' H A 2 c twoL ∧ Below w.heap.size w w'
theorem two_at {i : Nat} (h : i < 2) : twoL[i]? = some (twoL.getD i []) ∧ (twoL.getD i [] = sNow ∨ twoL.getD i [] = sAddr) := by
  rcases (show i = 0 ∨ i = 1 by omega) with rfl | rfl
  · exact ⟨rfl, .inl rfl⟩
  · exact ⟨rfl, .inr rfl⟩
set_option maxRecDepth 100000 in
set_option maxHeartbeats 8000000 in
theorem sparse_any (w : World) (hm : mlIs w) : Calls Tryz.prog 8 #[.string (str tRun)] w (ParseP w) := by
  have hts : (str tRun).size = 12 := rfl
  have hsp := split_any w hm tRun 10 (by decide)
  rw [cut_run] at hsp
  obtain ⟨tr, htr⟩ : ∃ x, str tRun = x := ⟨_, rfl⟩
  rw [htr] at hts hsp ⊢
  clear htr
  go_enter Tryz.func8, Tryz.ntmps8
  go_wp2_with fail
  refine hsp.mono ?_
  rintro e w1 ⟨A, n, cc, rfl, ho, b1⟩
  obtain rfl : n = 3 := ho.1
  have hcap := ho.cap
  have m1 := hm.next b1
  obtain ⟨b, o, rfl, hbl, hc2⟩ := ho.at_ (k := 2) (s := []) rfl
  have hc0 := ho.row
  have hc2' : w1.cell? ⟨b, o + 2, none⟩ = some (.string ⟨#[]⟩) := hc2
  have HROW := Lib.hid hc0
  clear hsp ho hc2 hc0 hm
  go_wp2_with fail
  clear hc2'
  go_loopw [5, 37] (fun out v wr => ∃ (i : Nat) (A' : Option Addr) (c' : Nat), out = .slice A' i c' ∧ v = .int .i64 i ∧ i ≤ 2 ∧ TO wr w1.heap.size 52 3 A' i c' i (lnL (twoL.take i)) ∧ Below w1.heap.size w1 wr) (fun _ v _ => 2 - (intOf v).toNat)
  case atStart => exact ⟨0, none, 0, rfl, rfl, by omega, TO.nil_ _ _ _ _, Below.refl _ _⟩
  case round =>
    obtain ⟨i, A', c', rfl, rfl, hi, hl, bw⟩ := hrel
    have HL := Lib.hid hl
    have HBW := Lib.hid bw
    clear hl
    rcases Nat.lt_or_ge i 2 with hlt | hge
    · obtain ⟨hi2, hs⟩ := two_at hlt
      have hc := (HROW.out.below bw)
      have hsz := bw.size
      have hcell : wr.cell? ⟨b, o + i, none⟩ = some (.string (str (twoL.getD i []))) := by
        rcases hc with h | ⟨b', o', e, _, hcc⟩
        · cases h
        · injection e with e
          injection e with e1 e2
          subst e1 e2
          refine hcc i _ ?_
          rcases (show i = 0 ∨ i = 1 by omega) with rfl | rfl <;> rfl
      obtain ⟨s, hsE⟩ : ∃ s, twoL.getD i [] = s := ⟨_, rfl⟩
      rw [hsE] at hcell hi2 hs
      have HI2 := Lib.hid hi2
      have HS := Lib.hid hs
      have hbl2 : b < wr.heap.size := by omega
      have hne : (str s).toList.isEmpty = false := by rw [toList_str]; rcases hs with rfl | rfl <;> rfl
      have hspl := split_any wr (m1.next bw) s 32 (by rcases hs with rfl | rfl <;> decide)
      rw [cut_word hs] at hspl
      have hlti : decide ((i : Int) < 2) = true := decide_eq_true (by omega)
      have hin : (0 : Int) ≤ (i : Int) ∧ (i : Int) < 2 := by omega
      have w64 : IntKind.i64.wrap ((i : Int) + 1) = (i : Int) + 1 := IntWalk.i64_in _ (by omega)
      have HLT := Lib.hid hlt
      clear hc hi2 hs hsE hlt hi bw
      go_wp2_with fail
      refine hspl.mono ?_
      rintro e w3 ⟨A3, n3, c3, rfl, ho3, q3⟩
      obtain rfl : n3 = 1 := ho3.1
      obtain ⟨b3, o3, rfl, hb3, hc3⟩ := ho3.at_ (k := 0) (s := s) rfl
      have HB3 := Lib.hid (HBW.out.trans (q3.mono hsz))
      have HL3 := Lib.hid (HL.out.below q3)
      clear hspl hcell ho3 q3 hbl2
      rw [Nat.add_zero] at hc3
      go_wp2_with fail
      have hsz3 : w1.heap.size ≤ w3.heap.size := HB3.out.size
      go_loopw [8, 44] (fun l v wq => (l = .slice none 0 0 ∧ v = .int .i64 0 ∧ wq = w3) ∨ (v = .int .i64 1 ∧ ∃ A4 c4, l = .slice A4 1 c4 ∧ SO wq w3.heap.size A4 1 c4 [s] ∧ Below w3.heap.size w3 wq)) (fun _ v _ => 1 - (intOf v).toNat)
      case atStart => exact .inl ⟨rfl, rfl, rfl⟩
      case round =>
        rcases hrel with ⟨rfl, rfl, rfl⟩ | ⟨rfl, A4, c4, rfl, ho4, q4⟩
        · rename_i wr
          have hS0 : SO wr wr.heap.size none 0 0 [] := ⟨rfl, World.ownsRow_nil _ _ _ _⟩
          go_wp2_with (at_builtin; go_must (refine appS rfl _ _ rfl wr.heap.size none 0 0 [] rfl (hS0.alloc _) wr.heap.size 1 s rfl ((cells_of (heap_alloc_new wr _)).1 0) (by simp) (by simp) (by simp) ?_))
          intro A5 n5 c5 w5 ho5 hb5 hg5
          obtain rfl : n5 = 1 := ho5.1
          have q5 : Below wr.heap.size wr w5 := ((Below.refl _ wr).alloc (Nat.le_refl _) _).trans hb5
          go_wp2_with fail
          go_roundw
          case rel => exact .inr ⟨rfl, A5, c5, rfl, ho5, q5⟩
          case measure => simp [intOf]
        · have hcap4 := ho4.cap
          obtain ⟨b4, o4, rfl, hb4, hc4⟩ := ho4.at_ (k := 0) (s := s) rfl
          have HB4 := Lib.hid (HB3.out.trans (q4.mono hsz3))
          have HL4 := Lib.hid (HL3.out.below q4)
          rw [Nat.add_zero] at hc4
          clear ho4 q4
          go_wp2_with fail
          refine (read_one wr b4 o4 c4 s HS.out hc4 hb4 hcap4).mono ?_
          rintro e w6 ⟨rfl, q6⟩
          have HB6 := Lib.hid (HB4.out.trans (q6.mono HB4.out.size))
          have HL6 := Lib.hid (HL4.out.below q6)
          clear hc4 hb4 hcap4 q6
          go_upto_region 21 with fail
          have q7 : Below w6.heap.size w6 (w6.alloc (.cells (lnC s) 52)) := (Below.refl _ w6).alloc (Nat.le_refl _) _
          have X7 := heap_alloc_new w6 (.cells (lnC s) 52)
          have HB7 := Lib.hid (HB6.out.trans (q7.mono HB6.out.size))
          have HL7 := Lib.hid (HL6.out.below q7)
          obtain ⟨y, hy⟩ : ∃ y, w6.heap.size = y := ⟨_, rfl⟩
          rw [hy] at X7 ⊢
          generalize w6.alloc (.cells (lnC s) 52) = w7 at X7 HB7 HL7 ⊢
          clear q7 hy HB6 HL6
          have f7 := (cells_of X7).1
          have q8 : Below w7.heap.size w7 (w7.alloc (.cells (lnC s) 52)) := (Below.refl _ w7).alloc (Nat.le_refl _) _
          have HN8 := Lib.hid (heap_alloc_new w7 (.cells (lnC s) 52))
          have HL8 := Lib.hid (HL7.out.below q8)
          have HB8 := Lib.hid (HB7.out.trans (q8.mono HB7.out.size))
          have hz8 : w1.heap.size ≤ (w7.alloc (.cells (lnC s) 52)).heap.size := HB8.out.size
          clear q8
          go_wp2_with (at_builtin; go_must (refine wpList_appT rfl _ _ 40 52 3 48 _ Tryz.underlying40 infoLn rfl (by omega) (by omega) rfl w1.heap.size A' i _ _ (lnL (twoL.take i)) rfl HL8.out w7.heap.size 1 rfl (lnC s) rfl HN8.out (by simp [Value.oneCell']) (by have := HLT.out; omega) hz8 ?_))
          intro A9 c9 w9 L9 b9 g9
          have HL9 := Lib.hid (show TO w9 w1.heap.size 52 3 A9 (i + 1) c9 (i + 1) (lnL (twoL.take (i + 1))) by rw [List.take_add_one, HI2.out, Option.toList_some, lnL_snoc]; exact L9)
          have HB9 := Lib.hid (HB8.out.trans b9)
          clear L9 b9 g9 f7 X7 hz8
          go_wp2_with fail
          go_roundw
          case rel => exact ⟨i + 1, A9, c9, rfl, by push_cast; rfl, HLT.out, HL9.out, HB9.out⟩
          case measure => have := HLT.out; simp [intOf]; omega
    · obtain rfl : i = 2 := by omega
      have b2 := b1.trans (HBW.out.mono b1.size)
      go_wp2_with fail
      go_ret2
      exact ⟨w1.heap.size, A', c', b1.size, rfl, HL.out, b2⟩
end Go.Proofs.YtcdacfnfiplidaaGreatDoor
