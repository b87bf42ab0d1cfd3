/-
  Contract of the statements' word.
-/
import Derived.Test.YtjpmfmmgmlnanaaLs12
import Derived.Test.YtjpmfmmgmlnanaaRegion3
namespace Go.Proofs.Ytjpmfmmgmlnanaa
open Go.RowKit

def wordO (typ : UInt8) (secs : Int) : List Ob := [(53, [typ]), (54, [10, 0, 0, 254]), (51, b32 secs), (1, [255, 0, 0, 0]), (3, [10, 0, 0, 253])]
def wordH (xid : Int) (your : Ad4) : Hd := ⟨2, 0, xid, 0, 0, ad0, your, ad0, ad0, lmac⟩
theorem msC_word (xid : Int) (your : Ad4) (A : Option Addr) (n c : Nat) : #[.int .i64 2, .int .i64 0, .int .u32 xid, .int .i64 0, .int .i64 0, .int .u8 0, .int .u8 0, .int .u8 0, .int .u8 0,
  .int .u8 (your.a.toNat : Int), .int .u8 (your.b.toNat : Int), .int .u8 (your.c.toNat : Int), .int .u8 (your.d.toNat : Int), .int .u8 0, .int .u8 0, .int .u8 0, .int .u8 0, .int .u8 0, .int .u8 0, .int .u8 0, .int .u8 0,
  .int .u8 2, .int .u8 0, .int .u8 0, .int .u8 0, .int .u8 0, .int .u8 2, .slice A n c] = msC (wordH xid your) A n c := by
  simp [wordH, ad0, lmac]

abbrev mzz : Array Value := #[.int .i64 0, .int .i64 0, .int .u32 0, .int .i64 0, .int .i64 0, .int .u8 0, .int .u8 0, .int .u8 0, .int .u8 0, .int .u8 0, .int .u8 0, .int .u8 0, .int .u8 0,
  .int .u8 0, .int .u8 0, .int .u8 0, .int .u8 0, .int .u8 0, .int .u8 0, .int .u8 0, .int .u8 0, .int .u8 0, .int .u8 0, .int .u8 0, .int .u8 0, .int .u8 0, .int .u8 0, .slice none 0 0]
/-- A slice of bytes from block H on; an option of such a slice. -/
def SB (w : World) (H : Nat) (v : Value) (l : List UInt8) : Prop := ∃ A n c, v = .slice A n c ∧ BS w w.heap.size A n c l ∧ ∀ b o s, A = some ⟨b, o, s⟩ → H ≤ b
def SO (w : World) (H : Nat) (v : Value) (code : Int) (l : List UInt8) : Prop := ∃ A n c, v = .agg #[.int .i64 code, .slice A n c] ∧ BS w w.heap.size A n c l ∧ ∀ b o s, A = some ⟨b, o, s⟩ → H ≤ b
def WL (w : World) (H : Nat) (v : Value) (typ : UInt8) (secs : Int) : Prop := ∃ A n c l, v = .slice A n c ∧ OA w H A n c l ∧ obs l = wordO typ secs
def WM (w : World) (H : Nat) (v : Value) (typ : UInt8) (xid : Int) (your : Ad4) (secs : Int) : Prop := ∃ A n c l, v = .agg (msC (wordH xid your) A n c) ∧ OA w H A n c l ∧ obs l = wordO typ secs
section
variable {w w' : World} {H : Nat} {v : Value}
theorem SB.below {l : List UInt8} (h : SB w H v l) (hb : Below w.heap.size w w') : SB w' H v l := by
  obtain ⟨A, n, c, e, h1, h2⟩ := h
  exact ⟨A, n, c, e, (h1.below hb).more hb.size, h2⟩
theorem SO.below {code : Int} {l : List UInt8} (h : SO w H v code l) (hb : Below w.heap.size w w') : SO w' H v code l := by
  obtain ⟨A, n, c, e, h1, h2⟩ := h
  exact ⟨A, n, c, e, (h1.below hb).more hb.size, h2⟩
theorem WL.below {typ : UInt8} {secs : Int} (h : WL w H v typ secs) (hb : Below w.heap.size w w') : WL w' H v typ secs := by
  obtain ⟨A, n, c, l, e, h1, h2⟩ := h
  exact ⟨A, n, c, l, e, h1.below hb, h2⟩
theorem WM.below {typ : UInt8} {xid : Int} {your : Ad4} {secs : Int} (h : WM w H v typ xid your secs) (hb : Below w.heap.size w w') : WM w' H v typ xid your secs := by
  obtain ⟨A, n, c, l, e, h1, h2⟩ := h
  exact ⟨A, n, c, l, e, h1.below hb, h2⟩
theorem SB.block (w : World) (l : List UInt8) (cs : Array Value) (hcs : cs = (bv l).toArray) (hl : l.length ≤ maxLen) (hH : H ≤ w.heap.size) : SB (w.alloc (.cells cs 5)) H (.slice (some ⟨w.heap.size, 0, none⟩) l.length l.length) l :=
  ⟨_, _, _, rfl, BS.block l (heap_alloc_new w _) hcs hl, fun b o s e => by injection e with e; injection e with e; omega⟩
end
/-- What holds in whatever order the word's literal is made. -/
def WI (w0 : World) (x p6 H : Nat) (s4 s5 s7 : Value) (typ : UInt8) (xid : Int) (your : Ad4) (secs : Int) (L : Nat → Bool) (a : Act) (w : World) : Prop :=
  (∀ i, i < 18 → L i = true) ∧ (∃ y : Nat → Value, a.tmps = #[y 0, y 1, y 2, y 3, y 4, y 5, y 6, y 7, .pointer (some ⟨x, 0, none⟩), y 9, y 10, y 11, y 12, y 13, y 14, y 15, y 16, y 17, y 18, y 19, y 20, y 21, y 22, y 23, y 24, y 25]) ∧ a.defers = [] ∧
    (∃ A n c l, w.heap[x]? = some (.cells (msC (wordH xid your) A n c) 37 (0, 0)) ∧ OA w H A n c l ∧ obs l = wordO typ secs) ∧ w0.grownBy w (some x) ∨
  L 17 = false ∧ L 0 = true ∧ L 2 = true ∧ L 3 = true ∧ L 8 = true ∧ w.heap[x]? = some (.cells mzz 37 (0, 0)) ∧ Below w0.heap.size w0 w ∧ ∃ x10 x13 x14 x15 x16 x18 x19 x20 x21 x22 x23 x24 x25 : Value,
    a = ⟨#[.int .u8 (typ.toNat : Int), .int .u32 xid, adV your, .int .u32 secs, s4, s5, .pointer (some ⟨p6, 0, none⟩), s7, .pointer (some ⟨x, 0, none⟩), .int .u32 xid, x10, adV your, .int .u8 (typ.toNat : Int), x13, x14, x15, x16, .int .u32 secs, x18, x19, x20, x21, x22, x23, x24, x25], []⟩ ∧ (L 1 = true → x10 = macV lmac) ∧ (L 4 = true → SB w H x13 ([typ])) ∧ (L 5 = true → SO w H x14 53 ([typ])) ∧ (L 6 = true → SB w H x15 ([10, 0, 0, 254])) ∧ (L 7 = true → SO w H x16 54 ([10, 0, 0, 254])) ∧ (L 9 = true → SB w H x18 (b32 secs)) ∧ (L 10 = true → SO w H x19 51 (b32 secs)) ∧ (L 11 = true → SB w H x20 ([255, 0, 0, 0])) ∧ (L 12 = true → SO w H x21 1 ([255, 0, 0, 0])) ∧ (L 13 = true → SB w H x22 ([10, 0, 0, 253])) ∧ (L 14 = true → SO w H x23 3 ([10, 0, 0, 253])) ∧ (L 15 = true → WL w H x24 typ secs) ∧ (L 16 = true → WM w H x25 typ xid your secs)

def WordPost (w : World) (typ : UInt8) (xid : Int) (your : Ad4) (secs : Int) (e : Ending) (w' : World) : Prop := ∃ A n c l, e = .returned (msV (wordH xid your) A n c) ∧ OA w' w.heap.size A n c l ∧ obs l = wordO typ secs ∧ Below w.heap.size w w'
set_option maxRecDepth 100000 in
set_option maxHeartbeats 8000000 in
theorem word_any (w : World) (typ : UInt8) (xid : Int) (your : Ad4) (secs : Int) (hs0 : 0 ≤ secs) (hs1 : secs < 4294967296) :
    Calls Try.prog 14 #[.int .u8 (typ.toNat : Int), .int .u32 xid, adV your, .int .u32 secs] w (WordPost w typ xid your secs) := by
  have b0 : Below w.heap.size w ((w.alloc (.cells (adC your) 34)).alloc (.cells mzz 37)) := ((Below.refl _ w).alloc (Nat.le_refl _) _).alloc (by simp) _
  have Y0 : ((w.alloc (.cells (adC your) 34)).alloc (.cells mzz 37)).heap[w.heap.size]? = some (.cells (adC your) 34 (0, 0)) := heap_alloc_of (heap_alloc_new w _)
  have X0 : ((w.alloc (.cells (adC your) 34)).alloc (.cells mzz 37)).heap[w.heap.size + 1]? = some (.cells mzz 37 (0, 0)) := heap_alloc_at (by simp)
  have Z0 : ((w.alloc (.cells (adC your) 34)).alloc (.cells mzz 37)).heap.size = w.heap.size + 2 := by simp
  go_enter Try.func14, Try.ntmps14
  go_upto_region 1 with fail
  generalize (w.alloc (.cells (adC your) 34)).alloc (.cells mzz 37) = w1 at b0 Y0 X0 Z0 ⊢
  obtain ⟨p6, hp6⟩ : ∃ p, w.heap.size = p := ⟨_, rfl⟩
  obtain ⟨x, hx⟩ : ∃ x, p6 + 1 = x := ⟨_, rfl⟩
  have Y1 := Y0
  have X1 := X0
  rw [hp6] at Y1 X1 ⊢
  rw [hx] at X1 ⊢
  have HP6 := Lib.hid hp6
  have hpx : p6 < x := by omega
  have hxw : x < w1.heap.size := heap_lt X1
  have hzw : w.heap.size ≤ p6 := by omega
  clear Y0 X0 Z0 hp6 hx
  have fY := Ext.cells (w := w1.drew) (M := fun y => y = x) Y1 (by omega)
  refine rg_begin (fun y => y = x) (by kernel_rfl) ?_
  refine rg_take (v := ?_) 0 rfl (by kernel_rfl) (by kernel_rfl) (by kernel_rfl) (fun _ _ _ h => h) (by rfl) ?_ ?_; rotate_left
  · (intro x hx; go_simp; first | done | with_reducible rfl | (rw [if_pos (by omega)]; try with_reducible rfl) | (rw [if_neg (by omega)]; try with_reducible rfl))
  try simp only [Act.put, List.setIfInBounds_toArray, List.set_cons_zero, List.set_cons_succ]
  refine rg_take (v := ?_) 2 rfl (by kernel_rfl) (by kernel_rfl) (by kernel_rfl) (fun _ _ _ h => h) (by rfl) ?_ ?_; rotate_left
  · (intro x hx; go_simp; first | done | with_reducible rfl | (rw [if_pos (by omega)]; try with_reducible rfl) | (rw [if_neg (by omega)]; try with_reducible rfl))
  try simp only [Act.put, List.setIfInBounds_toArray, List.set_cons_zero, List.set_cons_succ]
  refine rg_take (v := ?_) 3 rfl (by kernel_rfl) (by kernel_rfl) (by kernel_rfl) (fun _ _ _ h => h) (by rfl) ?_ ?_; rotate_left
  · (intro x hx; go_simp; first | done | with_reducible rfl | (rw [if_pos (by omega)]; try with_reducible rfl) | (rw [if_neg (by omega)]; try with_reducible rfl))
  try simp only [Act.put, List.setIfInBounds_toArray, List.set_cons_zero, List.set_cons_succ]
  refine rg_take (v := ?_) 8 rfl (by kernel_rfl) (by kernel_rfl) (by kernel_rfl) (fun _ _ _ h => h) (by rfl) ?_ ?_; rotate_left
  · (intro x hx; go_simp; first | done | with_reducible rfl | (rw [if_pos (by omega)]; try with_reducible rfl) | (rw [if_neg (by omega)]; try with_reducible rfl))
  try simp only [Act.put, List.setIfInBounds_toArray, List.set_cons_zero, List.set_cons_succ]
  clear fY
  have HX1 : w1.drew.heap[x]? = some (.cells mzz 37 (0, 0)) := X1
  have hxw' : x + 1 ≤ w1.drew.heap.size := hxw
  have hb1 : Below w.heap.size w w1.drew := b0.drew
  generalize w1.drew = w2 at HX1 hxw' hb1 ⊢
  refine rg_all (WI w2 x p6 (x + 1) undef undef undef typ xid your secs) (earlier (by kernel_rfl)) ?hS ?step ?fin _ _ _ _ (by kernel_rfl) (of_decide_eq_true (by kernel_rfl)) ?hI
  case hS =>
    rintro L a w3 (⟨_, _, _, _, hg⟩ | ⟨_, _, _, _, _, _, hB, _⟩)
    · exact Ext.of_grown hg fun k hk => by injection hk with e; exact e.symm
    · exact Ext.below_all _ hB
  case hI =>
    refine .inr ⟨by rfl, by rfl, by rfl, by rfl, by rfl, HX1, Below.refl _ _, _, _, _, _, _, _, _, _, _, _, _, _, _, rfl, fun h => absurd h (by decide), fun h => absurd h (by decide), fun h => absurd h (by decide), fun h => absurd h (by decide), fun h => absurd h (by decide), fun h => absurd h (by decide), fun h => absurd h (by decide), fun h => absurd h (by decide), fun h => absurd h (by decide), fun h => absurd h (by decide), fun h => absurd h (by decide), fun h => absurd h (by decide), fun h => absurd h (by decide)⟩
  case fin =>
    rintro L ⟨tm, df⟩ w3 (⟨_, ⟨y, hy⟩, hd, ⟨A, n, c, l, hm, hoa, hob⟩, hg⟩ | ⟨h17, _⟩) hall
    · dsimp only at hy hd
      subst hy hd
      go_wp2_with fail
      refine bodyPost_cell x _ _ _ rfl rfl hm Try.underlying37 rfl (by kernel_rfl) rfl ?_
      refine ⟨A, n, c, l, rfl, hoa.lower (by omega), hob, ⟨hg.os.trans hb1.os, hg.tape.trans hb1.tape, hg.output.trans hb1.output, Nat.le_trans hb1.size hg.size, fun k hk => (hg.block k (Nat.lt_of_lt_of_le hk hb1.size) (by intro e; injection e with e; omega)).trans (hb1.block k hk)⟩⟩
    · rw [hall 17 (by decide)] at h17
      cases h17
  case step =>
    intro L a w3 i oi hI hLi hoi hdep
    have hi18 : i < 18 := (List.getElem?_eq_some_iff.1 hoi).1
    rcases hI with ⟨hall, _⟩ | ⟨hL17, L0, L2, L3, L8, hX, hB, x10, x13, x14, x15, x16, x18, x19, x20, x21, x22, x23, x24, x25, rfl, h1, h4, h5, h6, h7, h9, h10, h11, h12, h13, h14, h15, h16⟩
    · rw [hall i hi18] at hLi; cases hLi
    · have hH : x + 1 ≤ w3.heap.size := Nat.le_trans hxw' hB.size
      rcases (show i = 0 ∨ i = 1 ∨ i = 2 ∨ i = 3 ∨ i = 4 ∨ i = 5 ∨ i = 6 ∨ i = 7 ∨ i = 8 ∨ i = 9 ∨ i = 10 ∨ i = 11 ∨ i = 12 ∨ i = 13 ∨ i = 14 ∨ i = 15 ∨ i = 16 ∨ i = 17 by omega) with rfl | rfl | rfl | rfl | rfl | rfl | rfl | rfl | rfl | rfl | rfl | rfl | rfl | rfl | rfl | rfl | rfl | rfl
      · rw [L0] at hLi; cases hLi
      · have hoi' : some _ = some oi := hoi
        obtain rfl := Option.some.inj hoi'
        refine ⟨by rfl, fun K hK => ?_⟩
        go_simp
        refine (lmac_any w3).mono ?_
        rintro e w4 ⟨rfl, hb⟩
        exact hK.out _ _ (.inr ⟨by simpa using hL17, by simpa using L0, by simpa using L2, by simpa using L3, by simpa using L8, below_at hb hX (heap_lt hX), hB.trans (hb.mono hB.size), _, _, _, _, _, _, _, _, _, _, _, _, _, rfl, fun _ => rfl, fun h => (h4 (by simpa using h)).below hb, fun h => (h5 (by simpa using h)).below hb, fun h => (h6 (by simpa using h)).below hb, fun h => (h7 (by simpa using h)).below hb, fun h => (h9 (by simpa using h)).below hb, fun h => (h10 (by simpa using h)).below hb, fun h => (h11 (by simpa using h)).below hb, fun h => (h12 (by simpa using h)).below hb, fun h => (h13 (by simpa using h)).below hb, fun h => (h14 (by simpa using h)).below hb, fun h => (h15 (by simpa using h)).below hb, fun h => (h16 (by simpa using h)).below hb⟩)
      · rw [L2] at hLi; cases hLi
      · rw [L3] at hLi; cases hLi
      · have hoi' : some _ = some oi := hoi
        obtain rfl := Option.some.inj hoi'
        refine ⟨by rfl, fun K hK => ?_⟩
        go_simp
        have hb : ∀ ob, Below w3.heap.size w3 (w3.alloc ob) := fun ob => (Below.refl _ w3).alloc (Nat.le_refl _) ob
        replace hb := hb (.cells (bv ([typ])).toArray 5)
        exact hK.out _ _ (.inr ⟨by simpa using hL17, by simpa using L0, by simpa using L2, by simpa using L3, by simpa using L8, below_at hb hX (heap_lt hX), hB.trans (hb.mono hB.size), _, _, _, _, _, _, _, _, _, _, _, _, _, rfl, fun h => (h1 (by simpa using h)), fun _ => SB.block w3 ([typ]) _ rfl (by simp [maxLen]) hH, fun h => (h5 (by simpa using h)).below hb, fun h => (h6 (by simpa using h)).below hb, fun h => (h7 (by simpa using h)).below hb, fun h => (h9 (by simpa using h)).below hb, fun h => (h10 (by simpa using h)).below hb, fun h => (h11 (by simpa using h)).below hb, fun h => (h12 (by simpa using h)).below hb, fun h => (h13 (by simpa using h)).below hb, fun h => (h14 (by simpa using h)).below hb, fun h => (h15 (by simpa using h)).below hb, fun h => (h16 (by simpa using h)).below hb⟩)
      · have hoi' : some _ = some oi := hoi
        obtain rfl := Option.some.inj hoi'
        have dd : L 4 = true := hdep ⟨4, .data⟩ (by simp) rfl
        obtain ⟨A', n', c', rfl, hb', ha'⟩ := h4 dd
        refine ⟨by rfl, fun K hK => ?_⟩
        go_simp
        exact hK.out _ _ (.inr ⟨by simpa using hL17, by simpa using L0, by simpa using L2, by simpa using L3, by simpa using L8, hX, hB, _, _, _, _, _, _, _, _, _, _, _, _, _, rfl, fun h => (h1 (by simpa using h)), fun h => (h4 (by simpa using h)), fun _ => ⟨A', n', c', rfl, hb', ha'⟩, fun h => (h6 (by simpa using h)), fun h => (h7 (by simpa using h)), fun h => (h9 (by simpa using h)), fun h => (h10 (by simpa using h)), fun h => (h11 (by simpa using h)), fun h => (h12 (by simpa using h)), fun h => (h13 (by simpa using h)), fun h => (h14 (by simpa using h)), fun h => (h15 (by simpa using h)), fun h => (h16 (by simpa using h))⟩)
      · have hoi' : some _ = some oi := hoi
        obtain rfl := Option.some.inj hoi'
        refine ⟨by rfl, fun K hK => ?_⟩
        go_simp
        have hb : ∀ ob, Below w3.heap.size w3 (w3.alloc ob) := fun ob => (Below.refl _ w3).alloc (Nat.le_refl _) ob
        replace hb := hb (.cells (bv ([10, 0, 0, 254])).toArray 5)
        exact hK.out _ _ (.inr ⟨by simpa using hL17, by simpa using L0, by simpa using L2, by simpa using L3, by simpa using L8, below_at hb hX (heap_lt hX), hB.trans (hb.mono hB.size), _, _, _, _, _, _, _, _, _, _, _, _, _, rfl, fun h => (h1 (by simpa using h)), fun h => (h4 (by simpa using h)).below hb, fun h => (h5 (by simpa using h)).below hb, fun _ => SB.block w3 ([10, 0, 0, 254]) _ rfl (by simp [maxLen]) hH, fun h => (h7 (by simpa using h)).below hb, fun h => (h9 (by simpa using h)).below hb, fun h => (h10 (by simpa using h)).below hb, fun h => (h11 (by simpa using h)).below hb, fun h => (h12 (by simpa using h)).below hb, fun h => (h13 (by simpa using h)).below hb, fun h => (h14 (by simpa using h)).below hb, fun h => (h15 (by simpa using h)).below hb, fun h => (h16 (by simpa using h)).below hb⟩)
      · have hoi' : some _ = some oi := hoi
        obtain rfl := Option.some.inj hoi'
        have dd : L 6 = true := hdep ⟨6, .data⟩ (by simp) rfl
        obtain ⟨A', n', c', rfl, hb', ha'⟩ := h6 dd
        refine ⟨by rfl, fun K hK => ?_⟩
        go_simp
        exact hK.out _ _ (.inr ⟨by simpa using hL17, by simpa using L0, by simpa using L2, by simpa using L3, by simpa using L8, hX, hB, _, _, _, _, _, _, _, _, _, _, _, _, _, rfl, fun h => (h1 (by simpa using h)), fun h => (h4 (by simpa using h)), fun h => (h5 (by simpa using h)), fun h => (h6 (by simpa using h)), fun _ => ⟨A', n', c', rfl, hb', ha'⟩, fun h => (h9 (by simpa using h)), fun h => (h10 (by simpa using h)), fun h => (h11 (by simpa using h)), fun h => (h12 (by simpa using h)), fun h => (h13 (by simpa using h)), fun h => (h14 (by simpa using h)), fun h => (h15 (by simpa using h)), fun h => (h16 (by simpa using h))⟩)
      · rw [L8] at hLi; cases hLi
      · have hoi' : some _ = some oi := hoi
        obtain rfl := Option.some.inj hoi'
        refine ⟨by rfl, fun K hK => ?_⟩
        go_simp
        refine (lnum_any w3 secs hs0 hs1).mono ?_
        rintro e w4 ⟨A', n', c', rfl, ho', hb⟩
        exact hK.out _ _ (.inr ⟨by simpa using hL17, by simpa using L0, by simpa using L2, by simpa using L3, by simpa using L8, below_at hb hX (heap_lt hX), hB.trans (hb.mono hB.size), _, _, _, _, _, _, _, _, _, _, _, _, _, rfl, fun h => (h1 (by simpa using h)), fun h => (h4 (by simpa using h)).below hb, fun h => (h5 (by simpa using h)).below hb, fun h => (h6 (by simpa using h)).below hb, fun h => (h7 (by simpa using h)).below hb, fun _ => ⟨A', n', c', rfl, ho'.bs, fun b o s e => Nat.le_trans hH (ho'.above b o s e)⟩, fun h => (h10 (by simpa using h)).below hb, fun h => (h11 (by simpa using h)).below hb, fun h => (h12 (by simpa using h)).below hb, fun h => (h13 (by simpa using h)).below hb, fun h => (h14 (by simpa using h)).below hb, fun h => (h15 (by simpa using h)).below hb, fun h => (h16 (by simpa using h)).below hb⟩)
      · have hoi' : some _ = some oi := hoi
        obtain rfl := Option.some.inj hoi'
        have dd : L 9 = true := hdep ⟨9, .data⟩ (by simp) rfl
        obtain ⟨A', n', c', rfl, hb', ha'⟩ := h9 dd
        refine ⟨by rfl, fun K hK => ?_⟩
        go_simp
        exact hK.out _ _ (.inr ⟨by simpa using hL17, by simpa using L0, by simpa using L2, by simpa using L3, by simpa using L8, hX, hB, _, _, _, _, _, _, _, _, _, _, _, _, _, rfl, fun h => (h1 (by simpa using h)), fun h => (h4 (by simpa using h)), fun h => (h5 (by simpa using h)), fun h => (h6 (by simpa using h)), fun h => (h7 (by simpa using h)), fun h => (h9 (by simpa using h)), fun _ => ⟨A', n', c', rfl, hb', ha'⟩, fun h => (h11 (by simpa using h)), fun h => (h12 (by simpa using h)), fun h => (h13 (by simpa using h)), fun h => (h14 (by simpa using h)), fun h => (h15 (by simpa using h)), fun h => (h16 (by simpa using h))⟩)
      · have hoi' : some _ = some oi := hoi
        obtain rfl := Option.some.inj hoi'
        refine ⟨by rfl, fun K hK => ?_⟩
        go_simp
        have hb : ∀ ob, Below w3.heap.size w3 (w3.alloc ob) := fun ob => (Below.refl _ w3).alloc (Nat.le_refl _) ob
        replace hb := hb (.cells (bv ([255, 0, 0, 0])).toArray 5)
        exact hK.out _ _ (.inr ⟨by simpa using hL17, by simpa using L0, by simpa using L2, by simpa using L3, by simpa using L8, below_at hb hX (heap_lt hX), hB.trans (hb.mono hB.size), _, _, _, _, _, _, _, _, _, _, _, _, _, rfl, fun h => (h1 (by simpa using h)), fun h => (h4 (by simpa using h)).below hb, fun h => (h5 (by simpa using h)).below hb, fun h => (h6 (by simpa using h)).below hb, fun h => (h7 (by simpa using h)).below hb, fun h => (h9 (by simpa using h)).below hb, fun h => (h10 (by simpa using h)).below hb, fun _ => SB.block w3 ([255, 0, 0, 0]) _ rfl (by simp [maxLen]) hH, fun h => (h12 (by simpa using h)).below hb, fun h => (h13 (by simpa using h)).below hb, fun h => (h14 (by simpa using h)).below hb, fun h => (h15 (by simpa using h)).below hb, fun h => (h16 (by simpa using h)).below hb⟩)
      · have hoi' : some _ = some oi := hoi
        obtain rfl := Option.some.inj hoi'
        have dd : L 11 = true := hdep ⟨11, .data⟩ (by simp) rfl
        obtain ⟨A', n', c', rfl, hb', ha'⟩ := h11 dd
        refine ⟨by rfl, fun K hK => ?_⟩
        go_simp
        exact hK.out _ _ (.inr ⟨by simpa using hL17, by simpa using L0, by simpa using L2, by simpa using L3, by simpa using L8, hX, hB, _, _, _, _, _, _, _, _, _, _, _, _, _, rfl, fun h => (h1 (by simpa using h)), fun h => (h4 (by simpa using h)), fun h => (h5 (by simpa using h)), fun h => (h6 (by simpa using h)), fun h => (h7 (by simpa using h)), fun h => (h9 (by simpa using h)), fun h => (h10 (by simpa using h)), fun h => (h11 (by simpa using h)), fun _ => ⟨A', n', c', rfl, hb', ha'⟩, fun h => (h13 (by simpa using h)), fun h => (h14 (by simpa using h)), fun h => (h15 (by simpa using h)), fun h => (h16 (by simpa using h))⟩)
      · have hoi' : some _ = some oi := hoi
        obtain rfl := Option.some.inj hoi'
        refine ⟨by rfl, fun K hK => ?_⟩
        go_simp
        have hb : ∀ ob, Below w3.heap.size w3 (w3.alloc ob) := fun ob => (Below.refl _ w3).alloc (Nat.le_refl _) ob
        replace hb := hb (.cells (bv ([10, 0, 0, 253])).toArray 5)
        exact hK.out _ _ (.inr ⟨by simpa using hL17, by simpa using L0, by simpa using L2, by simpa using L3, by simpa using L8, below_at hb hX (heap_lt hX), hB.trans (hb.mono hB.size), _, _, _, _, _, _, _, _, _, _, _, _, _, rfl, fun h => (h1 (by simpa using h)), fun h => (h4 (by simpa using h)).below hb, fun h => (h5 (by simpa using h)).below hb, fun h => (h6 (by simpa using h)).below hb, fun h => (h7 (by simpa using h)).below hb, fun h => (h9 (by simpa using h)).below hb, fun h => (h10 (by simpa using h)).below hb, fun h => (h11 (by simpa using h)).below hb, fun h => (h12 (by simpa using h)).below hb, fun _ => SB.block w3 ([10, 0, 0, 253]) _ rfl (by simp [maxLen]) hH, fun h => (h14 (by simpa using h)).below hb, fun h => (h15 (by simpa using h)).below hb, fun h => (h16 (by simpa using h)).below hb⟩)
      · have hoi' : some _ = some oi := hoi
        obtain rfl := Option.some.inj hoi'
        have dd : L 13 = true := hdep ⟨13, .data⟩ (by simp) rfl
        obtain ⟨A', n', c', rfl, hb', ha'⟩ := h13 dd
        refine ⟨by rfl, fun K hK => ?_⟩
        go_simp
        exact hK.out _ _ (.inr ⟨by simpa using hL17, by simpa using L0, by simpa using L2, by simpa using L3, by simpa using L8, hX, hB, _, _, _, _, _, _, _, _, _, _, _, _, _, rfl, fun h => (h1 (by simpa using h)), fun h => (h4 (by simpa using h)), fun h => (h5 (by simpa using h)), fun h => (h6 (by simpa using h)), fun h => (h7 (by simpa using h)), fun h => (h9 (by simpa using h)), fun h => (h10 (by simpa using h)), fun h => (h11 (by simpa using h)), fun h => (h12 (by simpa using h)), fun h => (h13 (by simpa using h)), fun _ => ⟨A', n', c', rfl, hb', ha'⟩, fun h => (h15 (by simpa using h)), fun h => (h16 (by simpa using h))⟩)
      · have hoi' : some _ = some oi := hoi
        obtain rfl := Option.some.inj hoi'
        have d5 : L 5 = true := hdep ⟨5, .data⟩ (by simp) rfl
        obtain ⟨A5, n5, c5, rfl, hb5, ha5⟩ := h5 d5
        have d7 : L 7 = true := hdep ⟨7, .data⟩ (by simp) rfl
        obtain ⟨A7, n7, c7, rfl, hb7, ha7⟩ := h7 d7
        have d10 : L 10 = true := hdep ⟨10, .data⟩ (by simp) rfl
        obtain ⟨A10, n10, c10, rfl, hb10, ha10⟩ := h10 d10
        have d12 : L 12 = true := hdep ⟨12, .data⟩ (by simp) rfl
        obtain ⟨A12, n12, c12, rfl, hb12, ha12⟩ := h12 d12
        have d14 : L 14 = true := hdep ⟨14, .data⟩ (by simp) rfl
        obtain ⟨A14, n14, c14, rfl, hb14, ha14⟩ := h14 d14
        refine ⟨by rfl, fun K hK => ?_⟩
        go_simp
        have hb : Below w3.heap.size w3 (w3.alloc (.cells (opCells [⟨53, A5, n5, c5, [typ]⟩, ⟨54, A7, n7, c7, [10, 0, 0, 254]⟩, ⟨51, A10, n10, c10, b32 secs⟩, ⟨1, A12, n12, c12, [255, 0, 0, 0]⟩, ⟨3, A14, n14, c14, [10, 0, 0, 253]⟩]).toArray 64)) := (Below.refl _ w3).alloc (Nat.le_refl _) _
        have hwl : WL (w3.alloc (.cells (opCells [⟨53, A5, n5, c5, [typ]⟩, ⟨54, A7, n7, c7, [10, 0, 0, 254]⟩, ⟨51, A10, n10, c10, b32 secs⟩, ⟨1, A12, n12, c12, [255, 0, 0, 0]⟩, ⟨3, A14, n14, c14, [10, 0, 0, 253]⟩]).toArray 64)) (x + 1) (.slice (some ⟨w3.heap.size, 0, none⟩) 5 5) typ secs := by
          refine ⟨_, _, _, [⟨53, A5, n5, c5, [typ]⟩, ⟨54, A7, n7, c7, [10, 0, 0, 254]⟩, ⟨51, A10, n10, c10, b32 secs⟩, ⟨1, A12, n12, c12, [255, 0, 0, 0]⟩, ⟨3, A14, n14, c14, [10, 0, 0, 253]⟩], rfl, ⟨OS.made [⟨53, A5, n5, c5, [typ]⟩, ⟨54, A7, n7, c7, [10, 0, 0, 254]⟩, ⟨51, A10, n10, c10, b32 secs⟩, ⟨1, A12, n12, c12, [255, 0, 0, 0]⟩, ⟨3, A14, n14, c14, [10, 0, 0, 253]⟩] (heap_alloc_new w3 _) (by simp [maxLen]) ?_, fun b o s e => by injection e with e; injection e with e; omega, ?_⟩, rfl⟩
          · simp only [List.mem_cons, List.not_mem_nil, or_false, forall_eq_or_imp, forall_eq]
            exact ⟨(hb5.alloc (Nat.le_refl _) _).more (by simp), (hb7.alloc (Nat.le_refl _) _).more (by simp), (hb10.alloc (Nat.le_refl _) _).more (by simp), (hb12.alloc (Nat.le_refl _) _).more (by simp), (hb14.alloc (Nat.le_refl _) _).more (by simp)⟩
          · simp only [List.mem_cons, List.not_mem_nil, or_false, forall_eq_or_imp, forall_eq]
            exact ⟨ha5, ha7, ha10, ha12, ha14⟩
        exact hK.out _ _ (.inr ⟨by simpa using hL17, by simpa using L0, by simpa using L2, by simpa using L3, by simpa using L8, below_at hb hX (heap_lt hX), hB.trans (hb.mono hB.size), _, _, _, _, _, _, _, _, _, _, _, _, _, rfl, fun h => (h1 (by simpa using h)), fun h => (h4 (by simpa using h)).below hb, fun h => (h5 (by simpa using h)).below hb, fun h => (h6 (by simpa using h)).below hb, fun h => (h7 (by simpa using h)).below hb, fun h => (h9 (by simpa using h)).below hb, fun h => (h10 (by simpa using h)).below hb, fun h => (h11 (by simpa using h)).below hb, fun h => (h12 (by simpa using h)).below hb, fun h => (h13 (by simpa using h)).below hb, fun h => (h14 (by simpa using h)).below hb, fun _ => hwl, fun h => (h16 (by simpa using h)).below hb⟩)
      · have hoi' : some _ = some oi := hoi
        obtain rfl := Option.some.inj hoi'
        have d1 : L 1 = true := hdep ⟨1, .data⟩ (by simp) rfl
        have d15 : L 15 = true := hdep ⟨15, .data⟩ (by simp) rfl
        obtain rfl := h1 d1
        obtain ⟨A', n', c', l', rfl, hoa, hob⟩ := h15 d15
        refine ⟨by rfl, fun K hK => ?_⟩
        go_simp
        exact hK.out _ _ (.inr ⟨by simpa using hL17, by simpa using L0, by simpa using L2, by simpa using L3, by simpa using L8, hX, hB, _, _, _, _, _, _, _, _, _, _, _, _, _, rfl, fun h => (h1 (by simpa using h)), fun h => (h4 (by simpa using h)), fun h => (h5 (by simpa using h)), fun h => (h6 (by simpa using h)), fun h => (h7 (by simpa using h)), fun h => (h9 (by simpa using h)), fun h => (h10 (by simpa using h)), fun h => (h11 (by simpa using h)), fun h => (h12 (by simpa using h)), fun h => (h13 (by simpa using h)), fun h => (h14 (by simpa using h)), fun h => (h15 (by simpa using h)), fun _ => ⟨A', n', c', l', by simp [wordH, ad0], hoa, hob⟩⟩)
      · have hoi' : some _ = some oi := hoi
        obtain rfl := Option.some.inj hoi'
        have d16 : L 16 = true := hdep ⟨16, .data⟩ (by simp) rfl
        obtain ⟨A', n', c', l', rfl, hoa, hob⟩ := h16 d16
        have hall : ∀ j, j < 17 → L j = true := by
          intro j hj
          rcases (show j = 0 ∨ j = 1 ∨ j = 2 ∨ j = 3 ∨ j = 4 ∨ j = 5 ∨ j = 6 ∨ j = 7 ∨ j = 8 ∨ j = 9 ∨ j = 10 ∨ j = 11 ∨ j = 12 ∨ j = 13 ∨ j = 14 ∨ j = 15 ∨ j = 16 by omega) with rfl | rfl | rfl | rfl | rfl | rfl | rfl | rfl | rfl | rfl | rfl | rfl | rfl | rfl | rfl | rfl | rfl
          · exact hdep ⟨0, .phase⟩ (by simp) rfl
          · exact hdep ⟨1, .phase⟩ (by simp) rfl
          · exact hdep ⟨2, .phase⟩ (by simp) rfl
          · exact hdep ⟨3, .phase⟩ (by simp) rfl
          · exact hdep ⟨4, .phase⟩ (by simp) rfl
          · exact hdep ⟨5, .phase⟩ (by simp) rfl
          · exact hdep ⟨6, .phase⟩ (by simp) rfl
          · exact hdep ⟨7, .phase⟩ (by simp) rfl
          · exact hdep ⟨8, .phase⟩ (by simp) rfl
          · exact hdep ⟨9, .phase⟩ (by simp) rfl
          · exact hdep ⟨10, .phase⟩ (by simp) rfl
          · exact hdep ⟨11, .phase⟩ (by simp) rfl
          · exact hdep ⟨12, .phase⟩ (by simp) rfl
          · exact hdep ⟨13, .phase⟩ (by simp) rfl
          · exact hdep ⟨14, .phase⟩ (by simp) rfl
          · exact hdep ⟨15, .phase⟩ (by simp) rfl
          · exact hdep ⟨16, .phase⟩ (by simp) rfl
        refine ⟨by rfl, fun K hK => ?_⟩
        apply wp_store_part 37
        case ho => exact rfl
        case hx => exact rfl
        case hy => exact rfl
        case hg => exact hX
        case hle => simp
        case hi => kernel_rfl
        case h1 => kernel_rfl
        intro w4 g4 P4
        refine hK.out _ _ (.inl ⟨fun j hj => ?_, ⟨fun k => match k with | 0 => _ | 1 => _ | 2 => _ | 3 => _ | 4 => _ | 5 => _ | 6 => _ | 7 => _ | 9 => _ | 10 => _ | 11 => _ | 12 => _ | 13 => _ | 14 => _ | 15 => _ | 16 => _ | 17 => _ | 18 => _ | 19 => _ | 20 => _ | 21 => _ | 22 => _ | 23 => _ | 24 => _ | _ => _, rfl⟩, rfl, ⟨A', n', c', l', P4, hoa.grown g4 (by omega), hob⟩, grown_trans (grown_of_below _ hB) g4⟩)
        by_cases hj17 : j = 17
        · simp [hj17]
        · simp only [hj17, if_false]; exact hall j (by omega)
end Go.Proofs.Ytjpmfmmgmlnanaa
