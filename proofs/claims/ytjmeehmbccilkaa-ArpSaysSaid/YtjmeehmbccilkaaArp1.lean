/-
  Contracts of package arp: Addr (an address out of a reader), head; slices.Equal over bytes; packets as data.
-/
import Derived.Test.YtjmeehmbccilkaaEtherA
namespace Go.Proofs.Ytjmeehmbccilkaa
open Go.RowKit

/-- An address. -/
structure Ad4 where
  a : UInt8
  b : UInt8
  c : UInt8
  d : UInt8
def Ad4.bytes (m : Ad4) : List UInt8 := [m.a, m.b, m.c, m.d]
abbrev adV (m : Ad4) : Value := .agg #[.int .u8 (m.a.toNat : Int), .int .u8 (m.b.toNat : Int), .int .u8 (m.c.toNat : Int), .int .u8 (m.d.toNat : Int)]
def adOf (l : List UInt8) : Ad4 := ⟨l.getD 0 0, l.getD 1 0, l.getD 2 0, l.getD 3 0⟩

theorem splice_ad (l : List UInt8) (hl : l.length = 0 ∨ l.length = 4) :
    splice8 #[.int .u8 0, .int .u8 0, .int .u8 0, .int .u8 0] 0 l =
      #[.int .u8 ((adOf l).a.toNat : Int), .int .u8 ((adOf l).b.toNat : Int), .int .u8 ((adOf l).c.toNat : Int), .int .u8 ((adOf l).d.toNat : Int)] := by
  match l, hl with
  | [], _ => simp [splice8, bv, adOf]
  | [a, b, c, d], _ => simp [splice8, bv, adOf]

def AdPost (w : World) (g : Nat) (l : List UInt8) (m : Ad4) (sh : Bool) (e : Ending) (w' : World) : Prop :=
  e = .returned (adV m) ∧ Rd w' g l sh ∧ w.grownBy w' (some g)

set_option maxHeartbeats 400000 in
theorem raddr_any (w : World) (g : Nat) (l : List UInt8) (sh : Bool) (h : Rd w g l sh) (hl : l.length ≤ 1099511627776) :
    Calls Try.prog 47 #[.pointer (some ⟨g, 0, none⟩)] w (AdPost w g (rdDrop l 4) (adOf (rdTake l 4)) (rdSh l 4 sh)) := by
  have hlen : (rdTake l 4).length = 0 ∨ (rdTake l 4).length = 4 := rdTake_len l 4
  go_enter Try.func47, Try.ntmps47
  go_wp2_with fail
  refine rg_begin (fun k => k = g ∨ w.heap.size ≤ k) (by kernel_rfl) ?_
  refine rg_take (v := ?_) 0 rfl (by kernel_rfl) (by kernel_rfl) (by kernel_rfl) (fun _ _ _ h => h) (by rfl) ?_ ?_; rotate_left
  · (intro x hx; go_simp; first | done | with_reducible rfl | (rw [if_pos (by omega)]; try with_reducible rfl))
  try simp only [Act.put, List.setIfInBounds_toArray, List.set_cons_zero, List.set_cons_succ]
  refine rg_take (v := ?_) 1 rfl (by kernel_rfl) (by kernel_rfl) (by kernel_rfl) (fun _ _ _ h => h) (by rfl) ?_ ?_; rotate_left
  · (intro x hx; go_simp; first | done | with_reducible rfl | (rw [if_pos (by omega)]; try with_reducible rfl))
  try simp only [Act.put, List.setIfInBounds_toArray, List.set_cons_zero, List.set_cons_succ]
  refine rg_step 2 rfl (by kernel_rfl) (by rfl) (fun K hK => ?_)
  go_simp
  refine (bytes_any _ g 4 l sh (((h.alloc _).alloc _).drew) hl).mono ?_
  rintro e w1 ⟨A, n, c, rfl, ho, hr, hg⟩
  refine hK.out _ _ (Ext.of_grown hg fun k hk => by injection hk with e; exact .inl e.symm) ?_
  clear hK K; try simp only [Act.put, List.setIfInBounds_toArray, List.set_cons_zero, List.set_cons_succ]
  refine rg_step 3 rfl (by kernel_rfl) (by rfl) (fun K hK => ?_)
  have hgl := h.lt
  have hb1 := (hg.block (w.heap.size + 1) (by simp) (by intro e; injection e with e; omega)).trans (heap_alloc_at (by simp))
  have hb0 := (hg.block w.heap.size (by simp; omega) (by intro e; injection e with e; omega)).trans (heap_alloc_of (heap_alloc_at rfl))
  refine wp_copy8 _ _ rfl (w.heap.size + 1) 0 4 4 _ 46 rfl hb1 _ n c A _ rfl ho.bs (by have := ho.1; omega) (by have := ho.1; simp; omega) ?_
  intro w2 hc2 hg2
  refine hK.out _ _ (Ext.of_grown hg2 fun k hk => by injection hk with e; exact .inr (by omega)) ?_
  clear hK K; try simp only [Act.put, List.setIfInBounds_toArray, List.set_cons_zero, List.set_cons_succ]
  refine rg_done (by kernel_rfl) ?_
  rw [splice_ad _ hlen] at hc2
  have hc0 := (hg2.block w.heap.size (by have := hg.size; simp at this; omega) (by intro e; injection e with e; omega)).trans hb0
  obtain ⟨k1, f1⟩ := cells_of hc2
  obtain ⟨k0, f0⟩ := cells_of hc0
  have G1 := Lib.hid hg
  have G2 := Lib.hid hg2
  have C0 := Lib.hid hc0
  clear hg hg2 hc0 hc2 hb0 hb1 ho
  generalize adOf (rdTake l 4) = m at *
  go_wp2_with fail
  refine bodyPost_ret (v := adV m) (by simp [results, Try.results47, go_sem, k0]) rfl ?_
  have s1 := G1.out.size
  have s2 := G2.out.size
  simp at s1
  have e1 : w.grownBy w1 (some g) := ((grown_drew (grown_alloc (grown_alloc (World.grownBy.refl w _) _) _)).trans G1.out)
  have e2 : w.grownBy w2 (some g) := ⟨G2.out.os.trans e1.os, G2.out.tape.trans e1.tape, G2.out.output.trans e1.output, by omega, fun k hk hn => (G2.out.block k (by omega) (by intro e; injection e with e; omega)).trans (e1.block k hk hn)⟩
  have hr2 := hr.grown G2.out (by omega)
  refine ⟨rfl, ?_, ?_⟩
  · refine hr2.below (H := w.heap.size) ?_ hgl
    go_grown
  · refine grown_below e2 (H := w.heap.size) ?_ (Nat.le_refl _)
    go_grown

/-- What each packet begins with. -/
def head6 : List UInt8 := [0, 1, 8, 0, 6, 4]

theorem OB.made (w : World) (g : Nat) (l : List UInt8) (H : Nat) (hg : w.heap.size = g) (hH : H ≤ g) (hl : l.length ≤ maxLen) (cs : Array Value) (hc : cs = (bv l).toArray) :
    OB (w.alloc (.cells cs 5)) H (some ⟨g, 0, none⟩) l.length l.length l := by
  subst hc hg
  refine ⟨rfl, by simp [bv_length], .inr ⟨w.heap.size, l.length, (bv l).toArray, rfl, hH, heap_alloc_new w _, Nat.le_refl _, hl, ?_, ?_⟩⟩
  · simp [bv_length]
  · simp [← bv_length]

set_option maxHeartbeats 400000 in
theorem head_any (w : World) : Calls Try.prog 45 #[] w (OwnPost w head6) := by
  go_enter Try.func45, Try.ntmps45
  go_wp2_with fail
  go_ret
  exact ⟨some ⟨w.heap.size, 0, none⟩, 6, 6, rfl, OB.made w _ head6 _ rfl (Nat.le_refl _) (by simp [head6, maxLen]) _ rfl, by go_grown⟩

theorem take_step {α : Type} (l l' : List α) (j : Nat) (x : α) (h : l.take j = l'.take j) (hx : l[j]? = some x) (hy : l'[j]? = some x) : l.take (j + 1) = l'.take (j + 1) := by
  rw [List.take_add_one, List.take_add_one, h, hx, hy]

set_option maxHeartbeats 400000 in
theorem eq8_ne (w : World) (A : Option Addr) (n c : Nat) (A' : Option Addr) (n' c' : Nat) (hn : n ≠ n') :
    Calls Try.prog 46 #[.slice A n c, .slice A' n' c'] w (ValPost w (.bool false)) := by
  go_enter Try.func46, Try.ntmps46
  go_wp2_with fail
  go_ret
  exact ⟨rfl, by go_grown⟩

set_option maxRecDepth 100000 in
set_option maxHeartbeats 1000000 in
theorem eq8_len (w : World) (A : Option Addr) (n c : Nat) (l : List UInt8) (A' : Option Addr) (c' : Nat) (l' : List UInt8) (h : BS w w.heap.size A n c l) (h' : BS w w.heap.size A' n c' l') :
    Calls Try.prog 46 #[.slice A n c, .slice A' n c'] w (ValPost w (.bool (l == l'))) := by
  have hnc : n ≤ 9223372036854775807 := by have h1 := h.2.1; have h2 := h.2.2.1; unfold maxLen at h2; omega
  go_enter Try.func46, Try.ntmps46
  go_wp2_with fail
  go_loopw [13] (fun i wr => ∃ j : Nat, j ≤ n ∧ i = .int .i64 j ∧ l.take j = l'.take j ∧ Below w.heap.size w wr) (fun i _ => n - (intOf i).toNat)
  case atStart => exact ⟨0, Nat.zero_le _, rfl, rfl, Below.refl _ _⟩
  case round =>
    obtain ⟨j, hj, rfl, ht, hq⟩ := hrel
    by_cases hlt : j < n
    · have hl : j < l.length := by have := h.1; omega
      have hl' : j < l'.length := by have := h'.1; omega
      obtain ⟨b, o, rfl, hb, hc⟩ := ((h.below hq).2.2.2).at_ (bv_get l j hl)
      obtain ⟨b', o', rfl, hb', hc'⟩ := ((h'.below hq).2.2.2).at_ (bv_get l' j hl')
      obtain ⟨x, hx⟩ : ∃ x, l[j] = x := ⟨_, rfl⟩
      obtain ⟨y, hy⟩ : ∃ y, l'[j] = y := ⟨_, rfl⟩
      have hx1 : l[j]? = some x := by rw [List.getElem?_eq_getElem hl, hx]
      have hy1 : l'[j]? = some y := by rw [List.getElem?_eq_getElem hl', hy]
      rw [hx] at hc
      rw [hy] at hc'
      clear hx hy
      have g0 := Ext.cell (w := wr.drew) (M := fun _ => False) hc (fun h => h)
      have g1 := Ext.cell (w := wr.drew) (M := fun _ => False) hc' (fun h => h)
      have hjn : (0 : Int) ≤ (j : Int) ∧ (j : Int) < (n : Int) := ⟨by omega, by omega⟩
      have T := Lib.hid ht
      have X := Lib.hid hx1
      have Y := Lib.hid hy1
      clear ht hx1 hy1 hl hl'
      go_upto_region 6 with fail
      refine rg_begin (fun _ => False) (by kernel_rfl) ?_
      refine rg_take (v := ?_) 0 rfl (by kernel_rfl) (by kernel_rfl) (by kernel_rfl) (fun _ _ _ h => h) (by rfl) ?_ ?_; rotate_left
      · (intro x hx; go_simp; first | done | with_reducible rfl | (rw [if_pos (by omega)]; try with_reducible rfl))
      try simp only [Act.put, List.setIfInBounds_toArray, List.set_cons_zero, List.set_cons_succ]
      refine rg_take (v := ?_) 1 rfl (by kernel_rfl) (by kernel_rfl) (by kernel_rfl) (fun _ _ _ h => h) (by rfl) ?_ ?_; rotate_left
      · (intro x hx; go_simp; first | done | with_reducible rfl | (rw [if_pos (by omega)]; try with_reducible rfl))
      try simp only [Act.put, List.setIfInBounds_toArray, List.set_cons_zero, List.set_cons_succ]
      refine rg_take (v := ?_) 2 rfl (by kernel_rfl) (by kernel_rfl) (by kernel_rfl) (fun _ _ _ h => h) (by rfl) ?_ ?_; rotate_left
      · (intro x hx; go_simp; first | done | with_reducible rfl | (rw [if_pos (by omega)]; try with_reducible rfl))
      try simp only [Act.put, List.setIfInBounds_toArray, List.set_cons_zero, List.set_cons_succ]
      refine rg_take (v := ?_) 3 rfl (by kernel_rfl) (by kernel_rfl) (by kernel_rfl) (fun _ _ _ h => h) (by rfl) ?_ ?_; rotate_left
      · (intro x hx; go_simp; first | done | with_reducible rfl | (rw [if_pos (by omega)]; try with_reducible rfl))
      try simp only [Act.put, List.setIfInBounds_toArray, List.set_cons_zero, List.set_cons_succ]
      refine rg_take (v := ?_) 4 rfl (by kernel_rfl) (by kernel_rfl) (by kernel_rfl) (fun _ _ _ h => h) (by rfl) ?_ ?_; rotate_left
      · (intro x hx; go_simp; first | done | with_reducible rfl | (rw [if_pos (by omega)]; try with_reducible rfl))
      try simp only [Act.put, List.setIfInBounds_toArray, List.set_cons_zero, List.set_cons_succ]
      refine rg_take (v := ?_) 5 rfl (by kernel_rfl) (by kernel_rfl) (by kernel_rfl) (fun _ _ _ h => h) (by rfl) ?_ ?_; rotate_left
      · (intro x hx; go_simp; first | done | with_reducible rfl | (rw [if_pos (by omega)]; try with_reducible rfl))
      try simp only [Act.put, List.setIfInBounds_toArray, List.set_cons_zero, List.set_cons_succ]
      refine rg_take (v := ?_) 6 rfl (by kernel_rfl) (by kernel_rfl) (by kernel_rfl) (fun _ _ _ h => h) (by rfl) ?_ ?_; rotate_left
      · (intro x hx; go_simp; first | done | with_reducible rfl | (rw [if_pos (by omega)]; try with_reducible rfl))
      try simp only [Act.put, List.setIfInBounds_toArray, List.set_cons_zero, List.set_cons_succ]
      refine rg_take (v := ?_) 7 rfl (by kernel_rfl) (by kernel_rfl) (by kernel_rfl) (fun _ _ _ h => h) (by rfl) ?_ ?_; rotate_left
      · (intro x hx; go_simp; first | done | with_reducible rfl | (rw [if_pos (by omega)]; try with_reducible rfl))
      try simp only [Act.put, List.setIfInBounds_toArray, List.set_cons_zero, List.set_cons_succ]
      refine rg_take (v := ?_) 8 rfl (by kernel_rfl) (by kernel_rfl) (by kernel_rfl) (fun _ _ _ h => h) (by rfl) ?_ ?_; rotate_left
      · (intro x hx; go_simp; first | done | with_reducible rfl | (rw [if_pos (by omega)]; try with_reducible rfl))
      try simp only [Act.put, List.setIfInBounds_toArray, List.set_cons_zero, List.set_cons_succ]
      refine rg_done (by kernel_rfl) ?_
      by_cases hxy : x = y
      · subst hxy
        go_wp2_with fail
        go_roundw
        case rel => exact ⟨j + 1, by omega, by go_num, take_step l l' j x T.out X.out Y.out, hq.drew⟩
        case measure => simp [intOf]; omega
      · have hne : (x.toNat : Int) ≠ (y.toNat : Int) := fun e => hxy (UInt8.toNat_inj.1 (by omega))
        go_wp2_with fail
        go_ret
        have : (l == l') = false := by
          rw [beq_eq_false_iff_ne]
          intro e
          have h1 := X.out
          rw [e, Y.out] at h1
          injection h1 with h1
          exact hxy h1.symm
        exact ⟨by rw [this]; rfl, hq.drew⟩
    · go_wp2_with fail
      go_ret
      have : l = l' := by
        have h1 : l.take j = l := List.take_of_length_le (by have := h.1; omega)
        have h2 : l'.take j = l' := List.take_of_length_le (by have := h'.1; omega)
        rw [← h1, ← h2, ht]
      exact ⟨by rw [this]; simp, hq⟩
theorem eq8_any (w : World) (A : Option Addr) (n c : Nat) (l : List UInt8) (A' : Option Addr) (n' c' : Nat) (l' : List UInt8) (h : BS w w.heap.size A n c l) (h' : BS w w.heap.size A' n' c' l') :
    Calls Try.prog 46 #[.slice A n c, .slice A' n' c'] w (ValPost w (.bool (l == l'))) := by
  by_cases hn : n = n'
  · subst hn
    exact eq8_len w A n c l A' c' l' h h'
  · have : (l == l') = false := by
      rw [beq_eq_false_iff_ne]
      intro e
      have h1 := h.1
      have h2 := h'.1
      rw [e] at h1
      omega
    rw [this]
    exact eq8_ne w A n c A' n' c' hn

/-- A packet as data. -/
structure Pk where
  op : Int
  fm : Mac6
  fr : Ad4
  tm : Mac6
  ta : Ad4
def Pk.zero : Pk := ⟨0, zero6, ⟨0, 0, 0, 0⟩, zero6, ⟨0, 0, 0, 0⟩⟩
abbrev pkC (p : Pk) : Array Value := #[.int .i64 p.op,
  .int .u8 (p.fm.a.toNat : Int), .int .u8 (p.fm.b.toNat : Int), .int .u8 (p.fm.c.toNat : Int), .int .u8 (p.fm.d.toNat : Int), .int .u8 (p.fm.e.toNat : Int), .int .u8 (p.fm.f.toNat : Int),
  .int .u8 (p.fr.a.toNat : Int), .int .u8 (p.fr.b.toNat : Int), .int .u8 (p.fr.c.toNat : Int), .int .u8 (p.fr.d.toNat : Int),
  .int .u8 (p.tm.a.toNat : Int), .int .u8 (p.tm.b.toNat : Int), .int .u8 (p.tm.c.toNat : Int), .int .u8 (p.tm.d.toNat : Int), .int .u8 (p.tm.e.toNat : Int), .int .u8 (p.tm.f.toNat : Int),
  .int .u8 (p.ta.a.toNat : Int), .int .u8 (p.ta.b.toNat : Int), .int .u8 (p.ta.c.toNat : Int), .int .u8 (p.ta.d.toNat : Int)]
abbrev pkV (p : Pk) : Value := .agg (pkC p)
/-- The bytes of a packet, and the error. -/
def pkB (p : Pk) : List UInt8 := head6 ++ b16 p.op ++ p.fm.bytes ++ p.fr.bytes ++ p.tm.bytes ++ p.ta.bytes
def putPk (p : Pk) : List UInt8 × Int := if p.op = 1 ∨ p.op = 2 then (pkB p, 0) else ([], 1)
def pkOf (l : List UInt8) : Pk := ⟨beN ((l.drop 6).take 2), macOf ((l.drop 8).take 6), adOf ((l.drop 14).take 4), macOf ((l.drop 18).take 6), adOf ((l.drop 24).take 4)⟩
/-- What the bytes are as a packet, and the error. -/
def getPk (l : List UInt8) : Pk × Int :=
  if l.length < 28 then (Pk.zero, 3) else if l.take 6 = head6 ∧ (beN ((l.drop 6).take 2) = 1 ∨ beN ((l.drop 6).take 2) = 2) then (pkOf l, 0) else (Pk.zero, 4)

theorem pkB_length (p : Pk) : (pkB p).length = 28 := by simp [pkB, head6, b16, Mac6.bytes, Ad4.bytes]
theorem get_put_pk (p : Pk) (hp : p.op = 1 ∨ p.op = 2) (l : List UInt8) : getPk (pkB p ++ l) = (p, 0) := by
  have e0 : ¬ (pkB p ++ l).length < 28 := by rw [List.length_append, pkB_length]; omega
  have e1 : (pkB p ++ l).take 6 = head6 := by simp [pkB, head6]
  have e2 : ((pkB p ++ l).drop 6).take 2 = b16 p.op := by simp [pkB, head6, b16]
  have e3 : ((pkB p ++ l).drop 8).take 6 = p.fm.bytes := by simp [pkB, head6, b16, Mac6.bytes]
  have e4 : ((pkB p ++ l).drop 14).take 4 = p.fr.bytes := by simp [pkB, head6, b16, Mac6.bytes, Ad4.bytes]
  have e5 : ((pkB p ++ l).drop 18).take 6 = p.tm.bytes := by simp [pkB, head6, b16, Mac6.bytes, Ad4.bytes]
  have e6 : ((pkB p ++ l).drop 24).take 4 = p.ta.bytes := by simp [pkB, head6, b16, Mac6.bytes, Ad4.bytes]
  have e7 := beN_b16 p.op
  have e8 : (beN (b16 p.op) : Int) = p.op := by omega
  rw [getPk, if_neg e0, e1, e2, if_pos ⟨rfl, by omega⟩, pkOf, e2, e3, e4, e5, e6, e8]
  obtain ⟨op, fm, fr, tm, ta⟩ := p
  simp [macOf, adOf, Mac6.bytes, Ad4.bytes]
theorem getPk_short (l : List UInt8) (h : l.length < 28) : getPk l = (Pk.zero, 3) := if_pos h
end Go.Proofs.Ytjmeehmbccilkaa
