/-
  Messages as data; written and read back, plainly.
-/
import Derived.Test.YtjpmfmmgmlnanaaOptU
import Derived.Test.YtjpmfmmgmlnanaaMac6
import Derived.Test.YtjpmfmmgmlnanaaZeros
namespace Go.Proofs.Ytjpmfmmgmlnanaa
open Go.RowKit

structure Hd where
  op : Int
  hops : Int
  xid : Int
  secs : Int
  flags : Int
  cl : Ad4
  yo : Ad4
  se : Ad4
  re : Ad4
  mac : Mac6
def ad0 : Ad4 := ⟨0, 0, 0, 0⟩
def mac0 : Mac6 := ⟨0, 0, 0, 0, 0, 0⟩
def Hd.zero : Hd := ⟨0, 0, 0, 0, 0, ad0, ad0, ad0, ad0, mac0⟩
abbrev msC (h : Hd) (A : Option Addr) (n c : Nat) : Array Value := #[.int .i64 h.op, .int .i64 h.hops, .int .u32 h.xid, .int .i64 h.secs, .int .i64 h.flags,
  .int .u8 (h.cl.a.toNat : Int), .int .u8 (h.cl.b.toNat : Int), .int .u8 (h.cl.c.toNat : Int), .int .u8 (h.cl.d.toNat : Int),
  .int .u8 (h.yo.a.toNat : Int), .int .u8 (h.yo.b.toNat : Int), .int .u8 (h.yo.c.toNat : Int), .int .u8 (h.yo.d.toNat : Int),
  .int .u8 (h.se.a.toNat : Int), .int .u8 (h.se.b.toNat : Int), .int .u8 (h.se.c.toNat : Int), .int .u8 (h.se.d.toNat : Int),
  .int .u8 (h.re.a.toNat : Int), .int .u8 (h.re.b.toNat : Int), .int .u8 (h.re.c.toNat : Int), .int .u8 (h.re.d.toNat : Int),
  .int .u8 (h.mac.a.toNat : Int), .int .u8 (h.mac.b.toNat : Int), .int .u8 (h.mac.c.toNat : Int), .int .u8 (h.mac.d.toNat : Int), .int .u8 (h.mac.e.toNat : Int), .int .u8 (h.mac.f.toNat : Int),
  .slice A n c]
abbrev msV (h : Hd) (A : Option Addr) (n c : Nat) : Value := .agg (msC h A n c)
theorem msC_zero : msC Hd.zero none 0 0 = #[.int .i64 0, .int .i64 0, .int .u32 0, .int .i64 0, .int .i64 0, .int .u8 0, .int .u8 0, .int .u8 0, .int .u8 0, .int .u8 0, .int .u8 0, .int .u8 0, .int .u8 0,
  .int .u8 0, .int .u8 0, .int .u8 0, .int .u8 0, .int .u8 0, .int .u8 0, .int .u8 0, .int .u8 0, .int .u8 0, .int .u8 0, .int .u8 0, .int .u8 0, .int .u8 0, .int .u8 0, .slice none 0 0] := by
  simp [Hd.zero, ad0, mac0]

def typeB (b : List UInt8) : Int := match b with
  | [x] => if 1 ≤ x.toNat ∧ x.toNat ≤ 8 then (x.toNat : Int) else 0
  | _ => 0
def typeO (os : List Ob) : Int := typeB ((fdO os 53).getD [])
theorem typeB_one (x : UInt8) : typeB [x] = if 1 ≤ x.toNat ∧ x.toNat ≤ 8 then (x.toNat : Int) else 0 := rfl
theorem typeB_len (b : List UInt8) (h : b.length ≠ 1) : typeB b = 0 := by
  match b with
  | [] => rfl
  | [x] => simp at h
  | x :: y :: r => rfl

def cook : List UInt8 := [99, 130, 83, 99]
def goodM (l : List UInt8) : Prop := (l.getD 0 0 = 1 ∨ l.getD 0 0 = 2) ∧ l.getD 1 0 = 1 ∧ l.getD 2 0 = 6 ∧ (l.drop 236).take 4 = cook
instance (l : List UInt8) : Decidable (goodM l) := by unfold goodM; infer_instance
def hdOf (l : List UInt8) : Hd := ⟨beN ((l.drop 0).take 1), beN ((l.drop 3).take 1), beN ((l.drop 4).take 4), beN ((l.drop 8).take 2), beN ((l.drop 10).take 2),
  of4 (beN ((l.drop 12).take 4)), of4 (beN ((l.drop 16).take 4)), of4 (beN ((l.drop 20).take 4)), of4 (beN ((l.drop 24).take 4)), macOf ((l.drop 28).take 6)⟩
def getM (l : List UInt8) : (Hd × List Ob) × Int :=
  if l.length < 240 then ((Hd.zero, []), 3) else if goodM l then
    match getO (l.drop 240) with
    | none => ((Hd.zero, []), 3)
    | some os => if typeO os = 0 then ((Hd.zero, []), 4) else ((hdOf l, os), 0)
  else ((Hd.zero, []), 4)

def okHd (h : Hd) : Prop := (h.op = 1 ∨ h.op = 2) ∧ 0 ≤ h.hops ∧ h.hops ≤ 255 ∧ 0 ≤ h.secs ∧ h.secs ≤ 65535 ∧ 0 ≤ h.flags ∧ h.flags ≤ 65535
instance (h : Hd) : Decidable (okHd h) := by unfold okHd; infer_instance
def padM (l : List UInt8) : List UInt8 := l ++ List.replicate (300 - l.length) 0
def preM (h : Hd) : List UInt8 := [bN h.op, 1, 6, bN h.hops] ++ b32 h.xid ++ b16 h.secs ++ b16 h.flags ++ h.cl.bytes ++ h.yo.bytes ++ h.se.bytes ++ h.re.bytes ++ h.mac.bytes
def zer (k : Nat) : List UInt8 := List.replicate k 0
theorem zer_length (k : Nat) : (zer k).length = k := List.length_replicate
def headM (h : Hd) : List UInt8 := preM h ++ zer 202 ++ cook
def putM (h : Hd) (os : List Ob) : List UInt8 × Int :=
  if okHd h ∧ typeO os ≠ 0 then if (putO os).2 = 0 then (padM (headM h ++ (putO os).1), 0) else ([], (putO os).2) else ([], 1)

theorem preM_length (h : Hd) : (preM h).length = 34 := by simp [preM, b32, b16, Ad4.bytes, Mac6.bytes]
theorem headM_length (h : Hd) : (headM h).length = 240 := by simp [headM, preM_length, cook, zer_length]
theorem padM_length (l : List UInt8) : 300 ≤ (padM l).length := by simp [padM]; omega
theorem padM_short (l : List UInt8) (h : l.length ≤ 300) : (padM l).length = 300 := by simp [padM]; omega

theorem getF_suffix : ∀ (k : Nat) (l : List UInt8) (acc : List Ob) (r : List UInt8) (x : List Ob), getF k l acc = some x → getF k (l ++ r) acc = some x
  | 0, _, _, _, _, h => by cases h
  | k + 1, [], _, _, _, h => by cases h
  | k + 1, c :: t, acc, r, x, h => by
    rw [List.cons_append]
    rw [getF_cons] at h ⊢
    by_cases h0 : c = 0
    · rw [if_pos h0] at h ⊢; exact getF_suffix k t acc r x h
    · rw [if_neg h0] at h ⊢
      by_cases h1 : c = 255
      · rw [if_pos h1] at h ⊢; exact h
      · rw [if_neg h1] at h ⊢
        rcases t with _ | ⟨n, t'⟩
        · cases h
        · rw [List.cons_append]
          dsimp only at h ⊢
          by_cases h2 : n.toNat ≤ t'.length
          · rw [if_pos h2] at h
            rw [if_pos (by rw [List.length_append]; omega), List.drop_append_of_le_length h2, List.take_append_of_le_length h2]
            exact getF_suffix k _ _ r x h
          · rw [if_neg h2] at h; cases h
theorem getF_fuel : ∀ (k j : Nat) (l : List UInt8) (acc : List Ob) (x : List Ob), getF k l acc = some x → k ≤ j → getF j l acc = some x
  | 0, _, _, _, _, h, _ => by cases h
  | k + 1, 0, _, _, _, _, hj => by omega
  | k + 1, j + 1, [], _, _, h, _ => by cases h
  | k + 1, j + 1, c :: t, acc, x, h, hj => by
    rw [getF_cons] at h ⊢
    by_cases h0 : c = 0
    · rw [if_pos h0] at h ⊢; exact getF_fuel k j t acc x h (by omega)
    · rw [if_neg h0] at h ⊢
      by_cases h1 : c = 255
      · rw [if_pos h1] at h ⊢; exact h
      · rw [if_neg h1] at h ⊢
        rcases t with _ | ⟨n, t'⟩
        · cases h
        · dsimp only at h ⊢
          by_cases h2 : n.toNat ≤ t'.length
          · rw [if_pos h2] at h ⊢; exact getF_fuel k j _ _ x h (by omega)
          · rw [if_neg h2] at h; cases h
theorem getO_suffix (l r : List UInt8) (x : List Ob) (h : getO l = some x) : getO (l ++ r) = some x :=
  getF_fuel _ _ _ _ _ (getF_suffix _ _ _ r x h) (by simp)

theorem ad_bytes_of4 (a : Ad4) : of4 (beN a.bytes) = a := of4_be a.a a.b a.c a.d

/-- What is written is read back. -/
theorem get_put_m (h : Hd) (os : List Ob) (hx0 : 0 ≤ h.xid) (hx1 : h.xid < 4294967296) (hp : (putM h os).2 = 0) : getM (putM h os).1 = ((h, os), 0) := by
  unfold putM at hp ⊢
  by_cases hk : okHd h ∧ typeO os ≠ 0
  · rw [if_pos hk] at hp ⊢
    by_cases ho : (putO os).2 = 0
    · rw [if_pos ho]
      show getM (padM (headM h ++ (putO os).1)) = _
      obtain ⟨o, hoe⟩ : ∃ o, (putO os).1 = o := ⟨_, rfl⟩
      have hg := get_put os ho
      rw [hoe] at hg ⊢
      obtain ⟨z, hz⟩ : ∃ z, List.replicate (300 - (headM h ++ o).length) (0 : UInt8) = z := ⟨_, rfl⟩
      have e0 : padM (headM h ++ o) = headM h ++ (o ++ z) := by rw [padM, hz, List.append_assoc]
      have e1 : headM h ++ (o ++ z) = preM h ++ (zer 202 ++ (cook ++ (o ++ z))) := by simp [headM]
      have e2 : headM h ++ (o ++ z) = (preM h ++ zer 202) ++ (cook ++ (o ++ z)) := by simp [headM]
      have d240 : (headM h ++ (o ++ z)).drop 240 = o ++ z := List.drop_left' (headM_length h)
      have d236 : (headM h ++ (o ++ z)).drop 236 = cook ++ (o ++ z) := by
        rw [e2]; exact List.drop_left' (by simp [preM_length, zer_length])
      have hl : ¬ (headM h ++ (o ++ z)).length < 240 := by rw [List.length_append, headM_length]; omega
      obtain ⟨h1, h2, h3, h4, h5, h6, h7⟩ := hk.1
      have b16s := beN_b16 h.secs
      have b16f := beN_b16 h.flags
      have b32x := beN_b32 h.xid hx0 hx1
      have bo := bN_val h.op
      have bh := bN_val h.hops
      obtain ⟨R, hR⟩ : ∃ R, zer 202 ++ (cook ++ (o ++ z)) = R := ⟨_, rfl⟩
      rw [e0, getM, if_neg hl, d240, getO_suffix o z os hg]
      have hgood : goodM (headM h ++ (o ++ z)) := by
        refine ⟨?_, ?_, ?_, by rw [d236]; simp [cook]⟩
        · rw [e1, hR]
          rcases h1 with h1 | h1 <;> simp [preM, h1, bN]
        · rw [e1, hR]; simp [preM]
        · rw [e1, hR]; simp [preM]
      rw [if_pos hgood]
      dsimp only
      rw [if_neg hk.2]
      have f0 : ((preM h ++ R).drop 0).take 1 = [bN h.op] := by simp [preM]
      have f3 : ((preM h ++ R).drop 3).take 1 = [bN h.hops] := by simp [preM]
      have f4 : ((preM h ++ R).drop 4).take 4 = b32 h.xid := by simp [preM, b32]
      have f8 : ((preM h ++ R).drop 8).take 2 = b16 h.secs := by simp [preM, b32, b16]
      have f10 : ((preM h ++ R).drop 10).take 2 = b16 h.flags := by simp [preM, b32, b16]
      have f12 : ((preM h ++ R).drop 12).take 4 = h.cl.bytes := by simp [preM, b32, b16, Ad4.bytes]
      have f16 : ((preM h ++ R).drop 16).take 4 = h.yo.bytes := by simp [preM, b32, b16, Ad4.bytes]
      have f20 : ((preM h ++ R).drop 20).take 4 = h.se.bytes := by simp [preM, b32, b16, Ad4.bytes]
      have f24 : ((preM h ++ R).drop 24).take 4 = h.re.bytes := by simp [preM, b32, b16, Ad4.bytes]
      have f28 : ((preM h ++ R).drop 28).take 6 = h.mac.bytes := by simp [preM, b32, b16, Ad4.bytes, Mac6.bytes]
      have k0 : ((beN [bN h.op] : Nat) : Int) = h.op := by simp [beN]; omega
      have k3 : ((beN [bN h.hops] : Nat) : Int) = h.hops := by simp [beN]; omega
      have k8 : ((beN (b16 h.secs) : Nat) : Int) = h.secs := by omega
      have k10 : ((beN (b16 h.flags) : Nat) : Int) = h.flags := by omega
      rw [e1, hR, hdOf, f0, f3, f4, f8, f10, f12, f16, f20, f24, f28, k0, k3, b32x, k8, k10, ad_bytes_of4, ad_bytes_of4, ad_bytes_of4, ad_bytes_of4]
      obtain ⟨op, hops, xid, secs, flags, cl, yo, se, re, mac⟩ := h
      simp [macOf, Mac6.bytes]
    · rw [if_neg ho] at hp; exact absurd hp ho
  · rw [if_neg hk] at hp; cases hp
end Go.Proofs.Ytjpmfmmgmlnanaa
