/-
  Contracts of package octet: the writers U16, U32; the references' U16, U32, At16, At32; bytes as a string.
-/
import Derived.Test.YtnmdiageigbphaaDoorOctet3
import Derived.Laws.BytesArg
namespace Go.Proofs.YtnmdiageigbphaaDoor
open Go.RowKit

/-- The string of a list of bytes. -/
def str (l : List UInt8) : ByteArray := ⟨l.toArray⟩
theorem str_data (l : List UInt8) : (str l).data.toList = l := rfl
theorem str_size (l : List UInt8) : (str l).size = l.length := rfl
theorem str_inj {l m : List UInt8} (h : str l = str m) : l = m := by
  have := congrArg (fun s : ByteArray => s.data.toList) h
  exact this
theorem str_append (l m : List UInt8) : str l ++ str m = str (l ++ m) := by
  apply ByteArray.ext
  simp [str]
theorem strOfNums_bv (l : List UInt8) : strOfNums (l.map fun b => (b.toNat : Int)) = str l := by
  unfold strOfNums str
  congr 2
  rw [List.map_map]
  conv => rhs; rw [← List.map_id l]
  apply List.map_congr_left
  intro b _
  simp

/-- string(bytes). -/
theorem run_str {w : World} {B n c : Nat} {A : Option Addr} {l : List UInt8} (h : BS w B A n c l) :
    (convert 70 9 (.slice A n c)).run Tryd.prog w = .ok (.string (str l)) w := by
  obtain ⟨rfl, hnc, hcm, hr⟩ := h
  rcases hr with hr | ⟨b, o, rfl, _, hc⟩
  · obtain rfl : l = [] := by
      have := congrArg List.length hr
      rw [bv_length] at this
      exact List.eq_nil_of_length_eq_zero this
    rw [run_convert_bytes_string w 70 9 5 A _ _ Tryd.underlying70 Tryd.underlying5 Tryd.underlying9]
    cases A with
    | none => rfl
    | some a => rfl
  · have := run_convert_bytes_arg (P := Tryd.prog) w 70 5 Tryd.underlying70 Tryd.underlying5 b o l.length c (l.map fun b => (b.toNat : Int)) (by simp) (fun i hi => by
      rw [hc i _ (bv_get l i hi)]
      simp [hi]) 9 Tryd.underlying9
    rw [this, strOfNums_bv]

theorem BS.nil_ (w : World) (B : Nat) : BS w B none 0 0 [] := ⟨rfl, Nat.le_refl _, by simp [maxLen], .inl rfl⟩
def OwnPost (w : World) (l : List UInt8) (e : Ending) (w' : World) : Prop :=
  ∃ A n c, e = .returned (.slice A n c) ∧ OB w' w.heap.size A n c l ∧ Below w.heap.size w w'

/-- An integer's lowest byte. -/
def bN (x : Int) : UInt8 := UInt8.ofNat (x % 256).toNat
theorem bN_val (x : Int) : ((bN x).toNat : Int) = x % 256 := by
  unfold bN
  rw [UInt8.toNat_ofNat']
  omega

def b32 (v : Int) : List UInt8 := [bN (v / 16777216), bN (v / 65536), bN (v / 256), bN v]
def b16 (v : Int) : List UInt8 := [bN (v / 256), bN v]

theorem bN_lt (x y : Int) : bN x < bN y ↔ x % 256 < y % 256 := by
  have h1 := bN_val x
  have h2 := bN_val y
  rw [UInt8.lt_iff_toNat_lt]
  omega
theorem bN_eq (x y : Int) : bN x = bN y ↔ x % 256 = y % 256 := by
  have h1 := bN_val x
  have h2 := bN_val y
  rw [← UInt8.toNat_inj]
  omega
theorem toList_str (l : List UInt8) : (str l).toList = l := ByteArray.toList_mk l
theorem and_mask (x : Int) (m k : Nat) (hm : m = 2 ^ k - 1) (hk : k ≤ 62) : bits BinOp.and IntKind.i64 x (m : Int) = x % (2 ^ k : Nat) := by
  have h2 : 2 ^ k ≤ 2 ^ 62 := Nat.pow_le_pow_right (by omega) hk
  have hp : 0 < 2 ^ k := Nat.two_pow_pos k
  have hmm : (BitVec.ofInt 64 (m : Int)).toNat = m := by
    rw [BitVec.ofInt_natCast, BitVec.toNat_ofNat]; exact Nat.mod_eq_of_lt (by omega)
  show IntKind.i64.wrap ((BitVec.ofInt 64 x &&& BitVec.ofInt 64 (m : Int)).toNat : Int) = _
  rw [BitVec.toNat_and, hmm, hm, Nat.and_two_pow_sub_one_eq_mod, BitVec.toNat_ofInt, IntKind.wrap_i64]
  have h1 : ((2 ^ 64 : Nat) : Int) = (2 ^ (64 - k) : Nat) * (2 ^ k : Nat) := by
    rw [← Int.natCast_mul, ← Nat.pow_add]; congr 2; omega
  have h3 : (((x % (2 ^ 64 : Nat)).toNat % 2 ^ k : Nat) : Int) = x % (2 ^ k : Nat) := by
    rw [Int.natCast_emod, Int.toNat_of_nonneg (Int.emod_nonneg _ (by decide)), h1, Int.emod_emod_of_dvd _ (Int.dvd_mul_left _ _)]
  rw [h3]
  have h4 : 0 ≤ x % (2 ^ k : Nat) := Int.emod_nonneg _ (by omega)
  have h5 : x % (2 ^ k : Nat) < (2 ^ k : Nat) := Int.emod_lt_of_pos _ (by omega)
  generalize x % (2 ^ k : Nat) = y at *
  omega
theorem and16 (x : Int) : bits BinOp.and IntKind.i64 x 65535 = x % 65536 := and_mask x 65535 16 rfl (by omega)

/-- What the writers leave, said so that any order of the calls and the readings serves: in every later world the slice reads as the bytes' string. -/
def Later (w : World) (A : Option Addr) (n c : Nat) (l : List UInt8) : Prop :=
  ∀ w', Below w.heap.size w w' → (convert 70 9 (.slice A n c)).run Tryd.prog w' = .ok (.string (str l)) w'

theorem BS.later {w : World} {B n c : Nat} {A : Option Addr} {l : List UInt8} (h : BS w B A n c l) (hB : B ≤ w.heap.size) : Later w A n c l :=
  fun _ hb => run_str (h.below (hb.mono hB))
theorem Later.drew {w : World} {A : Option Addr} {n c : Nat} {l : List UInt8} (h : Later w A n c l) : Later w.drew A n c l :=
  fun w' hb => h w' ⟨hb.os, hb.tape, hb.output, hb.size, hb.block⟩
theorem Later.mono {w w' : World} {A : Option Addr} {n c : Nat} {l : List UInt8} (h : Later w A n c l) (hb : Below w.heap.size w w') : Later w' A n c l :=
  fun w2 h2 => h w2 (hb.trans (h2.mono hb.size))
theorem Later.now {w : World} {A : Option Addr} {n c : Nat} {l : List UInt8} (h : Later w A n c l) : (convert 70 9 (.slice A n c)).run Tryd.prog w = .ok (.string (str l)) w :=
  h w (Below.refl _ _)


end Go.Proofs.YtnmdiageigbphaaDoor
