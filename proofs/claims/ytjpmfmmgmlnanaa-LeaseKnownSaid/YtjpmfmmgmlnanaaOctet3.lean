/-
  Contracts of package octet: number, U8, U16, U32, Left, Short.
-/
import Derived.Test.YtjpmfmmgmlnanaaOctet2
namespace Go.Proofs.Ytjpmfmmgmlnanaa
open Go.RowKit

/-- What is read, what is left, whether it was short. -/
def rdTake (l : List UInt8) (k : Int) : List UInt8 := if 0 ≤ k ∧ k ≤ l.length then l.take k.toNat else []
def rdDrop (l : List UInt8) (k : Int) : List UInt8 := if 0 ≤ k ∧ k ≤ l.length then l.drop k.toNat else []
def rdSh (l : List UInt8) (k : Int) (sh : Bool) : Bool := if 0 ≤ k ∧ k ≤ l.length then sh else true
/-- Bytes as a number, the first byte the greatest. -/
def beN (l : List UInt8) : Nat := l.foldl (fun v b => v * 256 + b.toNat) 0

theorem beN_snoc (l : List UInt8) (b : UInt8) : beN (l ++ [b]) = beN l * 256 + b.toNat := by simp [beN]
theorem foldl_be_lt (l : List UInt8) : ∀ v, l.foldl (fun v b => v * 256 + b.toNat) v < (v + 1) * 256 ^ l.length := by
  induction l with
  | nil => intro v; simp
  | cons b r ih =>
    intro v
    have := ih (v * 256 + b.toNat)
    have hb := b.toNat_lt
    simp only [List.foldl_cons, List.length_cons, Nat.pow_succ]
    have h2 : (v * 256 + b.toNat + 1) * 256 ^ r.length ≤ ((v + 1) * 256) * 256 ^ r.length := Nat.mul_le_mul_right _ (by omega)
    have h3 : (v + 1) * 256 * 256 ^ r.length = (v + 1) * (256 ^ r.length * 256) := by rw [Nat.mul_assoc, Nat.mul_comm 256]
    omega
theorem beN_lt (l : List UInt8) : beN l < 256 ^ l.length := by
  have := foldl_be_lt l 0
  simpa [beN] using this
theorem rdTake_length (l : List UInt8) (k : Int) (_h : 0 ≤ k) : (rdTake l k).length ≤ k.toNat := by
  unfold rdTake; split
  · simp; omega
  · simp
theorem take_succ_get {α : Type} (l : List α) (k : Nat) (h : k < l.length) : l.take (k + 1) = l.take k ++ [l[k]] := by
  rw [List.take_succ_eq_append_getElem h]

theorem or_step (v b : Nat) (hv : v < 16777216) (hb : b < 256) : bits BinOp.or IntKind.u32 ((v : Int) * 256 % 4294967296) ((b : Int) % 4294967296) = ((v * 256 + b : Nat) : Int) := by
  have e1 : (v : Int) * 256 % 4294967296 = ((v * 256 : Nat) : Int) := by omega
  have e2 : (b : Int) % 4294967296 = (b : Int) := by omega
  rw [e1, e2, u32_or_nat _ _ (by omega) (by omega), nat_join 8 (v * 256) b (by omega) (by omega)]

theorem bytes_any (w : World) (g : Nat) (k : Int) (l : List UInt8) (sh : Bool) (h : Rd w g l sh) (hl : l.length ≤ 1099511627776) :
    Calls Try.prog 41 #[.pointer (some ⟨g, 0, none⟩), .int .i64 k] w (BytesPost w g (rdDrop l k) (rdTake l k) (rdSh l k sh)) := by
  by_cases hk : 0 ≤ k ∧ k ≤ l.length
  · have h0 := bytes_ok w g k.toNat l sh h hl (by omega)
    rw [show ((k.toNat : Nat) : Int) = k by omega] at h0
    simpa only [rdDrop, rdTake, rdSh, if_pos hk] using h0
  · have h0 := bytes_short w g k l sh h hl (by omega)
    simpa only [rdDrop, rdTake, rdSh, if_neg hk] using h0

def NumPost (w : World) (g : Nat) (l : List UInt8) (v : Nat) (sh : Bool) (e : Ending) (w' : World) : Prop :=
  e = .returned (.int .u32 v) ∧ Rd w' g l sh ∧ w.grownBy w' (some g)

set_option maxHeartbeats 400000 in
theorem number_any (w : World) (g : Nat) (k : Int) (l : List UInt8) (sh : Bool) (h : Rd w g l sh) (hl : l.length ≤ 1099511627776) (hk : 0 ≤ k) (hk4 : k ≤ 4) :
    Calls Try.prog 36 #[.pointer (some ⟨g, 0, none⟩), .int .i64 k] w (NumPost w g (rdDrop l k) (beN (rdTake l k)) (rdSh l k sh)) := by
  have hm := rdTake_length l k hk
  generalize hmm : rdTake l k = m at *
  go_enter Try.func36, Try.ntmps36
  go_wp2_with fail
  refine (bytes_any w g k l sh h hl).mono ?_
  rintro e w1 ⟨A, n, c, rfl, ho, hrd, hgr⟩
  rw [hmm] at ho
  clear hmm
  have hn := ho.1
  have hb := ho.bs
  have hn4 : n ≤ 4 := by omega
  have HN := Lib.hid hn
  clear hn
  go_wp2_with fail
  go_loop [5, 12] (fun v i => ∃ j : Nat, j ≤ n ∧ i = .int .i64 j ∧ v = .int .u32 (beN (m.take j))) (fun _ i => n - (intOf i).toNat)
  case atStart => exact ⟨0, Nat.zero_le _, rfl, rfl⟩
  case round =>
    obtain ⟨j, hj, rfl, rfl⟩ := hrel
    by_cases hlt : j < n
    · have hjm : j < m.length := by have := HN.out; omega
      obtain ⟨b, o, rfl, _, hc⟩ := hb.2.2.2.at_ (bv_get m j hjm)
      have HS := Lib.hid (take_succ_get m j hjm)
      have HO := Lib.hid (or_step (beN (m.take j)) m[j].toNat (by
        have h1 := beN_lt (m.take j)
        have h2 : 256 ^ (m.take j).length ≤ 256 ^ 3 := Nat.pow_le_pow_right (by omega) (by simp; omega)
        omega) m[j].toNat_lt)
      go_wp2
      go_round
      case rel => exact ⟨j + 1, by omega, by go_num, by rw [HO.out, HS.out, beN_snoc]⟩
      case measure => simp [intOf]; omega
    · go_wp2
      go_ret
      have : m.take j = m := List.take_of_length_le (by have := HN.out; omega)
      exact ⟨by rw [this]; rfl, hrd, hgr⟩

theorem rdTake_lt (l : List UInt8) (k : Int) (h : 0 ≤ k) : beN (rdTake l k) < 256 ^ k.toNat :=
  Nat.lt_of_lt_of_le (beN_lt _) (Nat.pow_le_pow_right (by omega) (rdTake_length l k h))

def IntPost (w : World) (g : Nat) (l : List UInt8) (v : Nat) (sh : Bool) (e : Ending) (w' : World) : Prop :=
  e = .returned (.int .i64 v) ∧ Rd w' g l sh ∧ w.grownBy w' (some g)

set_option maxHeartbeats 400000 in
theorem ru32_any (w : World) (g : Nat) (l : List UInt8) (sh : Bool) (h : Rd w g l sh) (hl : l.length ≤ 1099511627776) :
    Calls Try.prog 33 #[.pointer (some ⟨g, 0, none⟩)] w (NumPost w g (rdDrop l 4) (beN (rdTake l 4)) (rdSh l 4 sh)) := by
  go_enter Try.func33, Try.ntmps33
  go_wp2_with fail
  refine (number_any w g 4 l sh h hl (by omega) (by omega)).mono ?_
  rintro e w1 ⟨rfl, hrd, hgr⟩
  generalize beN (rdTake l 4) = v at *
  go_wp2
  go_ret
  exact ⟨rfl, hrd, hgr⟩

end Go.Proofs.Ytjpmfmmgmlnanaa
