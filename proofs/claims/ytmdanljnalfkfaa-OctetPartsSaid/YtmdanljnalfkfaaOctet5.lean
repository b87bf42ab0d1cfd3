/-
  Contracts of package octet: the writers U16, U32; the references' U16, U32, At16, At32; bytes as a string.
-/
import Derived.Test.YtmdanljnalfkfaaOctet3
import Derived.Laws.BytesArg
namespace Go.Proofs.Ytmdanljnalfkfaa
open Go.RowKit

/-- The string of a list of bytes. -/
def str (l : List UInt8) : ByteArray := ⟨l.toArray⟩
theorem str_data (l : List UInt8) : (str l).data.toList = l := rfl
theorem str_size (l : List UInt8) : (str l).size = l.length := rfl
theorem str_inj {l m : List UInt8} (h : str l = str m) : l = m := by
  have := congrArg (fun s : ByteArray => s.data.toList) h
  exact this
theorem str_append (l m : List UInt8) : str l ++ str m = str (l ++ m) := by
  apply ByteArray.ext
  simp [str]
theorem strOfNums_bv (l : List UInt8) : strOfNums (l.map fun b => (b.toNat : Int)) = str l := by
  unfold strOfNums str
  congr 2
  rw [List.map_map]
  conv => rhs; rw [← List.map_id l]
  apply List.map_congr_left
  intro b _
  simp

/-- string(bytes). -/
theorem run_str {w : World} {B n c : Nat} {A : Option Addr} {l : List UInt8} (h : BS w B A n c l) :
    (convert 22 9 (.slice A n c)).run Try.prog w = .ok (.string (str l)) w := by
  obtain ⟨rfl, hnc, hcm, hr⟩ := h
  rcases hr with hr | ⟨b, o, rfl, _, hc⟩
  · obtain rfl : l = [] := by
      have := congrArg List.length hr
      rw [bv_length] at this
      exact List.eq_nil_of_length_eq_zero this
    rw [run_convert_bytes_string w 22 9 5 A _ _ Try.underlying22 Try.underlying5 Try.underlying9]
    cases A with
    | none => rfl
    | some a => rfl
  · have := run_convert_bytes_arg (P := Try.prog) w 22 5 Try.underlying22 Try.underlying5 b o l.length c (l.map fun b => (b.toNat : Int)) (by simp) (fun i hi => by
      rw [hc i _ (bv_get l i hi)]
      simp [hi]) 9 Try.underlying9
    rw [this, strOfNums_bv]

def OwnPost (w : World) (l : List UInt8) (e : Ending) (w' : World) : Prop :=
  ∃ A n c, e = .returned (.slice A n c) ∧ OB w' w.heap.size A n c l ∧ Below w.heap.size w w'

/-- An integer's lowest byte. -/
def bN (x : Int) : UInt8 := UInt8.ofNat (x % 256).toNat
theorem bN_val (x : Int) : ((bN x).toNat : Int) = x % 256 := by
  unfold bN
  rw [UInt8.toNat_ofNat']
  omega

set_option maxHeartbeats 400000 in
theorem w16_any (w : World) (A : Option Addr) (n c : Nat) (l : List UInt8) (v : Int) (h : BS w w.heap.size A n c l) (hl : l.length ≤ 1099511627776) :
    Calls Try.prog 19 #[.slice A n c, .int .i64 v] w (OwnPost w (l ++ [bN (v / 256), bN v])) := by
  go_enter Try.func19, Try.ntmps19
  go_wp2_with (at_builtin; go_must (refine app8 rfl _ _ rfl w.heap.size _ 0 0 [] rfl (OB.empty w _ _ _ rfl (Nat.le_refl _) rfl) w.heap.size A n c l rfl (h.alloc (Nat.le_refl _) _) (by simp; omega) (by simp) ?_))
  intro A' n' c' w1 ho hb _
  have hz := hb.size
  go_wp2_with (at_builtin; go_must (refine app8 rfl _ _ rfl w.heap.size _ _ _ l rfl (ho.alloc _) _ _ 2 2 [bN (v / 256), bN v] rfl (BS.block [bN (v / 256), bN v] (heap_alloc_new w1 _) ?h1 (by simp [maxLen])) ?h2 ?h3 ?_))
  case h1 => simp [bv, bN_val]
  case h2 => simp; omega
  case h3 => simp at hz ⊢; omega
  intro A2 n2 c2 w2 ho2 hb2 _
  go_wp2
  go_ret
  exact ⟨A2, n2, c2, rfl, ho2, ((((Below.refl _ w).alloc (Nat.le_refl _) _).trans hb).alloc (by simp at hz; omega) _).trans hb2⟩

set_option maxHeartbeats 400000 in
theorem w32_any (w : World) (A : Option Addr) (n c : Nat) (l : List UInt8) (v : Int) (h : BS w w.heap.size A n c l) (hl : l.length ≤ 1099511627776) (hv0 : 0 ≤ v) (hv1 : v < 4294967296) :
    Calls Try.prog 18 #[.slice A n c, .int .u32 v] w (OwnPost w (l ++ [bN (v / 16777216), bN (v / 65536), bN (v / 256), bN v])) := by
  go_enter Try.func18, Try.ntmps18
  go_wp2_with (at_builtin; go_must (refine app8 rfl _ _ rfl w.heap.size _ 0 0 [] rfl (OB.empty w _ _ _ rfl (Nat.le_refl _) rfl) w.heap.size A n c l rfl (h.alloc (Nat.le_refl _) _) (by simp; omega) (by simp) ?_))
  intro A' n' c' w1 ho hb _
  have hz := hb.size
  go_wp2_with (at_builtin; go_must (refine app8 rfl _ _ rfl w.heap.size _ _ _ l rfl (ho.alloc _) _ _ 4 4 [bN (v / 16777216), bN (v / 65536), bN (v / 256), bN v] rfl (BS.block [bN (v / 16777216), bN (v / 65536), bN (v / 256), bN v] (heap_alloc_new w1 _) ?h1 (by simp [maxLen])) ?h2 ?h3 ?_))
  case h1 => simp [bv, bN_val]; omega
  case h2 => simp; omega
  case h3 => simp at hz ⊢; omega
  intro A2 n2 c2 w2 ho2 hb2 _
  go_wp2
  go_ret
  exact ⟨A2, n2, c2, rfl, ho2, ((((Below.refl _ w).alloc (Nat.le_refl _) _).trans hb).alloc (by simp at hz; omega) _).trans hb2⟩

set_option maxHeartbeats 400000 in
theorem rw16_any (w : World) (A : Option Addr) (n c : Nat) (l : List UInt8) (v : Int) (h : BS w w.heap.size A n c l) (hl : l.length ≤ 1099511627776) :
    Calls Try.prog 21 #[.slice A n c, .int .i64 v] w (OwnPost w (l ++ [bN (v / 256), bN v])) := by
  go_enter Try.func21, Try.ntmps21
  go_wp2_with (at_builtin; go_must (refine app8 rfl _ _ rfl w.heap.size _ 0 0 [] rfl (OB.empty w _ _ _ rfl (Nat.le_refl _) rfl) w.heap.size A n c l rfl (h.alloc (Nat.le_refl _) _) (by simp; omega) (by simp) ?_))
  intro A' n' c' w1 ho hb _
  have hz := hb.size
  go_wp2_with (at_builtin; go_must (refine app8 rfl _ _ rfl w.heap.size _ _ _ l rfl (ho.alloc _) _ _ 2 2 [bN (v / 256), bN v] rfl (BS.block [bN (v / 256), bN v] (heap_alloc_new w1 _) ?h1 (by simp [maxLen])) ?h2 ?h3 ?_))
  case h1 => simp [bv, bN_val]
  case h2 => simp; omega
  case h3 => simp at hz ⊢; omega
  intro A2 n2 c2 w2 ho2 hb2 _
  go_wp2
  go_ret
  exact ⟨A2, n2, c2, rfl, ho2, ((((Below.refl _ w).alloc (Nat.le_refl _) _).trans hb).alloc (by simp at hz; omega) _).trans hb2⟩
end Go.Proofs.Ytmdanljnalfkfaa
