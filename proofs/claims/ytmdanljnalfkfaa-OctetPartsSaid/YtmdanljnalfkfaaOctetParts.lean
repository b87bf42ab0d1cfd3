/-
  The walk of the statement OctetParts: whatever the bytes and the number, it answers true and writes nothing that was there.
-/
import Derived.Test.YtmdanljnalfkfaaOctet4
import Derived.Test.YtmdanljnalfkfaaOctet5
namespace Go.Proofs.Ytmdanljnalfkfaa
open Go.RowKit

set_option maxHeartbeats 400000 in
theorem parts_small (w : World) (A : Option Addr) (m c : Nat) (l : List UInt8) (n : Int) (h : BS w w.heap.size A m c l) (hm : m ≤ 300) (hn0 : 0 ≤ n) (hn1 : n ≤ m) :
    Calls Try.prog 3 #[.slice A m c, .int .i64 n] w (TruePost w) := by
  have hml := h.1
  have hll : l.length ≤ 1099511627776 := by omega
  have hn2 : 0 ≤ n ∧ n ≤ l.length := by omega
  have e1 : rdTake l n = l.take n.toNat := by rw [rdTake, if_pos hn2]
  have e2 : rdDrop l n = l.drop n.toNat := by rw [rdDrop, if_pos hn2]
  have e3 : rdSh l n false = false := by rw [rdSh, if_pos hn2]
  have hn3 : 0 ≤ (m : Int) - n ∧ (m : Int) - n ≤ (l.drop n.toNat).length := by rw [List.length_drop]; omega
  have e4 : rdTake (l.drop n.toNat) (m - n) = l.drop n.toNat := by rw [rdTake, if_pos hn3, List.take_of_length_le]; rw [List.length_drop]; omega
  have e5 : rdDrop (l.drop n.toNat) (m - n) = [] := by rw [rdDrop, if_pos hn3, List.drop_of_length_le]; rw [List.length_drop]; omega
  have e6 : rdSh (l.drop n.toNat) (m - n) false = false := by rw [rdSh, if_pos hn3]
  have E1 := Lib.hid e1
  have E2 := Lib.hid e2
  have E3 := Lib.hid e3
  have E4 := Lib.hid e4
  have E5 := Lib.hid e5
  have E6 := Lib.hid e6
  clear e1 e2 e3 e4 e5 e6 hml hn2 hn3
  go_enter Try.func3, Try.ntmps3
  go_wp2_with fail
  refine (awake_any w).mono ?_
  rintro e w1 ⟨rfl, hb1⟩
  go_wp2_with fail
  have b1 : BS w1 w1.heap.size A m c l := (h.below hb1).more hb1.size
  refine (read_any w1 A m c l b1 hll).mono ?_
  rintro e w2 ⟨g, rfl, hg, hr2, hb2⟩
  go_wp2_with fail
  refine (bytes_any w2 g n l false hr2 hll).mono ?_
  rintro e w3 ⟨A3, n3, c3, rfl, ho3, hr3, hg3⟩
  rw [E1.out] at ho3
  rw [E2.out, E3.out] at hr3
  go_wp2_with fail
  refine (bytes_any w3 g _ _ false hr3 (by rw [List.length_drop]; omega)).mono ?_
  rintro e w4 ⟨A4, n4, c4, rfl, ho4, hr4, hg4⟩
  rw [E4.out] at ho4
  rw [E5.out, E6.out] at hr4
  have s3 := hg3.size
  have s4 := hg4.size
  have s2 := hb2.size
  have bel4 : Below w.heap.size w w4 := by
    have hz := hb1.size
    exact below_grown (below_grown (hb1.trans (hb2.mono hb1.size)) hg3 (by omega) (by omega)) hg4 (by omega) (by omega)
  have x3 := run_str (ho3.grown hg4 (heap_lt hr2.choose_spec.choose_spec.choose_spec.1)).bs
  have x4 := run_str ho4.bs
  have x5 := run_str (h.below bel4)
  have hsz : (str (List.take n.toNat l)).size + (str (List.drop n.toNat l)).size ≤ 9223372036854775807 := by simp only [str_size, List.length_take, List.length_drop]; omega
  have hcat : str (List.take n.toNat l) ++ str (List.drop n.toNat l) = str l := by rw [str_append, List.take_append_drop]
  go_wp2_with fail
  refine (short_any _ g _ _ hr4).mono ?_
  rintro e w5 ⟨rfl, rfl⟩
  go_wp2_with fail
  refine (left_any _ g _ _ hr4).mono ?_
  rintro e w5 ⟨rfl, rfl⟩
  go_wp2_with fail
  refine (ru8_any _ g _ _ hr4 (by simp)).mono ?_
  rintro e w5 ⟨rfl, hr5, hg5⟩
  rw [show beN (rdTake [] 1) = 0 by decide]
  rw [show rdDrop [] 1 = [] by decide, show rdSh [] 1 false = true by decide] at hr5
  go_wp2_with fail
  refine (short_any _ g _ _ hr5).mono ?_
  rintro e w6 ⟨rfl, rfl⟩
  go_wp2_with fail
  go_ret
  have hz := hb1.size
  exact ⟨rfl, below_grown bel4 hg5 (by omega) (by omega)⟩

set_option maxHeartbeats 400000 in
theorem parts_else (w : World) (A : Option Addr) (m c : Nat) (n : Int) (hm : 300 < m ∨ n < 0 ∨ m < n) (hmx : m ≤ 9223372036854775807) :
    Calls Try.prog 3 #[.slice A m c, .int .i64 n] w (TruePost w) := by
  by_cases h1 : 300 < m
  · clear hm
    go_enter Try.func3, Try.ntmps3
    go_wp2_with fail
    refine (awake_any w).mono ?_
    rintro e w1 ⟨rfl, hb1⟩
    go_wp2_with fail
    go_ret
    exact ⟨rfl, hb1⟩
  · by_cases h2 : n < 0
    · clear hm
      go_enter Try.func3, Try.ntmps3
      go_wp2_with fail
      refine (awake_any w).mono ?_
      rintro e w1 ⟨rfl, hb1⟩
      go_wp2_with fail
      go_ret
      exact ⟨rfl, hb1⟩
    · have h3 : (m : Int) < n := by omega
      clear hm
      go_enter Try.func3, Try.ntmps3
      go_wp2_with fail
      refine (awake_any w).mono ?_
      rintro e w1 ⟨rfl, hb1⟩
      go_wp2_with fail
      go_ret
      exact ⟨rfl, hb1⟩

theorem parts_any (w : World) (A : Option Addr) (m c : Nat) (l : List UInt8) (n : Int) (h : BS w w.heap.size A m c l) :
    Calls Try.prog 3 #[.slice A m c, .int .i64 n] w (TruePost w) := by
  by_cases hs : m ≤ 300 ∧ 0 ≤ n ∧ n ≤ m
  · exact parts_small w A m c l n h hs.1 hs.2.1 hs.2.2
  · exact parts_else w A m c n (by omega) (by have h1 := h.2.1; have h2 := h.2.2.1; unfold maxLen at h2; omega)

theorem parts_walk (w : World) (A : Option Addr) (m c : Nat) (l : List UInt8) (h : BS w w.heap.size A m c l) (n : Int) (_ : (Lit.int .i64 n).wf = true) :
    Calls Try.prog 3 #[.slice A m c, .int .i64 n] w (TruePost w) := parts_any w A m c l n h
end Go.Proofs.Ytmdanljnalfkfaa
