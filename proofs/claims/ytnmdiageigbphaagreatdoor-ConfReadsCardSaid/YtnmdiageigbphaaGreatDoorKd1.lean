/-
  Decimal digits read as a number, and as one word; the reference's text of a number.
-/
import Derived.Test.YtnmdiageigbphaaGreatDoorOctet6
import Derived.Lib.ItoaNum
import Derived.Lib.ItoaLen
import Derived.Test.YtnmdiageigbphaaGreatDoorKp2
import Derived.Test.YtnmdiageigbphaaGreatDoorRegion
namespace Go.Proofs.YtnmdiageigbphaaGreatDoor
section
open Go.RowKit

def decB (n : Nat) : List UInt8 := Lib.itoa (n : Int)
theorem decB_le (n : Nat) (hn : n ≤ 9000000000000000000 := by omega) : (decB n).length ≤ 21 := Lib.itoa_length_le _ (by omega) (by omega)
theorem decB_eq (n : Nat) : decB n = Lib.decDigits n := by rw [decB, Lib.itoa, if_neg (by omega), Int.toNat_natCast]
theorem dec_low {n : Nat} (h : n < 10) : decB n = [UInt8.ofNat (48 + n)] := by rw [decB_eq, Lib.decDigits, dif_pos h]
theorem dec_high {n : Nat} (h : ¬ n < 10) : decB n = decB (n / 10) ++ [UInt8.ofNat (48 + n % 10)] := by rw [decB_eq, Lib.decDigits, dif_neg h, decB_eq]
theorem ofNat_dec {n : Nat} (h : n < 256) : (UInt8.ofNat n).toNat = n := by
  rw [UInt8.toNat_ofNat']
  omega
/-- Digits alone. -/
theorem dec_digs (n : Nat) : ∀ b ∈ decB n, 48 ≤ b.toNat ∧ b.toNat ≤ 57 := by
  induction n using Nat.strongRecOn with
  | _ n ih =>
    by_cases h : n < 10
    · rw [dec_low h]
      intro b hb
      rw [List.mem_singleton.1 hb, ofNat_dec (by omega)]
      omega
    · rw [dec_high h]
      intro b hb
      rcases List.mem_append.1 hb with hb | hb
      · exact ih _ (by omega) b hb
      · rw [List.mem_singleton.1 hb, ofNat_dec (by omega)]
        omega
theorem dec_ne (n : Nat) : decB n ≠ [] := by
  by_cases h : n < 10
  · rw [dec_low h]; simp
  · rw [dec_high h]; simp
theorem dec_len : ∀ (k n : Nat), n < 10 ^ (k + 1) → (decB n).length ≤ k + 1
  | 0, n, h => by rw [dec_low (by simpa using h)]; simp
  | k + 1, n, h => by
    by_cases h1 : n < 10
    · rw [dec_low h1]; simp
    · rw [dec_high h1]
      have := dec_len k (n / 10) (by rw [Nat.pow_succ] at h; omega)
      simp; omega
end
section
open Go.RowKit

theorem numGoC_append : ∀ (a b : List UInt8) (n i : Nat), numGoC n i (a ++ b) = (numGoC n i a).bind fun m => numGoC m (i + a.length) b
  | [], b, n, i => by simp [numGoC]
  | x :: a, b, n, i => by
    rw [List.cons_append, numGoC, numGoC]
    split
    · rfl
    · rw [numGoC_append a b, List.length_cons, Nat.add_assoc, Nat.add_comm 1]
theorem numGoC_dec (n : Nat) (h : n < 1000000000) : numGoC 0 0 (decB n) = some n := by
  induction n using Nat.strongRecOn with
  | _ n ih =>
    by_cases h1 : n < 10
    · rw [dec_low h1, numGoC, ofNat_dec (by omega), if_neg (by omega)]
      simp [numGoC]
    · have hl := dec_len 7 (n / 10) (by omega)
      rw [dec_high h1, numGoC_append, ih (n / 10) (by omega) (by omega), Option.bind_some, numGoC, ofNat_dec (by omega), if_neg (by omega)]
      simp only [numGoC, Option.some.injEq]
      omega
theorem numC_dec (n : Nat) (h : n < 1000000000) : numC (decB n) = some n := by rw [numC, if_neg (dec_ne n), numGoC_dec n h]
theorem words_run : ∀ (s wd : List UInt8), wd ++ s ≠ [] → (∀ b ∈ s, blk b = false) → wordsW wd s = [wd ++ s]
  | [], wd, h, _ => by rw [wordsW, if_neg (by simpa using h), List.append_nil]
  | b :: r, wd, _, hb => by
    rw [wordsW, if_neg (by rw [hb b (by simp)]; decide), words_run r (wd ++ [b]) (by simp) (fun x hx => hb x (by simp [hx]))]
    simp
theorem words_one {s : List UInt8} (h : s ≠ []) (hb : ∀ b ∈ s, blk b = false) : words s = [s] := by
  rw [words, words_run s [] (by simpa using h) hb, List.nil_append]
theorem blk_digit {b : UInt8} (h : 48 ≤ b.toNat) : blk b = false := by
  simp only [blk, Bool.or_eq_false_iff, beq_eq_false_iff_ne]
  constructor <;> (rintro rfl; simp at h)
theorem words_dec (n : Nat) : words (decB n) = [decB n] := words_one (dec_ne n) fun b hb => blk_digit (dec_digs n b hb).1
theorem asc_dec (n : Nat) : asc (decB n) := fun b hb => by have := dec_digs n b hb; omega
def SPost (w : World) (l : List UInt8) (e : Ending) (w' : World) : Prop := e = .returned (.string (str l)) ∧ Below w.heap.size w w'
theorem cv_one (D : UInt8) (dv : Int) (hv : dv = (D.toNat : Int)) (W : World) : ∀ x, Ext (fun _ => False) (W.alloc (.cells #[.int .u8 dv] 5)) x →
    (convert 75 9 (.slice (some ⟨W.heap.size, 0, none⟩) 1 1)).run Tryz.prog x = .ok (.string (str [D])) x :=
  BS.reads (BS.block [D] (heap_alloc_new W _) (by simp [bv]; exact hv) (by simp [maxLen])) (Nat.le_refl _) (fun _ _ h => h)

set_option maxRecDepth 100000 in
set_option maxHeartbeats 1000000 in
theorem rtext_small (w : World) (n : Nat) (h : n < 10) : Calls Tryz.prog 49 #[.int .i64 n] w (SPost w (decB n)) := by
  have hd0 := dec_low h
  have hd1 := (show ((UInt8.ofNat (48 + n)).toNat : Int) = ((48 + n : Nat) : Int) by rw [ofNat_dec (by omega)])
  obtain ⟨D, hD⟩ : ∃ D, UInt8.ofNat (48 + n) = D := ⟨_, rfl⟩
  rw [hD] at hd0 hd1
  have HD := Lib.hid hd0
  have hd2 : 48 + (n : Int) = (D.toNat : Int) := by omega
  have d1 : decide ((n : Int) < 0) = false := decide_eq_false (by omega)
  have d2 : decide ((n : Int) < 10) = true := decide_eq_true (by omega)
  have d3 : decide (n < 10) = true := decide_eq_true h
  have cv := cv_one D (48 + (n : Int)) hd2 w _ (Ext.refl _ _)
  clear hd0 hd1 hd2 hD
  have q1 : Below w.heap.size w (w.alloc (.cells #[.int .u8 (48 + (n : Int))] 5)) := (Below.refl _ w).alloc (Nat.le_refl _) _
  go_enter Tryz.func49, Tryz.ntmps49
  go_wp2_with fail
  go_ret
  exact ⟨by rw [HD.out]; rfl, q1⟩
set_option maxRecDepth 100000 in
set_option maxHeartbeats 1000000 in
theorem rtext_step (n : Nat) (h : ¬ n < 10) (h2 : n < 1000000000000000000) (ih : ∀ w, Calls Tryz.prog 49 #[.int .i64 ((n / 10 : Nat) : Int)] w (SPost w (decB (n / 10)))) (w : World) :
    Calls Tryz.prog 49 #[.int .i64 n] w (SPost w (decB n)) := by
  have hd0 := dec_high h
  have hd1 := (show ((UInt8.ofNat (48 + n % 10)).toNat : Int) = ((48 + n % 10 : Nat) : Int) by rw [ofNat_dec (by omega)])
  obtain ⟨D, hD⟩ : ∃ D, UInt8.ofNat (48 + n % 10) = D := ⟨_, rfl⟩
  rw [hD] at hd0 hd1
  have hd2 : 48 + (n : Int) % 10 = (D.toNat : Int) := by omega
  have hl := decB_le (n / 10)
  obtain ⟨A, hA⟩ : ∃ l, decB (n / 10) = l := ⟨_, rfl⟩
  rw [hA] at ih hl hd0
  have HD := Lib.hid hd0
  have d1 : decide ((n : Int) < 0) = false := decide_eq_false (by omega)
  have d2 : decide ((n : Int) < 10) = false := decide_eq_false (by omega)
  have d3 : decide (n < 10) = false := decide_eq_false h
  have CV := Lib.hid (cv_one D (48 + (n : Int) % 10) hd2)
  have s9 : ∀ w, (Op.stringOp .add (str A) (str [D])).run Tryz.prog w = .ok (.string (str (A ++ [D]))) w := fun w => str_addL w _ _ (by simp; omega)
  rw [show ((n / 10 : Nat) : Int) = (n : Int) / 10 by omega] at ih
  have HI := Lib.hid ih
  clear hA ih hd0 hd1 hd2 hD
  have ew1 : IntKind.i64.wrap ((n : Int) / 10) = (n : Int) / 10 := IntWalk.i64_in _ (by omega)
  have et : (n : Int).tmod 10 = (n : Int) % 10 := Int.tmod_eq_emod_of_nonneg (by omega)
  have ew2 : IntKind.i64.wrap (48 + (n : Int) % 10) = 48 + (n : Int) % 10 := IntWalk.i64_in _ (by omega)
  have ew3 : IntKind.u8.wrap (48 + (n : Int) % 10) = 48 + (n : Int) % 10 := by
    have : IntKind.u8.wrap (48 + (n : Int) % 10) = (48 + (n : Int) % 10) % 256 := by simp [IntKind.wrap, IntKind.bits, IntKind.signed]
    omega
  go_enter Tryz.func49, Tryz.ntmps49
  go_upto_region 7 with fail
  have rr : Below w.heap.size w w.drew := (Below.refl _ _).drew
  refine rg_begin (fun _ => False) (by kernel_rfl) ?_
  generalize w.drew = wd at rr ⊢
  refine rg_take (v := ?_) 0 rfl (by kernel_rfl) (by kernel_rfl) (by kernel_rfl) (fun _ _ _ h => h) (by rfl) ?_ ?_; rotate_left
  · (intro x hx; go_simp; first | done | with_reducible rfl | (rw [if_pos (by omega)]; try with_reducible rfl) | (rw [if_neg (by omega)]; try with_reducible rfl))
  try simp only [Act.put, List.setIfInBounds_toArray, List.set_cons_zero, List.set_cons_succ]
  refine rg_take (v := ?_) 1 rfl (by kernel_rfl) (by kernel_rfl) (by kernel_rfl) (fun _ _ _ h => h) (by rfl) ?_ ?_; rotate_left
  · (intro x hx; go_simp; first | done | with_reducible rfl | (rw [if_pos (by omega)]; try with_reducible rfl) | (rw [if_neg (by omega)]; try with_reducible rfl))
  try simp only [Act.put, List.setIfInBounds_toArray, List.set_cons_zero, List.set_cons_succ]
  refine rg_take (v := ?_) 3 rfl (by kernel_rfl) (by kernel_rfl) (by kernel_rfl) (fun _ _ _ h => h) (by rfl) ?_ ?_; rotate_left
  · (intro x hx; go_simp; first | done | with_reducible rfl | (rw [if_pos (by omega)]; try with_reducible rfl) | (rw [if_neg (by omega)]; try with_reducible rfl))
  try simp only [Act.put, List.setIfInBounds_toArray, List.set_cons_zero, List.set_cons_succ]
  refine rg_take (v := ?_) 4 rfl (by kernel_rfl) (by kernel_rfl) (by kernel_rfl) (fun _ _ _ h => h) (by rfl) ?_ ?_; rotate_left
  · (intro x hx; go_simp; first | done | with_reducible rfl | (rw [if_pos (by omega)]; try with_reducible rfl) | (rw [if_neg (by omega)]; try with_reducible rfl))
  try simp only [Act.put, List.setIfInBounds_toArray, List.set_cons_zero, List.set_cons_succ]
  refine rg_take (v := ?_) 5 rfl (by kernel_rfl) (by kernel_rfl) (by kernel_rfl) (fun _ _ _ h => h) (by rfl) ?_ ?_; rotate_left
  · (intro x hx; go_simp; first | done | with_reducible rfl | (rw [if_pos (by omega)]; try with_reducible rfl) | (rw [if_neg (by omega)]; try with_reducible rfl))
  try simp only [Act.put, List.setIfInBounds_toArray, List.set_cons_zero, List.set_cons_succ]
  refine rg_take (v := ?_) 6 rfl (by kernel_rfl) (by kernel_rfl) (by kernel_rfl) (fun _ _ _ h => h) (by rfl) ?_ ?_; rotate_left
  · (intro x hx; go_simp; first | done | with_reducible rfl | (rw [if_pos (by omega)]; try with_reducible rfl) | (rw [if_neg (by omega)]; try with_reducible rfl))
  try simp only [Act.put, List.setIfInBounds_toArray, List.set_cons_zero, List.set_cons_succ]
  refine rg_two 2 7 rfl rfl (by kernel_rfl) (by rfl) (by rfl) (fun K hK => ?_) (fun K hK => ?_)
  · go_simp
    refine (HI.out _).mono ?_
    rintro e wn ⟨rfl, qn⟩
    replace rr := rr.trans (qn.mono rr.size)
    refine hK.out _ _ (Ext.below_all _ qn) ?_
    clear hK K; try simp only [Act.put, List.setIfInBounds_toArray, List.set_cons_zero, List.set_cons_succ]
    refine rg_step 7 rfl (by kernel_rfl) (by rfl) (fun K hK => ?_)
    go_simp
    first
      | have cv := CV.out wn
      | have cv := CV.out wd
    replace rr := rr.alloc rr.size (.cells #[.int .u8 (48 + (n : Int) % 10)] 5)
    refine hK.out _ _ (Ext.below_all _ ((Below.refl _ _).alloc (Nat.le_refl _) _)) ?_
    clear hK K; try simp only [Act.put, List.setIfInBounds_toArray, List.set_cons_zero, List.set_cons_succ]
    refine rg_take (v := ?_) 8 rfl (by kernel_rfl) (by kernel_rfl) (by kernel_rfl) (fun _ _ _ h => h) (by rfl) ?_ ?_; rotate_left
    · (intro x hx; go_simp; first | done | with_reducible rfl | (rw [if_pos (by omega)]; try with_reducible rfl) | (rw [if_neg (by omega)]; try with_reducible rfl))
    try simp only [Act.put, List.setIfInBounds_toArray, List.set_cons_zero, List.set_cons_succ]
    refine rg_take (v := ?_) 9 rfl (by kernel_rfl) (by kernel_rfl) (by kernel_rfl) (fun _ _ _ h => h) (by rfl) ?_ ?_; rotate_left
    · (intro x hx; go_simp; first | done | with_reducible rfl | (rw [if_pos (by omega)]; try with_reducible rfl) | (rw [if_neg (by omega)]; try with_reducible rfl))
    try simp only [Act.put, List.setIfInBounds_toArray, List.set_cons_zero, List.set_cons_succ]
    refine rg_take (v := ?_) 10 rfl (by kernel_rfl) (by kernel_rfl) (by kernel_rfl) (fun _ _ _ h => h) (by rfl) ?_ ?_; rotate_left
    · (intro x hx; go_simp; first | done | with_reducible rfl | (rw [if_pos (by omega)]; try with_reducible rfl) | (rw [if_neg (by omega)]; try with_reducible rfl))
    try simp only [Act.put, List.setIfInBounds_toArray, List.set_cons_zero, List.set_cons_succ]
    refine rg_done (by kernel_rfl) ?_
    --TAIL
    go_wp2_with fail
    go_ret
    exact ⟨by rw [HD.out]; rfl, rr⟩
  · go_simp
    first
      | have cv := CV.out wn
      | have cv := CV.out wd
    replace rr := rr.alloc rr.size (.cells #[.int .u8 (48 + (n : Int) % 10)] 5)
    refine hK.out _ _ (Ext.below_all _ ((Below.refl _ _).alloc (Nat.le_refl _) _)) ?_
    clear hK K; try simp only [Act.put, List.setIfInBounds_toArray, List.set_cons_zero, List.set_cons_succ]
    refine rg_take (v := ?_) 8 rfl (by kernel_rfl) (by kernel_rfl) (by kernel_rfl) (fun _ _ _ h => h) (by rfl) ?_ ?_; rotate_left
    · (intro x hx; go_simp; first | done | with_reducible rfl | (rw [if_pos (by omega)]; try with_reducible rfl) | (rw [if_neg (by omega)]; try with_reducible rfl))
    try simp only [Act.put, List.setIfInBounds_toArray, List.set_cons_zero, List.set_cons_succ]
    refine rg_step 2 rfl (by kernel_rfl) (by rfl) (fun K hK => ?_)
    go_simp
    refine (HI.out _).mono ?_
    rintro e wn ⟨rfl, qn⟩
    replace rr := rr.trans (qn.mono rr.size)
    refine hK.out _ _ (Ext.below_all _ qn) ?_
    clear hK K; try simp only [Act.put, List.setIfInBounds_toArray, List.set_cons_zero, List.set_cons_succ]
    refine rg_take (v := ?_) 9 rfl (by kernel_rfl) (by kernel_rfl) (by kernel_rfl) (fun _ _ _ h => h) (by rfl) ?_ ?_; rotate_left
    · (intro x hx; go_simp; first | done | with_reducible rfl | (rw [if_pos (by omega)]; try with_reducible rfl) | (rw [if_neg (by omega)]; try with_reducible rfl))
    try simp only [Act.put, List.setIfInBounds_toArray, List.set_cons_zero, List.set_cons_succ]
    refine rg_take (v := ?_) 10 rfl (by kernel_rfl) (by kernel_rfl) (by kernel_rfl) (fun _ _ _ h => h) (by rfl) ?_ ?_; rotate_left
    · (intro x hx; go_simp; first | done | with_reducible rfl | (rw [if_pos (by omega)]; try with_reducible rfl) | (rw [if_neg (by omega)]; try with_reducible rfl))
    try simp only [Act.put, List.setIfInBounds_toArray, List.set_cons_zero, List.set_cons_succ]
    refine rg_done (by kernel_rfl) ?_
    --TAIL
    go_wp2_with fail
    go_ret
    exact ⟨by rw [HD.out]; rfl, rr⟩
theorem rtext_all (w : World) (n : Nat) (h : n < 1000000000000000000) : Calls Tryz.prog 49 #[.int .i64 n] w (SPost w (decB n)) := by
  induction n using Nat.strongRecOn generalizing w with
  | _ n ih =>
    by_cases h1 : n < 10
    · exact rtext_small w n h1
    · exact rtext_step n h1 h (fun w => ih (n / 10) (by omega) w (by omega)) w
end
end Go.Proofs.YtnmdiageigbphaaGreatDoor
