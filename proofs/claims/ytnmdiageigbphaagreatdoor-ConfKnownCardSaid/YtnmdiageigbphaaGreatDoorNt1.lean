/-
  ConfNets, the plain law: a net told alone.
-/
import Derived.Test.YtnmdiageigbphaaGreatDoorTq3
import Derived.Test.YtnmdiageigbphaaGreatDoorKt1
namespace Go.Proofs.YtnmdiageigbphaaGreatDoor
open Go.RowKit

theorem adeq_num (a b : Ad4) : adeq a b = decide (numA a = numA b) := by
  rw [Bool.eq_iff_iff, adeq_iff, decide_eq_true_iff]
  exact ⟨fun h => h ▸ rfl, numA_inj⟩
theorem num_firstA (a : Ad4) (b : Int) (k : Nat) (hk : k ≤ 32) (hb : behN b = 2 ^ k - 1) : numA (firstA a b) = numA a / 2 ^ k * 2 ^ k := by
  unfold firstA
  rw [numA_of4 _ (first_lt _ _ (numA_lt a)), hb, firstN_eq _ _ (numA_lt a) hk]
theorem num_lastA (a : Ad4) (b : Int) (k : Nat) (hb : behN b = 2 ^ k - 1) : numA (lastA a b) = numA a / 2 ^ k * 2 ^ k + (2 ^ k - 1) := by
  unfold lastA
  rw [numA_of4 _ (last_lt _ _ (numA_lt a) (behN_lt b)), hb, lastN_eq]
/-- An address of the net, neither of its ends, by numbers. -/
theorem inB_num (c : Cf) (k F : Nat) (hk : k ≤ 32) (hb : behN c.lanB = 2 ^ k - 1) (hF : numA c.lanA = F) (hal : F / 2 ^ k * 2 ^ k = F) (y : Ad4) :
    inB c y = (decide (F < numA y) && decide (numA y < F + (2 ^ k - 1))) := by
  have hFl : F < 4294967296 := hF ▸ numA_lt c.lanA
  rw [inB, adeq_num, adeq_num, num_firstA _ _ k hk hb, num_lastA _ _ k hb, hF, hb, has_within _ _ _ (numA_lt y) hFl hk, firstN_eq _ _ hFl hk, lastN_eq, hal]
  rw [Bool.eq_iff_iff]
  simp only [Bool.and_eq_true, Bool.not_eq_true', decide_eq_true_eq, decide_eq_false_iff_not]
  omega
def lanT (a : Ad4) (b : Nat) : List UInt8 := [108, 97, 110, 32, 61, 32] ++ (textA a ++ 47 :: decB b)
theorem textA_digs (a : Ad4) : ∀ b ∈ textA a, 46 ≤ b.toNat ∧ b.toNat ≤ 57 ∧ b.toNat ≠ 47 := by
  intro b hb
  have h46 : ((46 : UInt8).toNat) = 46 := rfl
  rw [textA] at hb
  simp only [List.mem_append, List.mem_cons] at hb
  rcases hb with h | h | h | h | h | h | h
  · have := dec_digs _ b h; omega
  · subst h; omega
  · have := dec_digs _ b h; omega
  · subst h; omega
  · have := dec_digs _ b h; omega
  · subst h; omega
  · have := dec_digs _ b h; omega
theorem textA_ne (a : Ad4) : textA a ≠ [] := by
  rw [textA]
  intro h
  have := (List.append_eq_nil_iff.1 h).1
  exact dec_ne _ this
theorem netT_digs (a : Ad4) (k : Nat) : ∀ b ∈ textA a ++ 47 :: decB k, 46 ≤ b.toNat ∧ b.toNat ≤ 57 := by
  intro b hb
  rcases List.mem_append.1 hb with h | h
  · have := textA_digs a b h; omega
  · rcases List.mem_cons.1 h with rfl | h
    · decide
    · have := dec_digs _ b h; omega
theorem nb_of {b : UInt8} (h : 46 ≤ b.toNat) : blk b = false := by
  simp only [blk, Bool.or_eq_false_iff, beq_eq_false_iff_ne]
  constructor <;> (rintro rfl; simp at h)
theorem netT_nb (a : Ad4) (k : Nat) : ∀ b ∈ textA a ++ 47 :: decB k, blk b = false := fun b hb => nb_of (netT_digs a k b hb).1
theorem lanT_cut (a : Ad4) (k : Nat) : cutE 61 (lanT a k) = ([108, 97, 110, 32], 32 :: (textA a ++ 47 :: decB k), true) := by
  rw [lanT, show ([108, 97, 110, 32, 61, 32] : List UInt8) ++ (textA a ++ 47 :: decB k) = [108, 97, 110, 32] ++ 61 :: (32 :: (textA a ++ 47 :: decB k)) from rfl, cutE_app 61 _ _ (by decide)]
theorem words_net (a : Ad4) (k : Nat) : words (32 :: (textA a ++ 47 :: decB k)) = [textA a ++ 47 :: decB k] := by
  rw [words, wordsW, if_pos (by decide), if_pos rfl]
  have h := words_one (s := textA a ++ 47 :: decB k) (by simp) (netT_nb a k)
  exact h
theorem lanT_quiet (a : Ad4) (k : Nat) : quiet (lanT a k) = false := by
  have e : lanT a k = [108, 97, 110] ++ 32 :: ([61] ++ 32 :: (textA a ++ 47 :: decB k)) := rfl
  rw [quiet, e, words, wordsW_app _ _ _ (by simp) (by decide)]
  rfl
theorem valOw_net (a : Ad4) (k : Nat) (hk : k < 1000000000) : valOw (textA a ++ 47 :: decB k) = some (.o a k) := by
  have e : cutE 47 (textA a ++ 47 :: decB k) = (textA a, decB k, true) := cutE_app 47 _ _ (fun x hx => by
    have := textA_digs a x hx
    rintro rfl
    exact this.2.2 rfl)
  rw [valOw, e]
  simp only [parse_text, numC_dec k hk, Option.isSome_some, Option.getD_some, and_self, if_true]
theorem lan_values (a : Ad4) (k : Nat) (hk : k < 1000000000) : valuesV nLan (32 :: (textA a ++ 47 :: decB k)) = some [.o a k] := by
  have h1 : valK 111 (textA a ++ 47 :: decB k) = some (.o a k) := valOw_net a k hk
  rw [valuesV, words_net, show kindsV nLan = [111] from rfl, if_neg (by simp), valsGo, h1]
  rfl
theorem lan_name (a : Ad4) (k : Nat) : nameOf (lanT a k) = nLan := by rw [nameOf, lanT_cut]; kernel_rfl
theorem lan_line (C : Cg) (S : List (List UInt8)) (a : Ad4) (k : Nat) (hk : k < 1000000000) (hS : nLan ∉ S) :
    lineG C S (lanT a k) = (0, { C with c := { C.c with own := a, lanA := firstA a k, lanB := k } }, nLan :: S) := by
  rw [lineG, if_neg (by rw [lanT_quiet]; decide), lan_name, lanT_cut]
  simp only
  rw [lineGW_some (lan_values a k hk), if_neg (fun h => hS h.1)]
  rfl
theorem cutB_one (c : UInt8) (s : List UInt8) (h : ∀ x ∈ s, x ≠ c) : cutB c s = [s] := cutB_none c s h
theorem lanT_lines (a : Ad4) (k : Nat) : linesV (lanT a k) = [lanT a k] := by
  have h : ∀ x ∈ lanT a k, x ≠ 10 := by
    intro x hx
    rcases List.mem_append.1 hx with hx | hx
    · exact (show ∀ b ∈ ([108, 97, 110, 32, 61, 32] : List UInt8), b ≠ 10 by decide) x hx
    · have := netT_digs a k x hx
      rintro rfl
      simp at this
  rw [linesV, cutB_one 10 _ h, if_neg]
  intro e
  have : lanT a k = [] := by simpa using e
  rw [lanT] at this
  simp at this
theorem lanT_len (a : Ad4) (k : Nat) (hk : k ≤ 1000) : (lanT a k).length ≤ 200 := by
  have h1 := textA_le a
  have h2 := decB_le k
  rw [lanT]
  simp
  omega
/-- Where the pool of a net stands of itself. -/
def netLo (F b : Nat) : Nat := if 24 < b then F + 2 else F + 100
def netHi (F b k : Nat) : Nat := if 24 < b then (if F + (2 ^ k - 1) - 1 < F + 33 then F + (2 ^ k - 1) - 1 else F + 33) else F + 131
def netCf (a : Ad4) (b : Nat) : Cf := { usC with own := a, lanA := firstA a b, lanB := b, fst := of4 (netLo (numA a / 2 ^ (32 - b) * 2 ^ (32 - b)) b), lst := of4 (netHi (numA a / 2 ^ (32 - b) * 2 ^ (32 - b)) b (32 - b)) }
theorem pow_cases (b : Nat) (h1 : 8 ≤ b) (h2 : b ≤ 28) : ∃ k, k = 32 - b ∧ 4 ≤ k ∧ k ≤ 24 := ⟨_, rfl, by omega, by omega⟩
theorem pow_div (k : Nat) (hk : k ≤ 32) : ∃ q, 4294967296 = 2 ^ k * q := ⟨2 ^ (32 - k), by rw [← Nat.pow_add, show k + (32 - k) = 32 by omega]⟩
theorem net_end (x P q : Nat) (hP : 0 < P) (hx : x < P * q) : x / P * P + P ≤ P * q := by
  have h1 : x / P < q := by
    rw [Nat.div_lt_iff_lt_mul hP, Nat.mul_comm]
    exact hx
  have h2 : (x / P + 1) * P ≤ q * P := Nat.mul_le_mul_right P h1
  rw [Nat.add_mul, Nat.one_mul] at h2
  rw [Nat.mul_comm P q]
  exact h2
def netOkB (a : Ad4) (b : Nat) : Bool :=
  !decide (numA a = numA a / 2 ^ (32 - b) * 2 ^ (32 - b)) && !decide (numA a = numA a / 2 ^ (32 - b) * 2 ^ (32 - b) + (2 ^ (32 - b) - 1)) &&
    (decide (numA a < netLo (numA a / 2 ^ (32 - b) * 2 ^ (32 - b)) b) || decide (netHi (numA a / 2 ^ (32 - b) * 2 ^ (32 - b)) b (32 - b) < numA a))
/-- All that is to be known of such a net's numbers. -/
structure NetN (a : Ad4) (b F P : Nat) : Prop where
  le : F ≤ numA a
  lt : numA a < F + P
  top : F + P ≤ 4294967296
  al : F / P * P = F
  p16 : 16 ≤ P
  p128 : 24 < b → P ≤ 128
  p256 : ¬ 24 < b → 256 ≤ P
theorem netN (a : Ad4) (b : Nat) (h1 : 8 ≤ b) (h2 : b ≤ 28) : NetN a b (numA a / 2 ^ (32 - b) * 2 ^ (32 - b)) (2 ^ (32 - b)) := by
  obtain ⟨k, hk, hk4, hk24⟩ := pow_cases b h1 h2
  rw [← hk]
  have hp : 0 < (2 : Nat) ^ k := Nat.two_pow_pos k
  obtain ⟨q, hq⟩ := pow_div k (by omega)
  have hx := numA_lt a
  have h16 : (2 : Nat) ^ 4 ≤ 2 ^ k := Nat.pow_le_pow_right (by decide) hk4
  have h128 : 24 < b → (2 : Nat) ^ k ≤ 2 ^ 7 := fun h => Nat.pow_le_pow_right (by decide) (by omega)
  have h256 : ¬ 24 < b → (2 : Nat) ^ 8 ≤ 2 ^ k := fun h => Nat.pow_le_pow_right (by decide) (by omega)
  obtain ⟨P, hP⟩ : ∃ P, (2 : Nat) ^ k = P := ⟨_, rfl⟩
  rw [hP] at hp hq h16 h128 h256 ⊢
  have hm := Nat.div_add_mod (numA a) P
  have hml := Nat.mod_lt (numA a) hp
  rw [Nat.mul_comm] at hm
  refine ⟨by omega, by omega, ?_, ?_, by omega, by omega, by omega⟩
  · have := net_end (numA a) P q hp (by rw [← hq]; exact hx)
    rw [← hq] at this
    exact this
  · rw [Nat.mul_div_cancel _ hp]
theorem chk_usual (c : Cf) (h1 : netB c = true) (h2 : poolB c = true) (h3 : timesB c = true) : chkG ⟨c, [], []⟩ = 0 := by
  rw [chkG, checkG]
  simp only
  rw [h1, h2, h3]
  rfl
theorem chk_no (c : Cf) (h : (netB c && poolB c) = false) : chkG ⟨c, [], []⟩ = 1 := by
  rw [chkG, checkG]
  simp only
  rw [h]
  rfl
theorem net_beh (b : Nat) (h2 : b ≤ 32) : behN (b : Int) = 2 ^ (32 - b) - 1 := beh_mid (32 - b) (by omega) (by omega)
theorem w32_nat (n : Nat) (h : n < 4294967296) : w32 (n : Int) = n := by unfold w32; omega
/-- The pool's ends of themselves, as the program reckons them. -/
theorem ends_net (a : Ad4) (b : Nat) (h1 : 8 ≤ b) (h2 : b ≤ 28) :
    endsV { usC with own := a, lanA := firstA a b, lanB := b } [nLan] = netCf a b := by
  have hb := net_beh b (by omega)
  have N := netN a b h1 h2
  have f1 := num_firstA a b (32 - b) (by omega) hb
  obtain ⟨F, hF⟩ : ∃ F, numA a / 2 ^ (32 - b) * 2 ^ (32 - b) = F := ⟨_, rfl⟩
  obtain ⟨P, hP⟩ : ∃ P, (2 : Nat) ^ (32 - b) = P := ⟨_, rfl⟩
  have f2 := num_firstA (firstA a b) b (32 - b) (by omega) hb
  have f3 := num_lastA (firstA a b) b (32 - b) hb
  rw [endsV_yes (by simp), if_neg (by decide), if_neg (by decide), netCf, hF, netLo, netHi]
  rw [hF] at f1 N
  rw [f1, hP] at f2 f3
  rw [hP] at N ⊢
  rw [N.al] at f2 f3
  have t := N.top
  have p16 := N.p16
  have e1 : endF { usC with own := a, lanA := firstA a b, lanB := b } = ((if 24 < b then F + 2 else F + 100 : Nat) : Int) := by
    rw [endF]
    simp only [f2]
    by_cases h : 24 < b
    · rw [if_pos (by omega), if_pos h]
      exact (congrArg w32 (by omega)).trans (w32_nat (F + 2) (by omega))
    · have := N.p256 h
      rw [if_neg (by omega), if_neg h]
      exact (congrArg w32 (by omega)).trans (w32_nat (F + 100) (by omega))
  have e2 : endL { usC with own := a, lanA := firstA a b, lanB := b } = ((if 24 < b then (if F + (P - 1) - 1 < F + 33 then F + (P - 1) - 1 else F + 33) else F + 131 : Nat) : Int) := by
    rw [endL]
    simp only [f2, f3]
    by_cases h : 24 < b
    · have := N.p128 h
      have g1 : w32 ((F : Int) + 2) = ((F + 2 : Nat) : Int) := (congrArg w32 (by omega)).trans (w32_nat (F + 2) (by omega))
      have g2 : w32 (((F + (P - 1) : Nat) : Int) - 1) = ((F + (P - 1) - 1 : Nat) : Int) := (congrArg w32 (by omega)).trans (w32_nat (F + (P - 1) - 1) (by omega))
      have g3 : w32 (((F + (P - 1) - 1 : Nat) : Int) - ((F + 2 : Nat) : Int)) = ((P - 4 : Nat) : Int) := (congrArg w32 (by omega)).trans (w32_nat (P - 4) (by omega))
      rw [if_pos (by omega), if_pos h, g1, g2, g3]
      by_cases h3 : 31 < P - 4
      · have g4 : w32 (((F + 2 : Nat) : Int) + 31) = ((F + 33 : Nat) : Int) := (congrArg w32 (by omega)).trans (w32_nat (F + 33) (by omega))
        rw [if_pos (by omega), g4, if_neg (by omega)]
      · rw [if_neg (by omega)]
        split <;> omega
    · have := N.p256 h
      rw [if_neg (by omega), if_neg h]
      exact (congrArg w32 (by omega)).trans (w32_nat (F + 131) (by omega))
  rw [e1, e2]
theorem net_parse (a : Ad4) (b : Nat) (h1 : 8 ≤ b) (h2 : b ≤ 28) :
    parseG (lanT a b) = if netOkB a b = true then (⟨netCf a b, [], []⟩, 0, 0) else (zG, 0, 1) := by
  have hl := lanT_len a b (by omega)
  rw [parseG, if_neg (by rw [lanT_lines]; simp; omega), lanT_lines, goG, lan_line usG [] a b (by omega) (by simp), if_pos rfl, goG, resG, if_pos rfl]
  simp only [endsG, show usG.c = usC from rfl]
  rw [ends_net a b h1 h2]
  have hb := net_beh b (by omega)
  have N := netN a b h1 h2
  have f1 := num_firstA a b (32 - b) (by omega) hb
  have hnb : ∀ y, inB (netCf a b) y = (decide (numA a / 2 ^ (32 - b) * 2 ^ (32 - b) < numA y) && decide (numA y < numA a / 2 ^ (32 - b) * 2 ^ (32 - b) + (2 ^ (32 - b) - 1))) :=
    fun y => inB_num (netCf a b) (32 - b) _ (by omega) hb f1 N.al y
  have key : (netB (netCf a b) && poolB (netCf a b)) = netOkB a b := by
    obtain ⟨F, hF⟩ : ∃ F, numA a / 2 ^ (32 - b) * 2 ^ (32 - b) = F := ⟨_, rfl⟩
    obtain ⟨P, hP⟩ : ∃ P, (2 : Nat) ^ (32 - b) = P := ⟨_, rfl⟩
    have c1 : (netCf a b).fst = of4 (netLo F b) := by rw [← hF]; rfl
    have c2 : (netCf a b).lst = of4 (netHi F b (32 - b)) := by rw [← hF]; rfl
    have lo1 : netLo F b < 4294967296 := by
      have k1 := N.top; rw [hF, hP] at k1
      have k2 := N.p16; have k3 := N.p256; rw [hP] at k2 k3
      unfold netLo; split <;> omega
    have hi1 : netHi F b (32 - b) < 4294967296 := by
      have k1 := N.top; rw [hF, hP] at k1
      have k2 := N.p16; have k3 := N.p256; have k4 := N.p128; rw [hP] at k2 k3 k4
      unfold netHi; rw [hP]; split
      · split <;> omega
      · omega
    rw [netB, poolB, hnb, hnb, hnb, c1, c2, numA_of4 _ lo1, numA_of4 _ hi1]
    rw [show (netCf a b).lanB = (b : Int) from rfl, show (netCf a b).own = a from rfl, show (netCf a b).lanA = firstA a b from rfl, adeq_self, show grpB (netCf a b).lm = false from (show grpB usC.lm = false by kernel_rfl), show grpB (netCf a b).wm = false from (show grpB usC.wm = false by kernel_rfl)]
    rw [show inR (b : Int) 8 30 = true by rw [inR, decide_eq_true (by omega), decide_eq_true (by omega)]; rfl]
    rw [netOkB, hF, hP]
    have t := N.top; have le := N.le; have lt := N.lt; have p16 := N.p16; have p128 := N.p128; have p256 := N.p256
    rw [hF] at t le lt
    rw [hP] at t lt p16 p128 p256
    unfold netLo netHi
    rw [hP, Bool.eq_iff_iff]
    by_cases h : 24 < b
    · have := p128 h
      simp only [h, if_true]
      by_cases h3 : F + (P - 1) - 1 < F + 33
      · simp only [h3, if_true]
        simp only [Bool.and_eq_true, Bool.or_eq_true, Bool.not_eq_true', Bool.not_false, decide_eq_true_eq, decide_eq_false_iff_not, true_and, and_true]
        omega
      · simp only [h3, if_false]
        simp only [Bool.and_eq_true, Bool.or_eq_true, Bool.not_eq_true', Bool.not_false, decide_eq_true_eq, decide_eq_false_iff_not, true_and, and_true]
        omega
    · have := p256 h
      simp only [h, if_false]
      simp only [Bool.and_eq_true, Bool.or_eq_true, Bool.not_eq_true', Bool.not_false, decide_eq_true_eq, decide_eq_false_iff_not, true_and, and_true]
      omega
  by_cases ho : netOkB a b = true
  · rw [if_pos ho]
    rw [ho, Bool.and_eq_true] at key
    rw [show usG.lf = [] from rfl, show usG.lo = [] from rfl, chk_usual _ key.1 key.2 (by kernel_rfl), if_pos rfl]
  · rw [if_neg ho]
    rw [Bool.not_eq_true] at ho
    rw [show usG.lf = [] from rfl, show usG.lo = [] from rfl, chk_no _ (by rw [key, ho]), if_neg (by decide)]
end Go.Proofs.YtnmdiageigbphaaGreatDoor
