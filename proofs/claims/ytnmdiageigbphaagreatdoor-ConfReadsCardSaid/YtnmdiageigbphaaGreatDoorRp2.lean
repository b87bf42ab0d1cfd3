/-
  ConfReads, the plain law: where the pool stands of itself, as the reference reckons.
-/
import Derived.Test.YtnmdiageigbphaaGreatDoorRe4
import Derived.Test.YtnmdiageigbphaaGreatDoorNt1
namespace Go.Proofs.YtnmdiageigbphaaGreatDoor
section
open Go.RowKit

/-! Numbers. -/
theorem goC_pos : ∀ (l : List UInt8) (n i : Nat), n ≠ 0 → digs l → i + l.length ≤ 9 → numGoC n i l = some (valF n l)
  | [], _, _, _, _, _ => rfl
  | b :: r, n, i, hn, hd, hl => by
    have hb := hd b (by simp)
    rw [List.length_cons] at hl
    rw [numGoC, if_neg (by
      rintro (h | h | h | h)
      · omega
      · omega
      · exact hn h.2
      · omega)]
    exact goC_pos r _ (i + 1) (by omega) (fun x hx => hd x (by simp [hx])) (by omega)
theorem goC_spec : ∀ (l : List UInt8) (n i v : Nat), numGoC n i l = some v → digs l ∧ v = valF n l ∧ (l ≠ [] → i + l.length ≤ 9) ∧ (l ≠ [] → 0 < i → n ≠ 0)
  | [], n, i, v, h => by
    have hv : n = v := by simpa [numGoC] using h
    exact ⟨fun _ h => by simp at h, hv.symm, fun h => absurd rfl h, fun h => absurd rfl h⟩
  | b :: r, n, i, v, h => by
    rw [numGoC] at h
    split at h
    · cases h
    · rename_i hc
      obtain ⟨h1, h2, h3, _⟩ := goC_spec r _ (i + 1) v h
      refine ⟨fun x hx => ?_, h2, fun _ => ?_, fun _ hi hn => hc (.inr (.inr (.inl ⟨hi, hn⟩)))⟩
      · rcases List.mem_cons.1 hx with rfl | hx
        · exact ⟨by omega, by omega⟩
        · exact h1 x hx
      · rw [List.length_cons]
        by_cases hr : r = []
        · subst hr
          simp
          omega
        · have := h3 hr
          omega
theorem goC_top {s : List UInt8} (h0 : s ≠ []) (h9 : s.length ≤ 9) (hd : digs s) (hz : 1 < s.length → s.getD 0 0 ≠ 48) : numGoC 0 0 s = some (valF 0 s) := by
  match s, h0, h9, hd, hz with
  | b :: r, _, h9, hd, hz =>
    have hb := hd b (by simp)
    rw [numGoC, if_neg (by
      rintro (h | h | h | h)
      · omega
      · omega
      · omega
      · omega)]
    rcases r with _ | ⟨c, r⟩
    · rfl
    · have h1 := hz (by simp)
      have h2 : b.toNat ≠ 48 := fun e => h1 (UInt8.toNat_inj.1 (by simpa using e))
      exact goC_pos _ _ 1 (by omega) (fun x hx => hd x (by simp at hx; simp [hx])) (by simp at h9 ⊢; omega)
abbrev mostN : Nat := 999999999
theorem valF9 {s : List UInt8} (hd : digs s) (h9 : s.length ≤ 9) : valF 0 s ≤ mostN := by
  have h1 := valF_lt s 0 hd
  have h2 : (10 : Nat) ^ s.length ≤ 10 ^ 9 := Nat.pow_le_pow_right (by decide) h9
  have h3 : (10 : Nat) ^ 9 = 1000000000 := rfl
  show valF 0 s ≤ 999999999
  omega
theorem refG_num (s : List UInt8) : refG s mostN = match numC s with | some v => (v : Int) | none => -1 := by
  by_cases h : s ≠ [] ∧ s.length ≤ 9 ∧ digs s ∧ (1 < s.length → s.getD 0 0 ≠ 48)
  · obtain ⟨h0, h9, hd, hz⟩ := h
    have h1 := valF9 hd h9
    rw [refG_end h0 h9 hd hz, if_neg (by omega), numC, if_neg h0, goC_top h0 h9 hd hz]
  · have hn : numC s = none := by
      rcases hc : numC s with _ | v
      · rfl
      · rw [numC] at hc
        split at hc
        · cases hc
        · rename_i h0
          obtain ⟨k1, k2, k3, _⟩ := goC_spec s 0 0 v hc
          refine absurd ⟨h0, by have := k3 h0; omega, k1, fun hl hz => ?_⟩ h
          match s, h0, hc, hl, hz with
          | b :: c :: r, _, hc, _, hz =>
            have hb : b = 48 := by simpa using hz
            subst hb
            rw [numGoC] at hc
            split at hc
            · cases hc
            · exact (goC_spec (c :: r) _ 1 v hc).2.2.2 (by simp) (by decide) (by decide)
    rw [hn]
    simp only
    rw [refG, if_pos]
    by_cases h1 : s.length < 1
    · exact .inl h1
    · by_cases h2 : 9 < s.length
      · exact .inr (.inl h2)
      · by_cases h3 : 1 < s.length ∧ s.getD 0 0 = 48
        · exact .inr (.inr (.inl h3))
        · refine .inr (.inr (.inr (.inl fun hd => h ⟨fun e => h1 (by rw [e]; decide), by omega, hd, fun hl hz => h3 ⟨hl, hz⟩⟩)))
theorem numC_digs {s : List UInt8} {v : Nat} (h : numC s = some v) : digs s := by
  rw [numC] at h
  split at h
  · cases h
  · exact (goC_spec s 0 0 v h).1
theorem blk_dig {s : List UInt8} (h : digs s) : ∀ b ∈ s, blk b = false := fun b hb => blk_digit (h b hb).1
/-! What reads has no blanks. -/
theorem join_mem (c : UInt8) : ∀ (l : List (List UInt8)) (b : UInt8), b ∈ joinB c l → b = c ∨ ∃ p ∈ l, b ∈ p
  | [], _, h => by simp [joinB] at h
  | [p], b, h => .inr ⟨p, by simp, h⟩
  | p :: q :: r, b, h => by
    rw [joinB] at h
    rcases List.mem_append.1 h with h | h
    · exact .inr ⟨p, by simp, h⟩
    · rcases List.mem_cons.1 h with h | h
      · exact .inl h
      · rcases join_mem c (q :: r) b h with h | ⟨x, hx, hb⟩
        · exact .inl h
        · exact .inr ⟨x, by simp at hx ⊢; exact .inr hx, hb⟩
theorem cut_mem (c : UInt8) (s : List UInt8) (b : UInt8) (h : b ∈ s) : b = c ∨ ∃ p ∈ cutB c s, b ∈ p := join_mem c _ b (by rw [join_cut]; exact h)
theorem parse_nb {s : List UInt8} (h : (parseV s).2 = 0) : ∀ b ∈ s, blk b = false := by
  obtain ⟨h1, h2⟩ := parseV_ok.1 h
  rw [okN_iff] at h2
  intro b hb
  rcases cut_mem 46 s b hb with rfl | ⟨p, hp, hbp⟩
  · decide
  · obtain ⟨i, hi⟩ := List.mem_iff_getElem?.1 hp
    have hil := (List.getElem?_eq_some_iff.1 hi).1
    have h3 := h2 i (by omega)
    rw [show (cutB 46 s).getD i [] = p by rw [List.getD, hi]; rfl] at h3
    exact blk_dig ((numOk_iff p 255 (by decide)).1 h3).2.1 b hbp
theorem pair_nb {p : List UInt8} (h : pairOk p = true) : ∀ b ∈ p, blk b = false := by
  obtain ⟨x, y, rfl, hx, hy⟩ := pair_len h
  have key : ∀ z : UInt8, (hexD z.toNat).isSome = true → blk z = false := by
    intro z hz
    rcases hb : blk z with _ | _
    · rfl
    · rw [blk, Bool.or_eq_true, beq_iff_eq, beq_iff_eq] at hb
      rcases hb with rfl | rfl <;> exact absurd hz (by decide)
  intro b hb
  rcases List.mem_cons.1 hb with rfl | hb
  · exact key _ hx
  · rw [List.mem_singleton.1 hb]; exact key _ hy
theorem mac_nb {s : List UInt8} (h : (parseMV s).2 = 0) : ∀ b ∈ s, blk b = false := by
  by_cases hh : (cutB 58 s).length = 6 ∧ okM (cutB 58 s) 6 = true
  · obtain ⟨h1, h2⟩ := hh
    rw [okM_iff] at h2
    intro b hb
    rcases cut_mem 58 s b hb with rfl | ⟨p, hp, hbp⟩
    · decide
    · obtain ⟨i, hi⟩ := List.mem_iff_getElem?.1 hp
      have hil := (List.getElem?_eq_some_iff.1 hi).1
      have h3 := h2 i (by omega)
      rw [show (cutB 58 s).getD i [] = p by rw [List.getD, hi]; rfl] at h3
      exact pair_nb h3 b hbp
  · rw [parseM_no hh] at h
    cases h
theorem nb_none {v : List UInt8} (h : ∃ b ∈ v, blk b = true) : valN v = none ∧ valA v = none ∧ valM v = none := by
  obtain ⟨b, hb, hk⟩ := h
  refine ⟨?_, ?_, ?_⟩
  · rw [valN]
    rcases hc : numC v with _ | n
    · rfl
    · have := blk_dig (numC_digs hc) b hb
      rw [hk] at this; cases this
  · rw [valA, if_neg]
    intro e
    have := parse_nb e b hb
    rw [hk] at this; cases this
  · rw [valM, if_neg]
    intro e
    have := mac_nb e b hb
    rw [hk] at this; cases this
theorem nil_none : valN [] = none ∧ valA [] = none ∧ valM [] = none := ⟨by kernel_rfl, by kernel_rfl, by kernel_rfl⟩
/-- A net with its own address, as the reference reads it. -/
def rLan (v : List UInt8) : Option Vl :=
  if (cutB 47 v).length = 2 ∧ (parseV ((cutB 47 v).getD 0 [])).2 = 0 ∧ (numC ((cutB 47 v).getD 1 [])).isSome = true then some (.o (parseV ((cutB 47 v).getD 0 [])).1 ((numC ((cutB 47 v).getD 1 [])).getD 0)) else none
theorem cutB_split (c : UInt8) : ∀ v : List UInt8, ((cutE c v).2.2 = false → cutB c v = [v]) ∧ ((cutE c v).2.2 = true → cutB c v = (cutE c v).1 :: cutB c (cutE c v).2.1)
  | [] => ⟨fun _ => rfl, fun h => by simp [cutE] at h⟩
  | x :: r => by
    obtain ⟨h1, h2⟩ := cutB_split c r
    rw [cutE, cutB]
    by_cases hx : x = c
    · rw [if_pos hx, if_pos hx]
      exact ⟨fun h => (by cases h), fun _ => rfl⟩
    · rw [if_neg hx, if_neg hx]
      refine ⟨fun h => ?_, fun h => ?_⟩
      · rw [h1 h]
      · rw [h2 h]
theorem cutB_len1 (c : UInt8) (v : List UInt8) : (cutB c v).length = 1 ↔ c ∉ v := by
  rw [cutB_count]
  rw [← List.count_eq_zero]
  omega
theorem rLan_eq (v : List UInt8) : rLan v = valOw v := by
  obtain ⟨h1, h2⟩ := cutB_split 47 v
  rcases hb : (cutE 47 v).2.2 with _ | _
  · rw [rLan, valOw, h1 hb, hb, if_neg (by simp), if_neg (by simp)]
  · rw [rLan, valOw, h2 hb, hb]
    obtain ⟨p, hp⟩ : ∃ p, (cutE 47 v).1 = p := ⟨_, rfl⟩
    obtain ⟨q, hq⟩ : ∃ q, (cutE 47 v).2.1 = q := ⟨_, rfl⟩
    rw [hp, hq]
    by_cases hl : (47 : UInt8) ∈ q
    · have hn : numC q = none := by
        rcases hc : numC q with _ | n
        · rfl
        · have := (numC_digs hc 47 hl).1
          exact absurd this (by decide)
      have h3 : (cutB 47 q).length ≠ 1 := fun e => (cutB_len1 47 q).1 e hl
      rw [hn, if_neg (by simp; omega), if_neg (by simp)]
    · have h3 : cutB 47 q = [q] := cutB_one 47 q (fun x hx e => hl (e ▸ hx))
      rw [h3]
      simp
theorem rLan_nb {v : List UInt8} (h : ∃ b ∈ v, blk b = true) : rLan v = none := by
  obtain ⟨b, hb, hk⟩ := h
  rw [rLan, if_neg]
  rintro ⟨h1, h2, h3⟩
  match hc : cutB 47 v, h1 with
  | [p, q], _ =>
    rw [hc] at h2 h3
    rcases cut_mem 47 v b hb with rfl | ⟨x, hx, hbx⟩
    · revert hk; decide
    · rw [hc] at hx
      rcases List.mem_cons.1 hx with rfl | hx
      · have := parse_nb h2 b hbx
        rw [hk] at this; cases this
      · rw [List.mem_singleton.1 hx] at hbx
        obtain ⟨n, hn⟩ := Option.isSome_iff_exists.1 h3
        have := blk_dig (numC_digs hn) b hbx
        rw [hk] at this; cases this
/-! Words and ends. -/
theorem wordsW_blank : ∀ (s : List UInt8), (∀ b ∈ s, blk b = true) → wordsW [] s = []
  | [], _ => rfl
  | b :: r, h => by rw [wordsW, if_pos (h b (by simp)), if_pos rfl, wordsW_blank r (fun x hx => h x (by simp [hx]))]
theorem wordsW_end : ∀ (s wd z : List UInt8), (∀ b ∈ z, blk b = true) → wordsW wd (s ++ z) = wordsW wd s
  | [], wd, z, h => by
    rw [List.nil_append]
    cases z with
    | nil => rfl
    | cons b r =>
      have e1 : wordsW wd (b :: r) = if wd = [] then wordsW [] r else wd :: wordsW [] r := by rw [wordsW, if_pos (h b (by simp))]
      have e2 : wordsW wd [] = if wd = [] then [] else [wd] := by rw [wordsW]
      rw [e1, e2, wordsW_blank r (fun x hx => h x (by simp [hx]))]
  | b :: r, wd, z, h => by
    rw [List.cons_append, wordsW, wordsW, wordsW_end r [] z h, wordsW_end r (wd ++ [b]) z h]
theorem wordsW_start : ∀ (z s : List UInt8), (∀ b ∈ z, blk b = true) → wordsW [] (z ++ s) = wordsW [] s
  | [], _, _ => rfl
  | b :: r, s, h => by rw [List.cons_append, wordsW, if_pos (h b (by simp)), if_pos rfl, wordsW_start r s (fun x hx => h x (by simp [hx]))]
/-- A text is blanks, what stands between, blanks. -/
theorem trim_form (t : List UInt8) : ∃ x y, t = x ++ trimR t ++ y ∧ (∀ b ∈ x, blk b = true) ∧ (∀ b ∈ y, blk b = true) := by
  have h1 : t = t.takeWhile blk ++ trimA t := (List.takeWhile_append_dropWhile).symm
  have h2 : trimA t = trimZ (trimA t) ++ ((trimA t).reverse.takeWhile blk).reverse := by
    rw [trimZ, ← List.reverse_append, List.takeWhile_append_dropWhile, List.reverse_reverse]
  refine ⟨t.takeWhile blk, ((trimA t).reverse.takeWhile blk).reverse, ?_, fun b hb => ?_, fun b hb => ?_⟩
  · rw [List.append_assoc, trimR, ← h2, ← h1]
  · exact List.all_eq_true.1 (List.all_takeWhile) b hb
  · rw [List.mem_reverse] at hb
    exact List.all_eq_true.1 (List.all_takeWhile) b hb
theorem words_trim (t : List UInt8) : words (trimR t) = words t := by
  obtain ⟨x, y, h, hx, hy⟩ := trim_form t
  rw [words, words]
  conv => rhs; rw [h]
  rw [wordsW_end _ _ _ hy, wordsW_start _ _ hx]
theorem trimR_head (t : List UInt8) (b : UInt8) (r : List UInt8) (h : trimR t = b :: r) : blk b = false := by
  have h1 : trimA t = trimZ (trimA t) ++ ((trimA t).reverse.takeWhile blk).reverse := by
    rw [trimZ, ← List.reverse_append, List.takeWhile_append_dropWhile, List.reverse_reverse]
  rw [show trimZ (trimA t) = b :: r from h] at h1
  rcases hb : blk b with _ | _
  · rfl
  · have h2 : ∀ l : List UInt8, ∀ c q, l.dropWhile blk = c :: q → blk c = false := by
      intro l c q hl
      have := List.head_dropWhile_not blk (l := l) (by rw [hl]; simp)
      simpa [hl] using this
    rw [List.cons_append] at h1
    rw [h2 t b _ h1] at hb
    cases hb
theorem trimR_last (t : List UInt8) (b : UInt8) (r : List UInt8) (h : trimR t = r ++ [b]) : blk b = false := by
  have h2 : ∀ l : List UInt8, ∀ c q, l.dropWhile blk = c :: q → blk c = false := by
    intro l c q hl
    have := List.head_dropWhile_not blk (l := l) (by rw [hl]; simp)
    simpa [hl] using this
  have h1 : ((trimA t).reverse.dropWhile blk).reverse = r ++ [b] := h
  have h3 := congrArg List.reverse h1
  rw [List.reverse_reverse, List.reverse_append, List.reverse_singleton, List.singleton_append] at h3
  exact h2 _ _ _ h3
theorem words_pos : ∀ (s wd : List UInt8), (wd ≠ [] ∨ ∃ b ∈ s, blk b = false) → wordsW wd s ≠ []
  | [], wd, h => by
    rcases h with h | ⟨b, hb, _⟩
    · rw [wordsW, if_neg h]; simp
    · simp at hb
  | b :: r, wd, h => by
    rw [wordsW]
    by_cases hb : blk b = true
    · rw [if_pos hb]
      by_cases hw : wd = []
      · rw [if_pos hw]
        refine words_pos r [] (.inr ?_)
        rcases h with h | ⟨c, hc, hk⟩
        · exact absurd hw h
        · rcases List.mem_cons.1 hc with rfl | hc
          · rw [hb] at hk; cases hk
          · exact ⟨c, hc, hk⟩
      · rw [if_neg hw]; simp
    · rw [if_neg hb]
      exact words_pos r (wd ++ [b]) (.inl (by simp))
theorem words_two : ∀ (s wd : List UInt8), (∃ b ∈ s, blk b = true) → (wd ≠ [] ∨ ∃ b r, s = b :: r ∧ blk b = false) → (∃ r b, s = r ++ [b] ∧ blk b = false) → 2 ≤ (wordsW wd s).length
  | [], _, h, _, _ => by obtain ⟨b, hb, _⟩ := h; simp at hb
  | b :: r, wd, h, h1, h2 => by
    obtain ⟨q, z, hq, hz⟩ := h2
    rw [wordsW]
    by_cases hb : blk b = true
    · have hw : wd ≠ [] := by
        rcases h1 with h1 | ⟨c, p, e, hc⟩
        · exact h1
        · injection e with e1 _
          rw [e1, hc] at hb; cases hb
      rw [if_pos hb, if_neg hw, List.length_cons]
      have h3 : wordsW [] r ≠ [] := words_pos r [] (.inr ⟨z, by
        cases q with
        | nil => injection hq with e1 _; rw [e1, hz] at hb; cases hb
        | cons y q => injection hq with _ e2; rw [e2]; simp, hz⟩)
      have := List.length_pos_iff.2 h3
      omega
    · rw [if_neg hb]
      refine words_two r (wd ++ [b]) ?_ (.inl (by simp)) ?_
      · obtain ⟨c, hc, hk⟩ := h
        rcases List.mem_cons.1 hc with rfl | hc
        · exact absurd hk hb
        · exact ⟨c, hc, hk⟩
      · cases q with
        | nil =>
          injection hq with _ e2
          obtain ⟨c, hc, hk⟩ := h
          rw [e2] at hc
          rcases List.mem_cons.1 hc with rfl | hc
          · exact absurd hk hb
          · simp at hc
        | cons y q => injection hq with _ e2; exact ⟨q, z, e2, hz⟩
/-- A trimmed text is nothing, one word, or has a blank within and two words or more. -/
theorem trim_cases (t : List UInt8) : (trimR t = [] ∧ words t = []) ∨ (trimR t ≠ [] ∧ (∀ b ∈ trimR t, blk b = false) ∧ words t = [trimR t]) ∨ ((∃ b ∈ trimR t, blk b = true) ∧ 2 ≤ (words t).length) := by
  rw [← words_trim t]
  rcases hv : trimR t with _ | ⟨b, r⟩
  · exact .inl ⟨rfl, rfl⟩
  · have hb := trimR_head t b r hv
    by_cases hh : ∃ c ∈ b :: r, blk c = true
    · refine .inr (.inr ⟨hh, words_two _ _ hh (.inr ⟨b, r, rfl, hb⟩) ?_⟩)
      rcases List.eq_nil_or_concat (b :: r) with h | ⟨q, z, h⟩
      · cases h
      · rw [List.concat_eq_append] at h
        exact ⟨q, z, h, trimR_last t z q (by rw [hv, h])⟩
    · have hn : ∀ c ∈ b :: r, blk c = false := fun c hc => by
        rcases hk : blk c with _ | _
        · rfl
        · exact absurd ⟨c, hc, hk⟩ hh
      exact .inr (.inl ⟨by simp, hn, words_one (by simp) hn⟩)
/-- A value, as the reference reads it. -/
def refVal (nm v : List UInt8) : Option (List Vl) :=
  if nm = nLan then (rLan v).map ([·])
  else if nm = nLanmac ∨ nm = nWanmac then (valM v).map ([·])
  else if nm = nFirst ∨ nm = nLast ∨ nm = nDns then (valA v).map ([·])
  else if nm = nFixed then (if (words v).length = 2 then valsGo [109, 97] (words v) else none)
  else if nm = nOpen then (if (words v).length = 4 then valsGo [112, 110, 97, 110] (words v) else none)
  else if 0 ≤ ixN nm then (valN v).map ([·]) else none
theorem one_val {nm z : List UInt8} {k : UInt8} {F : List UInt8 → Option Vl} (hk : kindsV nm = [k]) (hF : ∀ v, F v = valK k v) (h0 : F [] = none) (hb : ∀ v, (∃ b ∈ v, blk b = true) → F v = none) :
    (F (trimR z)).map ([·]) = valuesV nm z := by
  rw [valuesV, hk]
  rcases trim_cases z with ⟨h1, h2⟩ | ⟨h1, h2, h3⟩ | ⟨h1, h2⟩
  · rw [h1, h2, h0, if_pos (by simp)]
    rfl
  · rw [h3, if_neg (by simp), valsGo, ← hF]
    rcases F (trimR z) with _ | v <;> rfl
  · rw [hb _ h1, if_pos (by right; simp; omega)]
    rfl
theorem ix_kinds (nm : List UInt8) : 0 ≤ ixN nm ↔ (nm = nTime ∨ nm = nUdp ∨ nm = nTcp ∨ nm = nIcmp ∨ nm = nLow) := by
  unfold ixN
  constructor
  · intro h
    split at h
    · exact .inl ‹_›
    · split at h
      · exact .inr (.inl ‹_›)
      · split at h
        · exact .inr (.inr (.inl ‹_›))
        · split at h
          · exact .inr (.inr (.inr (.inl ‹_›)))
          · split at h
            · exact .inr (.inr (.inr (.inr ‹_›)))
            · omega
  · rintro (rfl | rfl | rfl | rfl | rfl) <;> decide
theorem ref_val (nm z : List UInt8) : refVal nm (trimR z) = valuesV nm z := by
  rw [refVal]
  by_cases h1 : nm = nLan
  · rw [if_pos h1]
    exact one_val (k := 111) (by rw [h1]; rfl) (fun v => by rw [rLan_eq]; rfl) (by kernel_rfl) (fun v h => rLan_nb h)
  rw [if_neg h1]
  by_cases h2 : nm = nLanmac ∨ nm = nWanmac
  · rw [if_pos h2]
    exact one_val (k := 109) (by rw [kindsV, if_neg h1, if_pos h2]) (fun v => rfl) nil_none.2.2 (fun v h => (nb_none h).2.2)
  rw [if_neg h2]
  by_cases h3 : nm = nFirst ∨ nm = nLast ∨ nm = nDns
  · rw [if_pos h3]
    exact one_val (k := 97) (by rw [kindsV, if_neg h1, if_neg h2, if_pos h3]) (fun v => rfl) nil_none.2.1 (fun v h => (nb_none h).2.1)
  rw [if_neg h3]
  by_cases h4 : nm = nFixed
  · have hk : kindsV nm = [109, 97] := by rw [h4]; rfl
    rw [if_pos h4, valuesV, hk, words_trim]
    by_cases hl : (words z).length = 2
    · rw [if_pos hl, if_neg (by simp [hl])]
    · rw [if_neg hl, if_pos (by right; simpa using hl)]
  rw [if_neg h4]
  by_cases h5 : nm = nOpen
  · have hk : kindsV nm = [112, 110, 97, 110] := by rw [h5]; rfl
    rw [if_pos h5, valuesV, hk, words_trim]
    by_cases hl : (words z).length = 4
    · rw [if_pos hl, if_neg (by simp [hl])]
    · rw [if_neg hl, if_pos (by right; simpa using hl)]
  rw [if_neg h5]
  by_cases h6 : 0 ≤ ixN nm
  · rw [if_pos h6]
    have h7 := (ix_kinds nm).1 h6
    exact one_val (k := 110) (by rw [kindsV, if_neg h1, if_neg h2, if_neg h3, if_pos h7]) (fun v => rfl) nil_none.1 (fun v h => (nb_none h).1)
  · rw [if_neg h6, valuesV, if_pos]
    left
    have h7 : ¬ (nm = nTime ∨ nm = nUdp ∨ nm = nTcp ∨ nm = nIcmp ∨ nm = nLow) := fun h => h6 ((ix_kinds nm).2 h)
    rw [kindsV, if_neg h1, if_neg h2, if_neg h3, if_neg h7, if_neg h4, if_neg h5]
theorem known_val {nm v : List UInt8} {vs : List Vl} (h : refVal nm v = some vs) : knownB nm = true := by
  rw [knownB, Bool.or_eq_true, decide_eq_true_eq, decide_eq_true_eq]
  rw [refVal] at h
  by_cases h1 : nm = nLan
  · left; rw [h1]; decide
  rw [if_neg h1] at h
  by_cases h2 : nm = nLanmac ∨ nm = nWanmac
  · left; rcases h2 with rfl | rfl <;> decide
  rw [if_neg h2] at h
  by_cases h3 : nm = nFirst ∨ nm = nLast ∨ nm = nDns
  · left; rcases h3 with rfl | rfl | rfl <;> decide
  rw [if_neg h3] at h
  by_cases h4 : nm = nFixed
  · left; rw [h4]; decide
  rw [if_neg h4] at h
  by_cases h5 : nm = nOpen
  · left; rw [h5]; decide
  rw [if_neg h5] at h
  by_cases h6 : 0 ≤ ixN nm
  · exact .inr h6
  · rw [if_neg h6] at h; cases h
/-! Lines. -/
theorem contains_blk (b : UInt8) : ([32, 9] : List UInt8).contains b = blk b := by
  rw [blk, List.contains, List.elem, List.elem, List.elem]
  rcases (b == 32) <;> rcases (b == 9) <;> rfl
theorem trimS_eq (t : List UInt8) : Lib.trimS t [32, 9] = trimA (trimZ t) := by
  have : (fun b => ([32, 9] : List UInt8).contains b) = blk := funext contains_blk
  unfold Lib.trimS Lib.trimLeftS Lib.trimRightS
  rw [show (fun x => ([32, 9] : List UInt8).contains x) = blk from this]
  rfl
/-- Blanks, a text with no blank at its ends, blanks. -/
def nbEnds (m : List UInt8) : Prop := m = [] ∨ ((∃ b r, m = b :: r ∧ blk b = false) ∧ ∃ r b, m = r ++ [b] ∧ blk b = false)
theorem trimA_pre : ∀ (x s : List UInt8), (∀ b ∈ x, blk b = true) → trimA (x ++ s) = trimA s
  | [], _, _ => rfl
  | b :: r, s, h => by rw [List.cons_append, trimA_cons (h b (by simp)), trimA_pre r s (fun c hc => h c (by simp [hc]))]
theorem trimA_all (y : List UInt8) (h : ∀ b ∈ y, blk b = true) : trimA y = [] := by
  have := trimA_pre y [] h
  rwa [List.append_nil] at this
theorem trimZ_post (s y : List UInt8) (h : ∀ b ∈ y, blk b = true) : trimZ (s ++ y) = trimZ s := by
  have := trimA_pre y.reverse s.reverse (fun b hb => h b (by simpa using hb))
  unfold trimZ
  rw [List.reverse_append]
  exact congrArg List.reverse this
theorem trimZ_all (y : List UInt8) (h : ∀ b ∈ y, blk b = true) : trimZ y = [] := by
  have := trimZ_post [] y h
  rwa [List.nil_append] at this
theorem trimR_mid {x m y : List UInt8} (hx : ∀ b ∈ x, blk b = true) (hy : ∀ b ∈ y, blk b = true) (hm : nbEnds m) : trimR (x ++ m ++ y) = m ∧ trimA (trimZ (x ++ m ++ y)) = m := by
  rcases hm with rfl | ⟨⟨b, r, rfl, hb⟩, q, z, hq, hz⟩
  · rw [List.append_nil]
    have hxy : ∀ b ∈ x ++ y, blk b = true := fun b hb => by
      rcases List.mem_append.1 hb with h | h
      · exact hx b h
      · exact hy b h
    rw [trimR, trimA_all _ hxy, trimZ_all _ hxy]
    exact ⟨rfl, rfl⟩
  · refine ⟨?_, ?_⟩
    · rw [trimR, List.append_assoc, trimA_pre _ _ hx, List.cons_append, trimA_stop hb, ← List.cons_append, trimZ_post _ _ hy, hq, trimZ_stop hz]
    · rw [trimZ_post _ _ hy, hq, ← List.append_assoc, trimZ_stop hz, List.append_assoc, ← hq, trimA_pre _ _ hx, trimA_stop hb]
theorem trimR_nb (t : List UInt8) : nbEnds (trimR t) := by
  rcases hv : trimR t with _ | ⟨b, r⟩
  · exact .inl rfl
  · refine .inr ⟨⟨b, r, rfl, trimR_head t b r hv⟩, ?_⟩
    rcases List.eq_nil_or_concat (b :: r) with h | ⟨q, z, h⟩
    · cases h
    · rw [List.concat_eq_append] at h
      exact ⟨q, z, h, trimR_last t z q (by rw [hv, h])⟩
theorem trimS_trimR (t : List UInt8) : Lib.trimS t [32, 9] = trimR t := by
  rw [trimS_eq]
  obtain ⟨x, y, h, hx, hy⟩ := trim_form t
  have h1 := (trimR_mid hx hy (trimR_nb t)).2
  rw [← h] at h1
  exact h1
theorem trimR_pre {x : List UInt8} (t : List UInt8) (hx : ∀ b ∈ x, blk b = true) : trimR (x ++ t) = trimR t := by rw [trimR, trimA_pre _ _ hx]; rfl
theorem trimR_post {y : List UInt8} (t : List UInt8) (hy : ∀ b ∈ y, blk b = true) : trimR (t ++ y) = trimR t := by
  obtain ⟨a, b, h, ha, hb⟩ := trim_form t
  have hby : ∀ c ∈ b ++ y, blk c = true := fun c hc => by
    rcases List.mem_append.1 hc with h | h
    · exact hb c h
    · exact hy c h
  have h1 := (trimR_mid ha hby (trimR_nb t)).1
  rw [← List.append_assoc, ← h] at h1
  exact h1
theorem cutE_pre (c : UInt8) : ∀ (x s : List UInt8), (∀ b ∈ x, b ≠ c) → cutE c (x ++ s) = (x ++ (cutE c s).1, (cutE c s).2.1, (cutE c s).2.2)
  | [], _, _ => rfl
  | b :: r, s, h => by rw [List.cons_append, cutE, if_neg (h b (by simp)), cutE_pre c r s (fun d hd => h d (by simp [hd]))]; rfl
theorem cutE_none (c : UInt8) : ∀ (s : List UInt8), c ∉ s → cutE c s = (s, [], false)
  | [], _ => rfl
  | b :: r, h => by rw [cutE, if_neg (fun e => h (by simp [e])), cutE_none c r (fun hm => h (by simp [hm]))]
/-- One line, as the reference reads it. -/
def refLine (C : Cg) (S : List (List UInt8)) (t : List UInt8) : Int × Cg × List (List UInt8) :=
  if trimR t = [] ∨ (trimR t).getD 0 0 = 35 then (0, C, S)
  else if (61 : UInt8) ∉ trimR t then (9, C, S)
  else match refVal (trimR (cutE 61 (trimR t)).1) (trimR (cutE 61 (trimR t)).2.1) with
    | none => (9, C, S)
    | some vs => if trimR (cutE 61 (trimR t)).1 ∈ S ∧ trimR (cutE 61 (trimR t)).1 ≠ nFixed ∧ trimR (cutE 61 (trimR t)).1 ≠ nOpen then (8, C, S) else (0, setG C (trimR (cutE 61 (trimR t)).1) vs, trimR (cutE 61 (trimR t)).1 :: S)
theorem wordsW_head : ∀ (s wd : List UInt8), wd ≠ [] → (wordsW wd s).getD 0 [] ≠ [] ∧ ((wordsW wd s).getD 0 []).getD 0 0 = wd.getD 0 0
  | [], wd, h => by rw [wordsW, if_neg h]; exact ⟨h, rfl⟩
  | b :: r, wd, h => by
    rw [wordsW]
    by_cases hb : blk b = true
    · rw [if_pos hb, if_neg h]; exact ⟨h, rfl⟩
    · rw [if_neg hb]
      obtain ⟨h1, h2⟩ := wordsW_head r (wd ++ [b]) (by simp)
      refine ⟨h1, h2.trans ?_⟩
      cases wd with
      | nil => exact absurd rfl h
      | cons c q => rfl
theorem quiet_eq (t : List UInt8) : quiet t = true ↔ (trimR t = [] ∨ (trimR t).getD 0 0 = 35) := by
  rw [quiet, ← words_trim t]
  rcases hv : trimR t with _ | ⟨b, r⟩
  · simp [words, wordsW]
  · have hb := trimR_head t b r hv
    have e : words (b :: r) = wordsW [b] r := by rw [words, wordsW, if_neg (by rw [hb]; decide)]; rfl
    obtain ⟨h1, h2⟩ := wordsW_head r [b] (by simp)
    have h3 : wordsW [b] r ≠ [] := words_pos r [b] (.inl (by simp))
    rw [e]
    rcases hw : (wordsW [b] r).getD 0 [] with _ | ⟨c, q⟩
    · exact absurd hw h1
    · rw [hw] at h2
      have hc : c = b := by simpa using h2
      subst hc
      have h4 : (wordsW [c] r).isEmpty = false := by
        rcases h5 : wordsW [c] r with _ | _
        · exact absurd h5 h3
        · rfl
      have h6 : (false || List.isPrefixOf [35] (c :: q)) = ((35 : UInt8) == c) := by simp [List.isPrefixOf]
      rw [h4, h6]
      constructor
      · intro h
        exact .inr (beq_iff_eq.1 h).symm
      · rintro (h | h)
        · cases h
        · exact beq_iff_eq.2 (show c = 35 from h).symm
theorem blank_no61 {x : List UInt8} (h : ∀ b ∈ x, blk b = true) : ∀ b ∈ x, b ≠ 61 := fun b hb e => by
  have := h b hb
  rw [e] at this
  exact absurd this (by decide)
theorem ref_line (C : Cg) (S : List (List UInt8)) (t : List UInt8) : refLine C S t = lineG C S t := by
  obtain ⟨x, y, ht, hx, hy⟩ := trim_form t
  rw [refLine, lineG]
  by_cases hq : quiet t = true
  · rw [if_pos hq, if_pos ((quiet_eq t).1 hq)]
  rw [if_neg hq, if_neg (fun h => hq ((quiet_eq t).2 h))]
  obtain ⟨m, hm⟩ : ∃ m, trimR t = m := ⟨_, rfl⟩
  rw [hm] at ht ⊢
  by_cases h61 : (61 : UInt8) ∈ m
  · rw [if_neg (by simpa using h61)]
    obtain ⟨p, q, hpq, hp⟩ : ∃ p q, m = p ++ 61 :: q ∧ ∀ b ∈ p, b ≠ 61 := by
      have key : ∀ m : List UInt8, (61 : UInt8) ∈ m → ∃ p q, m = p ++ 61 :: q ∧ ∀ b ∈ p, b ≠ 61 := by
        intro m
        induction m with
        | nil => intro h; cases h
        | cons b r ih =>
          intro h
          by_cases hb : b = 61
          · exact ⟨[], r, by rw [hb]; rfl, fun _ h => by cases h⟩
          · rcases List.mem_cons.1 h with h | h
            · exact absurd h.symm hb
            · obtain ⟨p, q, e, hp⟩ := ih h
              exact ⟨b :: p, q, by rw [e]; rfl, fun c hc => by
                rcases List.mem_cons.1 hc with rfl | hc
                · exact hb
                · exact hp c hc⟩
      exact key m h61
    have c1 : cutE 61 m = (p, q, true) := by rw [hpq, cutE_app 61 p q hp]
    have c2 : cutE 61 t = (x ++ p, q ++ y, true) := by
      rw [ht, hpq, show x ++ (p ++ 61 :: q) ++ y = (x ++ p) ++ 61 :: (q ++ y) by simp, cutE_app 61 _ _ (fun b hb => by
        rcases List.mem_append.1 hb with h | h
        · exact blank_no61 hx b h
        · exact hp b h)]
    have hn : nameOf t = trimR p := by rw [nameOf, c2, trimS_trimR, trimR_pre _ hx]
    have hv : valuesV (trimR p) (q ++ y) = refVal (trimR p) (trimR q) := by rw [← ref_val, trimR_post _ hy]
    rw [c1, hn, c2]
    simp only
    rcases hr : refVal (trimR p) (trimR q) with _ | vs
    · rw [hr] at hv
      rw [lineGW_none hv]
    · rw [hr] at hv
      rw [lineGW_some hv]
  · rw [if_pos h61]
    have c2 : cutE 61 t = (t, [], false) := cutE_none 61 t (fun h => by
      rw [ht] at h
      rcases List.mem_append.1 h with h | h
      · rcases List.mem_append.1 h with h | h
        · exact blank_no61 hx _ h rfl
        · exact h61 h
      · exact blank_no61 hy _ h rfl)
    rw [c2, lineGW, if_pos rfl]
end
section
open Go.RowKit

def rendF (c : Cf) : Int := if 24 < c.lanB then (numA (firstA c.lanA c.lanB) : Int) + 2 else (numA (firstA c.lanA c.lanB) : Int) + 100
def rendL (c : Cf) : Int :=
  if 24 < c.lanB then (if (numA (lastA c.lanA c.lanB) : Int) - 1 < (numA (firstA c.lanA c.lanB) : Int) + 33 then (numA (lastA c.lanA c.lanB) : Int) - 1 else (numA (firstA c.lanA c.lanB) : Int) + 33)
  else (numA (firstA c.lanA c.lanB) : Int) + 131
def rendsV (c : Cf) (S : List (List UInt8)) : Cf :=
  if nLan ∈ S then { c with fst := if nFirst ∈ S then c.fst else of4 (w32 (rendF c)), lst := if nLast ∈ S then c.lst else of4 (w32 (rendL c)) } else c
theorem rends_same (c : Cf) (S : List (List UInt8)) (h1 : 8 ≤ c.lanB) (h2 : c.lanB ≤ 30) : rendsV c S = endsV c S := by
  obtain ⟨b, hb⟩ : ∃ b : Nat, c.lanB = b := ⟨c.lanB.toNat, by omega⟩
  have hbe : behN c.lanB = 2 ^ (32 - b) - 1 := by rw [hb]; exact net_beh b (by omega)
  have f1 := num_firstA c.lanA c.lanB (32 - b) (by omega) hbe
  have f2 := num_lastA c.lanA c.lanB (32 - b) hbe
  have hp : 0 < (2 : Nat) ^ (32 - b) := Nat.two_pow_pos _
  obtain ⟨q, hq⟩ := pow_div (32 - b) (by omega)
  have hx := numA_lt c.lanA
  have h4 : (2 : Nat) ^ 2 ≤ 2 ^ (32 - b) := Nat.pow_le_pow_right (by decide) (by omega)
  have h128 : 24 < b → (2 : Nat) ^ (32 - b) ≤ 2 ^ 7 := fun h => Nat.pow_le_pow_right (by decide) (by omega)
  obtain ⟨P, hP⟩ : ∃ P, (2 : Nat) ^ (32 - b) = P := ⟨_, rfl⟩
  rw [hP] at f1 f2 hp hq h4 h128
  have htop := net_end (numA c.lanA) P q hp (by rw [← hq]; exact hx)
  rw [← hq] at htop
  obtain ⟨F, hF⟩ : ∃ F, numA c.lanA / P * P = F := ⟨_, rfl⟩
  rw [hF] at f1 f2 htop
  have e1 : w32 (rendF c) = endF c := by
    rw [rendF, endF, f1]
    split <;> rfl
  have e2 : w32 (rendL c) = endL c := by
    rw [rendL, endL, f1, f2]
    by_cases h : 24 < c.lanB
    · have := h128 (by omega)
      have g1 : w32 ((F : Int) + 2) = ((F + 2 : Nat) : Int) := (congrArg w32 (by omega)).trans (w32_nat (F + 2) (by omega))
      have g2 : w32 (((F + (P - 1) : Nat) : Int) - 1) = ((F + (P - 1) - 1 : Nat) : Int) := (congrArg w32 (by omega)).trans (w32_nat (F + (P - 1) - 1) (by omega))
      have g3 : w32 (((F + (P - 1) - 1 : Nat) : Int) - ((F + 2 : Nat) : Int)) = ((P - 4 : Nat) : Int) := (congrArg w32 (by omega)).trans (w32_nat (P - 4) (by omega))
      rw [if_pos h, if_pos h, g1, g2, g3]
      by_cases h3 : 31 < P - 4
      · have g4 : w32 (((F + 2 : Nat) : Int) + 31) = ((F + 33 : Nat) : Int) := (congrArg w32 (by omega)).trans (w32_nat (F + 33) (by omega))
        have g5 : w32 ((F : Int) + 33) = ((F + 33 : Nat) : Int) := (congrArg w32 (by omega)).trans (w32_nat (F + 33) (by omega))
        rw [if_neg (show ¬ ((F + (P - 1) : Nat) : Int) - 1 < (F : Int) + 33 by omega), if_pos (show (31 : Int) < ((P - 4 : Nat) : Int) by omega), g4, g5]
      · rw [if_neg (show ¬ (31 : Int) < ((P - 4 : Nat) : Int) by omega)]
        by_cases h5 : ((F + (P - 1) : Nat) : Int) - 1 < (F : Int) + 33
        · rw [if_pos h5, g2]
        · rw [if_neg h5]
          have h6 : (F : Int) + 33 = ((F + (P - 1) - 1 : Nat) : Int) := by omega
          rw [h6]
          exact w32_nat _ (by omega)
    · rw [if_neg h, if_neg h]
  rw [rendsV, endsV, e1, e2]
theorem netB_ends (c : Cf) (S : List (List UInt8)) : netB (rendsV c S) = netB c ∧ netB (endsV c S) = netB c := by
  refine ⟨?_, ?_⟩
  · unfold rendsV
    split <;> rfl
  · unfold endsV
    split <;> rfl
def rendsG (C : Cg) (S : List (List UInt8)) : Cg := { C with c := rendsV C.c S }
def resR (r : Int × Nat × Cg × List (List UInt8)) : Cg × Int × Int :=
  if r.1 = 0 then (if checkG (rendsG r.2.2.1 r.2.2.2) = true then (rendsG r.2.2.1 r.2.2.2, 0, 0) else (zG, 0, 1)) else (zG, r.2.1, r.1)
theorem resR_eq (r : Int × Nat × Cg × List (List UInt8)) : resR r = resG r := by
  rw [resR, resG]
  by_cases h0 : r.1 = 0
  · rw [if_pos h0, if_pos h0]
    obtain ⟨C, S⟩ := r.2.2
    simp only
    by_cases hb : 8 ≤ C.c.lanB ∧ C.c.lanB ≤ 30
    · have e : rendsG C S = endsG C S := by rw [rendsG, endsG, rends_same C.c S hb.1 hb.2]
      rw [e, chkG]
      by_cases hc : checkG (endsG C S) = true
      · rw [if_pos hc, if_pos hc, if_pos rfl]
      · rw [if_neg hc, if_neg hc, if_neg (by decide)]
    · have hn : netB C.c = false := by
        rw [netB, inR]
        by_cases h8 : 8 ≤ C.c.lanB
        · rw [decide_eq_false (show ¬ C.c.lanB ≤ 30 from fun h => hb ⟨h8, h⟩), Bool.and_false]; rfl
        · rw [decide_eq_false h8]; rfl
      have h1 : checkG (rendsG C S) = false := by rw [checkG, show (rendsG C S).c = rendsV C.c S from rfl, (netB_ends C.c S).1, hn]; rfl
      have h2 : checkG (endsG C S) = false := by rw [checkG, show (endsG C S).c = endsV C.c S from rfl, (netB_ends C.c S).2, hn]; rfl
      rw [h1, chkG, h2]
      rfl
  · rw [if_neg h0, if_neg h0]
end
end Go.Proofs.YtnmdiageigbphaaGreatDoor
