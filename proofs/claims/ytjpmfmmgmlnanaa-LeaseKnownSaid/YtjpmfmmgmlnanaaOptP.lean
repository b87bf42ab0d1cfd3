/-
  Options, plainly: what is read out of bytes, what is written, and that what is written is read back.
-/
import GoSem.Claims
namespace Go.Proofs.Ytjpmfmmgmlnanaa

abbrev Ob := Int × List UInt8

/-- An option's bytes joined to what is there. -/
def joinO : List Ob → Int → List UInt8 → List Ob
  | [], c, b => [(c, b)]
  | o :: r, c, b => if o.1 = c then (o.1, o.2 ++ b) :: r else o :: joinO r c b
/-- The options in bytes; none: they are short. -/
def getF : Nat → List UInt8 → List Ob → Option (List Ob)
  | 0, _, _ => none
  | _ + 1, [], _ => none
  | k + 1, c :: r, acc =>
    if c = 0 then getF k r acc else if c = 255 then some acc else
      match r with
      | [] => none
      | n :: r' => if n.toNat ≤ r'.length then getF k (r'.drop n.toNat) (joinO acc (c.toNat : Int) (r'.take n.toNat)) else none
def getO (l : List UInt8) : Option (List Ob) := getF l.length l []

theorem getF_cons (k : Nat) (c : UInt8) (r : List UInt8) (acc : List Ob) : getF (k + 1) (c :: r) acc =
    if c = 0 then getF k r acc else if c = 255 then some acc else
      match r with
      | [] => none
      | n :: r' => if n.toNat ≤ r'.length then getF k (r'.drop n.toNat) (joinO acc (c.toNat : Int) (r'.take n.toNat)) else none := rfl
theorem getF_nil (k : Nat) (acc : List Ob) : getF k [] acc = none := by cases k <;> rfl
theorem getF_more : ∀ (k : Nat) (l : List UInt8) (acc : List Ob) (j : Nat), l.length ≤ k → l.length ≤ j → getF k l acc = getF j l acc
  | 0, [], _, j, _, _ => by rw [getF_nil, getF_nil]
  | 0, c :: r, _, _, h, _ => by simp at h
  | k + 1, [], _, j, _, _ => by rw [getF_nil, getF_nil]
  | k + 1, c :: r, acc, 0, _, h => by simp at h
  | k + 1, c :: r, acc, j + 1, h, h' => by
    simp only [List.length_cons] at h h'
    rw [getF_cons, getF_cons]
    by_cases h0 : c = 0
    · rw [if_pos h0, if_pos h0]; exact getF_more k r acc j (by omega) (by omega)
    · rw [if_neg h0, if_neg h0]
      by_cases h1 : c = 255
      · rw [if_pos h1, if_pos h1]
      · rw [if_neg h1, if_neg h1]
        rcases r with _ | ⟨n, r'⟩
        · rfl
        · simp only [List.length_cons] at h h'
          dsimp only
          by_cases h2 : n.toNat ≤ r'.length
          · rw [if_pos h2, if_pos h2]; exact getF_more k _ _ j (by simp; omega) (by simp; omega)
          · rw [if_neg h2, if_neg h2]

theorem joinO_codes : ∀ (l : List Ob) (c : Int) (b : List UInt8), (l.map (·.1)).Nodup → ((joinO l c b).map (·.1)).Nodup ∧ ∀ x, x ∈ (joinO l c b).map (·.1) → x = c ∨ x ∈ l.map (·.1)
  | [], c, b, _ => by simp [joinO]
  | o :: r, c, b, h => by
    rw [List.map_cons, List.nodup_cons] at h
    obtain ⟨h1, h2⟩ := joinO_codes r c b h.2
    by_cases e : o.1 = c
    · rw [joinO, if_pos e]
      exact ⟨by rw [List.map_cons, List.nodup_cons]; exact h, fun x hx => .inr (by simpa using hx)⟩
    · rw [joinO, if_neg e]
      rw [List.map_cons, List.nodup_cons]
      refine ⟨⟨fun hx => ?_, h1⟩, fun x hx => ?_⟩
      · rcases h2 _ hx with hx' | hx'
        · exact e hx'
        · exact h.1 hx'
      · rw [List.mem_cons] at hx
        rcases hx with hx | hx
        · exact .inr (by simp [hx])
        · rcases h2 _ hx with hx' | hx'
          · exact .inl hx'
          · exact .inr (List.mem_cons_of_mem _ hx')

/-- The reference's joining: to every option of that code. -/
def joinR (l : List Ob) (c : Int) (b : List UInt8) : List Ob := if l.any (fun o => o.1 == c) then l.map (fun o => if o.1 = c then (o.1, o.2 ++ b) else o) else l ++ [(c, b)]
theorem map_none : ∀ (l : List Ob) (c : Int) (b : List UInt8), c ∉ l.map (·.1) → l.map (fun o => if o.1 = c then (o.1, o.2 ++ b) else o) = l
  | [], _, _, _ => rfl
  | o :: r, c, b, h => by
    rw [List.map_cons, List.mem_cons] at h
    rw [List.map_cons, if_neg (fun e => h (.inl e.symm)), map_none r c b fun e => h (.inr e)]
theorem join_eq : ∀ (l : List Ob) (c : Int) (b : List UInt8), (l.map (·.1)).Nodup → joinR l c b = joinO l c b
  | [], c, b, _ => rfl
  | o :: r, c, b, h => by
    rw [List.map_cons, List.nodup_cons] at h
    have ih := join_eq r c b h.2
    unfold joinR at ih ⊢
    by_cases e : o.1 = c
    · rw [joinO, if_pos e, List.any_cons, show (o.1 == c) = true by simpa using e, Bool.true_or, if_pos rfl, List.map_cons, if_pos e, map_none r c b (by rw [← e]; exact h.1)]
    · rw [joinO, if_neg e, List.any_cons, show (o.1 == c) = false by simpa using e, Bool.false_or, ← ih, List.map_cons, if_neg e]
      split <;> rfl

/-- An option in pieces. -/
def pieceF : Nat → UInt8 → List UInt8 → List UInt8
  | 0, _, _ => []
  | k + 1, c, b => c :: UInt8.ofNat (min b.length 255) :: (b.take 255 ++ if (b.drop 255).isEmpty then [] else pieceF k c (b.drop 255))
def piece (c : UInt8) (b : List UInt8) : List UInt8 := pieceF (b.length + 1) c b
def byteN (x : Int) : UInt8 := UInt8.ofNat (x % 256).toNat
def allO (l : List Ob) : List UInt8 := l.flatMap fun o => piece (byteN o.1) o.2
def goodO (l : List Ob) : Prop := (∀ o ∈ l, 1 ≤ o.1 ∧ o.1 ≤ 254) ∧ (l.map (·.1)).Nodup
instance (l : List Ob) : Decidable (goodO l) := by unfold goodO; infer_instance
/-- The bytes of options, and the error. -/
def putO (l : List Ob) : List UInt8 × Int :=
  if goodO l then if 1199 < (allO l).length then ([], 2) else (allO l ++ [255], 0) else ([], 1)

theorem pieceF_more : ∀ (k : Nat) (c : UInt8) (b : List UInt8) (j : Nat), b.length < k → b.length < j → pieceF k c b = pieceF j c b
  | 0, _, _, _, h, _ => by omega
  | _ + 1, _, _, 0, _, h => by omega
  | k + 1, c, b, j + 1, h, h' => by
    rw [pieceF, pieceF]
    by_cases he : (b.drop 255).isEmpty
    · rw [if_pos he, if_pos he]
    · rw [if_neg he, if_neg he, pieceF_more k c (b.drop 255) j]
      all_goals
        have : 255 < b.length := by
          rcases Nat.lt_or_ge 255 b.length with h1 | h1
          · exact h1
          · exact absurd (by simp [List.drop_eq_nil_of_le h1]) he
        simp; omega

/-- The joining of one more piece. -/
theorem joinO_snoc (l : List Ob) (c : Int) (b : List UInt8) (h : c ∉ l.map (·.1)) : joinO l c b = l ++ [(c, b)] := by
  induction l with
  | nil => rfl
  | cons o r ih =>
    rw [List.map_cons, List.mem_cons] at h
    rw [joinO, if_neg (fun e => h (.inl e.symm)), ih fun e => h (.inr e)]
    rfl
theorem joinO_last (l : List Ob) (c : Int) (a b : List UInt8) (h : c ∉ l.map (·.1)) : joinO (l ++ [(c, a)]) c b = l ++ [(c, a ++ b)] := by
  induction l with
  | nil => simp [joinO]
  | cons o r ih =>
    rw [List.map_cons, List.mem_cons] at h
    rw [List.cons_append, joinO, if_neg (fun e => h (.inl e.symm)), ih fun e => h (.inr e)]
    rfl

theorem get_step (k : Nat) (c : UInt8) (b rest : List UInt8) (acc : List Ob) (h0 : c ≠ 0) (h1 : c ≠ 255) (hb : b.length ≤ 255) :
    getF (k + 1) (c :: UInt8.ofNat b.length :: (b ++ rest)) acc = getF k rest (joinO acc (c.toNat : Int) b) := by
  have e : (UInt8.ofNat b.length).toNat = b.length := by simp; omega
  rw [getF_cons, if_neg h0, if_neg h1]
  show (if (UInt8.ofNat b.length).toNat ≤ (b ++ rest).length then _ else none) = _
  rw [e, if_pos (by simp), List.drop_left, List.take_left]

theorem get_piece : ∀ (j : Nat) (k : Nat) (c : UInt8) (b rest : List UInt8) (acc : List Ob) (a : List UInt8), b.length < j → c ≠ 0 → c ≠ 255 → (c.toNat : Int) ∉ acc.map (·.1) → (pieceF j c b ++ rest).length ≤ k →
    getF k (pieceF j c b ++ rest) (acc ++ [((c.toNat : Int), a)]) = getF k rest (acc ++ [((c.toNat : Int), a ++ b)])
  | 0, _, _, _, _, _, _, h, _, _, _, _ => by omega
  | j + 1, k, c, b, rest, acc, a, h, h0, h1, hc, hk => by
    have hk' := hk
    rw [pieceF] at hk ⊢
    rcases k with _ | k
    · simp at hk
    simp only [List.cons_append, List.append_assoc, List.length_cons, List.length_append] at hk ⊢
    have e1 : min b.length 255 = (b.take 255).length := by simp [Nat.min_comm]
    rw [e1, get_step k c (b.take 255) _ _ h0 h1 (by simp; omega), joinO_last _ _ _ _ hc]
    by_cases he : (b.drop 255).isEmpty
    · have h2 : b.length ≤ 255 := by
        rcases Nat.lt_or_ge 255 b.length with h2 | h2
        · have := List.isEmpty_iff.1 he
          have := congrArg List.length this
          simp at this; omega
        · exact h2
      rw [if_pos he] at hk ⊢
      rw [List.take_of_length_le h2, List.nil_append]
      exact getF_more k rest _ (k + 1) (by simp at hk; omega) (by simp at hk; omega)
    · have h2 : 255 < b.length := by
        rcases Nat.lt_or_ge 255 b.length with h1 | h1
        · exact h1
        · exact absurd (by simp [List.drop_eq_nil_of_le h1]) he
      rw [if_neg he] at hk ⊢
      rw [get_piece j k c (b.drop 255) rest acc (a ++ b.take 255) (by simp; omega) h0 h1 hc (by simp at hk ⊢; omega), List.append_assoc, List.take_append_drop]
      exact getF_more k rest _ (k + 1) (by simp at hk; omega) (by simp at hk; omega)
theorem get_piece0 (k : Nat) (c : UInt8) (b rest : List UInt8) (acc : List Ob) (h0 : c ≠ 0) (h1 : c ≠ 255) (hc : (c.toNat : Int) ∉ acc.map (·.1)) (hk : (piece c b ++ rest).length ≤ k) :
    getF k (piece c b ++ rest) acc = getF k rest (acc ++ [((c.toNat : Int), b)]) := by
  unfold piece at hk ⊢
  rw [pieceF] at hk ⊢
  rcases k with _ | k
  · simp at hk
  simp only [List.cons_append, List.append_assoc, List.length_cons, List.length_append] at hk ⊢
  have e1 : min b.length 255 = (b.take 255).length := by simp [Nat.min_comm]
  rw [e1, get_step k c (b.take 255) _ _ h0 h1 (by simp; omega), joinO_snoc _ _ _ hc]
  by_cases he : (b.drop 255).isEmpty
  · have h2 : b.length ≤ 255 := by
      rcases Nat.lt_or_ge 255 b.length with h2 | h2
      · have := List.isEmpty_iff.1 he
        have := congrArg List.length this
        simp at this; omega
      · exact h2
    rw [if_pos he] at hk ⊢
    rw [List.take_of_length_le h2, List.nil_append]
    exact getF_more k rest _ (k + 1) (by simp at hk; omega) (by simp at hk; omega)
  · have h2 : 255 < b.length := by
      rcases Nat.lt_or_ge 255 b.length with h1 | h1
      · exact h1
      · exact absurd (by simp [List.drop_eq_nil_of_le h1]) he
    rw [if_neg he] at hk ⊢
    rw [get_piece b.length k c (b.drop 255) rest acc (b.take 255) (by simp; omega) h0 h1 hc (by simp at hk ⊢; omega), List.take_append_drop]
    exact getF_more k rest _ (k + 1) (by simp at hk; omega) (by simp at hk; omega)

theorem byteN_val (x : Int) (h0 : 0 ≤ x) (h1 : x < 256) : ((byteN x).toNat : Int) = x := by
  unfold byteN
  simp
  omega
theorem get_all : ∀ (l : List Ob) (k : Nat) (rest : List UInt8) (acc : List Ob), (∀ o ∈ l, 1 ≤ o.1 ∧ o.1 ≤ 254) → ((acc ++ l).map (·.1)).Nodup → (allO l ++ rest).length ≤ k →
    getF k (allO l ++ rest) acc = getF k rest (acc ++ l)
  | [], k, rest, acc, _, _, _ => by simp [allO]
  | o :: r, k, rest, acc, h, hd, hk => by
    have ho := h o (List.mem_cons_self ..)
    have hv := byteN_val o.1 (by omega) (by omega)
    have e : allO (o :: r) ++ rest = piece (byteN o.1) o.2 ++ (allO r ++ rest) := by simp [allO]
    rw [e] at hk ⊢
    have hz : byteN o.1 ≠ 0 := by intro e; rw [e] at hv; simp at hv; omega
    have hz2 : byteN o.1 ≠ 255 := by intro e; rw [e] at hv; simp at hv; omega
    have hd' := hd
    rw [List.map_append, List.nodup_append] at hd'
    rw [get_piece0 k _ _ _ _ hz hz2 (by rw [hv]; intro hm; exact hd'.2.2 _ hm o.1 (by simp) rfl) hk, hv]
    rw [get_all r k rest (acc ++ [(o.1, o.2)]) (fun x hx => h x (List.mem_cons_of_mem _ hx)) (by simpa using hd) (by simp only [List.length_append] at hk ⊢; omega)]
    simp
theorem get_put (l : List Ob) (h : (putO l).2 = 0) : getO (putO l).1 = some l := by
  unfold putO at h ⊢
  by_cases hg : goodO l
  · rw [if_pos hg] at h ⊢
    by_cases hl : 1199 < (allO l).length
    · rw [if_pos hl] at h; simp at h
    · rw [if_neg hl]
      unfold getO
      dsimp only
      rw [get_all l _ [255] [] hg.1 (by simpa using hg.2) (Nat.le_refl _), List.nil_append]
      have : 0 < (allO l ++ [255]).length := by simp
      generalize (allO l ++ [255]).length = k at *
      rcases k with _ | k
      · omega
      · rfl
  · rw [if_neg hg] at h; simp at h
end Go.Proofs.Ytjpmfmmgmlnanaa
