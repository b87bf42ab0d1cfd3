/-
  ConfTwice, the plain law: a name that was there is refused at its second line; open may be there often.
-/
import Derived.Test.YtnmdiageigbphaaGreatDoorKq15
import Derived.Test.YtnmdiageigbphaaGreatDoorKd1
namespace Go.Proofs.YtnmdiageigbphaaGreatDoor
open Go.RowKit

theorem cutE_app (c : UInt8) : ∀ (a b : List UInt8), (∀ x ∈ a, x ≠ c) → cutE c (a ++ c :: b) = (a, b, true)
  | [], b, _ => by rw [List.nil_append, cutE, if_pos rfl]
  | x :: a, b, h => by rw [List.cons_append, cutE, if_neg (h x (by simp)), cutE_app c a b (fun y hy => h y (by simp [hy]))]
theorem wordsW_app : ∀ (s wd r : List UInt8), wd ++ s ≠ [] → (∀ b ∈ s, blk b = false) → wordsW wd (s ++ 32 :: r) = (wd ++ s) :: wordsW [] r
  | [], wd, r, h, _ => by rw [List.nil_append, wordsW, if_pos (by decide), if_neg (by simpa using h), List.append_nil]
  | b :: s, wd, r, _, hb => by
    rw [List.cons_append, wordsW, if_neg (by rw [hb b (by simp)]; decide), wordsW_app s (wd ++ [b]) r (by simp) (fun x hx => hb x (by simp [hx]))]
    simp
def lineT (k : Nat) : List UInt8 :=
  if k = 0 then [116, 105, 109, 101, 32, 61, 32, 54, 48] else if k = 1 then [100, 110, 115, 32, 61, 32, 49, 46, 49, 46, 49, 46, 49] else if k = 2 then [108, 111, 119, 61, 51, 48, 48, 48, 48]
  else if k = 3 then [108, 97, 110, 32, 61, 32, 49, 57, 50, 46, 49, 54, 56, 46, 49, 46, 49, 47, 50, 52] else if k = 4 then [108, 97, 110, 109, 97, 99, 32, 61, 32, 48, 50, 58, 48, 48, 58, 48, 48, 58, 48, 48, 58, 48, 48, 58, 48, 97]
  else [102, 105, 114, 115, 116, 32, 61, 32, 49, 57, 50, 46, 49, 54, 56, 46, 49, 46, 49, 50, 48]
def nmT (k : Nat) : List UInt8 := if k = 0 then nTime else if k = 1 then nDns else if k = 2 then nLow else if k = 3 then nLan else if k = 4 then nLanmac else nFirst
def cfT (k : Nat) : Cf :=
  if k = 0 then { usC with time := 60 } else if k = 1 then { usC with dns := ⟨1, 1, 1, 1⟩ } else if k = 2 then { usC with low := 30000 } else if k = 3 then usC
  else if k = 4 then { usC with lm := ⟨2, 0, 0, 0, 0, 10⟩ } else { usC with fst := ⟨192, 168, 1, 120⟩ }
theorem six_cases (P : Nat → Prop) (k : Nat) (hk : k < 6) (h0 : P 0) (h1 : P 1) (h2 : P 2) (h3 : P 3) (h4 : P 4) (h5 : P 5) : P k := by
  rcases (show k = 0 ∨ k = 1 ∨ k = 2 ∨ k = 3 ∨ k = 4 ∨ k = 5 by omega) with h | h | h | h | h | h <;> rw [h] <;> assumption
def preO : List UInt8 := [111, 112, 101, 110, 32, 61, 32, 117, 100, 112, 32]
def sufO : List UInt8 := [32, 49, 57, 50, 46, 49, 54, 56, 46, 49, 46, 57, 32, 56, 48]
def a9 : Ad4 := ⟨192, 168, 1, 9⟩
def opnL (i : Nat) : List UInt8 := preO ++ decB (100 + i) ++ sufO
def opn1 (i : Nat) : Opn := ⟨17, (100 + i : Nat), a9, 80⟩
def opsT (n : Nat) : List Opn := (List.range n).map opn1
theorem opnL_mem {i : Nat} : ∀ b ∈ opnL i, b ≠ 10 := by
  intro b hb
  rcases List.mem_append.1 hb with hb | hb
  · rcases List.mem_append.1 hb with hb | hb
    · exact (show ∀ b ∈ preO, b ≠ 10 by decide) b hb
    · have := dec_digs _ b hb
      rintro rfl
      simp at this
  · exact (show ∀ b ∈ sufO, b ≠ 10 by decide) b hb
theorem dec_nb (i : Nat) : ∀ b ∈ decB i, blk b = false := fun b hb => blk_digit (dec_digs i b hb).1
theorem opnL_words (i : Nat) : words (opnL i) = [[111, 112, 101, 110], [61], sUdp, decB (100 + i), [49, 57, 50, 46, 49, 54, 56, 46, 49, 46, 57], [56, 48]] := by
  have e : opnL i = [111, 112, 101, 110] ++ 32 :: ([61] ++ 32 :: (sUdp ++ 32 :: (decB (100 + i) ++ 32 :: [49, 57, 50, 46, 49, 54, 56, 46, 49, 46, 57, 32, 56, 48]))) := by simp [opnL, preO, sufO]
  rw [e, words, wordsW_app _ _ _ (by simp) (by decide), wordsW_app _ _ _ (by simp) (by decide), wordsW_app _ _ _ (by simp) (by decide), wordsW_app _ _ _ (by simpa using dec_ne _) (dec_nb _)]
  rfl
theorem opnL_quiet (i : Nat) : quiet (opnL i) = false := by rw [quiet, opnL_words]; rfl
theorem opnL_cut (i : Nat) : cutE 61 (opnL i) = ([111, 112, 101, 110, 32], 32 :: (sUdp ++ 32 :: (decB (100 + i) ++ sufO)), true) := by
  have e : opnL i = [111, 112, 101, 110, 32] ++ 61 :: (32 :: (sUdp ++ 32 :: (decB (100 + i) ++ sufO))) := by simp [opnL, preO, sufO]
  rw [e, cutE_app 61 _ _ (by decide)]
theorem opnL_name (i : Nat) : nameOf (opnL i) = nOpen := by rw [nameOf, opnL_cut]; kernel_rfl
theorem opnL_values (i : Nat) (hi : i ≤ 1000) : valuesV nOpen (32 :: (sUdp ++ 32 :: (decB (100 + i) ++ sufO))) = some [.n 17, .n (100 + i), .a a9, .n 80] := by
  have hw : words (32 :: (sUdp ++ 32 :: (decB (100 + i) ++ sufO))) = [sUdp, decB (100 + i), [49, 57, 50, 46, 49, 54, 56, 46, 49, 46, 57], [56, 48]] := by
    have e : sufO = 32 :: [49, 57, 50, 46, 49, 54, 56, 46, 49, 46, 57, 32, 56, 48] := rfl
    rw [words, wordsW, if_pos (by decide), if_pos rfl, wordsW_app _ _ _ (by simp) (by decide), e, wordsW_app _ _ _ (by simpa using dec_ne _) (dec_nb _)]
    rfl
  have h2 : valK 110 (decB (100 + i)) = some (.n (100 + i)) := by
    show valN _ = _
    rw [valN, numC_dec _ (by omega)]
    rfl
  have h1 : valK 112 sUdp = some (.n 17) := by kernel_rfl
  have h3 : valK 97 [49, 57, 50, 46, 49, 54, 56, 46, 49, 46, 57] = some (.a a9) := by kernel_rfl
  have h4 : valK 110 [56, 48] = some (.n 80) := by kernel_rfl
  rw [valuesV, hw, show kindsV nOpen = [112, 110, 97, 110] from rfl, if_neg (by simp), valsGo, h1, valsGo, h2, valsGo, h3, valsGo, h4]
  rfl
theorem opnL_line (C : Cg) (S : List (List UInt8)) (i : Nat) (hi : i ≤ 1000) : lineG C S (opnL i) = (0, { C with lo := C.lo ++ [opn1 i] }, nOpen :: S) := by
  rw [lineG, if_neg (by rw [opnL_quiet]; decide), opnL_name, opnL_cut]
  simp only
  rw [lineGW_some (opnL_values i hi), if_neg (by rintro ⟨_, _, h⟩; exact h rfl)]
  rfl
def goodT (k : Nat) : Prop := (∀ C S, nmT k ∉ S → lineG C S (lineT k) = (0, { C with c := setC C.c (nmT k) (match valuesV (nmT k) (cutE 61 (lineT k)).2.1 with | some [v] => v | _ => .n 0) }, nmT k :: S)) ∧
  (∀ C S, nmT k ∈ S → lineG C S (lineT k) = (8, C, S)) ∧ (∀ x ∈ lineT k, x ≠ 10) ∧ (lineT k).length ≤ 30 ∧ nmT k ≠ nOpen
theorem goodT_mk {k : Nat} {v : Vl} (h1 : quiet (lineT k) = false) (h2 : nameOf (lineT k) = nmT k) (h3 : (cutE 61 (lineT k)).2.2 = true) (h4 : valuesV (nmT k) (cutE 61 (lineT k)).2.1 = some [v]) (h5 : ∀ C : Cg, setG C (nmT k) [v] = { C with c := setC C.c (nmT k) v })
    (h6 : ∀ b ∈ lineT k, b ≠ 10) (h7 : (lineT k).length ≤ 30) (h8 : nmT k ≠ nFixed ∧ nmT k ≠ nOpen) : goodT k := by
  refine ⟨fun C S hS => ?_, fun C S hS => ?_, h6, h7, h8.2⟩
  · rw [lineG, if_neg (by rw [h1]; decide), h2, h3, lineGW_some h4, if_neg (fun h => hS h.1), h4, h5]
  · rw [lineG, if_neg (by rw [h1]; decide), h2, h3, lineGW_some h4, if_pos ⟨hS, h8⟩]
theorem good_T (k : Nat) (hk : k < 6) : goodT k := six_cases goodT k hk
  (goodT_mk (v := .n 60) (by kernel_rfl) (by kernel_rfl) (by kernel_rfl) (by kernel_rfl) (fun _ => rfl) (by decide) (by decide) (by decide))
  (goodT_mk (v := .a ⟨1, 1, 1, 1⟩) (by kernel_rfl) (by kernel_rfl) (by kernel_rfl) (by kernel_rfl) (fun _ => rfl) (by decide) (by decide) (by decide))
  (goodT_mk (v := .n 30000) (by kernel_rfl) (by kernel_rfl) (by kernel_rfl) (by kernel_rfl) (fun _ => rfl) (by decide) (by decide) (by decide))
  (goodT_mk (v := .o ⟨192, 168, 1, 1⟩ 24) (by kernel_rfl) (by kernel_rfl) (by kernel_rfl) (by kernel_rfl) (fun _ => rfl) (by decide) (by decide) (by decide))
  (goodT_mk (v := .m ⟨2, 0, 0, 0, 0, 10⟩) (by kernel_rfl) (by kernel_rfl) (by kernel_rfl) (by kernel_rfl) (fun _ => rfl) (by decide) (by decide) (by decide))
  (goodT_mk (v := .a ⟨192, 168, 1, 120⟩) (by kernel_rfl) (by kernel_rfl) (by kernel_rfl) (by kernel_rfl) (fun _ => rfl) (by decide) (by decide) (by decide))
def openT : Nat → List UInt8
  | 0 => []
  | n + 1 => openT n ++ (opnL n ++ [10])
theorem cut_openT : ∀ (n : Nat) (r : List UInt8), cutB 10 (openT n ++ r) = (List.range n).map opnL ++ cutB 10 r
  | 0, r => by simp [openT]
  | n + 1, r => by
    rw [openT, List.append_assoc, List.append_assoc, cut_openT n, show opnL n ++ ([10] ++ r) = opnL n ++ 10 :: r from rfl, cutB_cons 10 _ _ opnL_mem, List.range_succ]
    simp
theorem openT_len : ∀ n, n ≤ 1000 → (openT n).length ≤ 48 * n
  | 0, _ => by simp [openT]
  | n + 1, h => by
    have h1 := openT_len n (by omega)
    have h2 := decB_le (100 + n)
    have h3 : (opnL n).length = (decB (100 + n)).length + 26 := by simp only [opnL, preO, sufO, List.length_append, List.length_cons, List.length_nil]; omega
    rw [openT, List.length_append, List.length_append, h3]
    simp; omega
/-- The text with its line twice, and the text with it once. -/
def tw2 (k n : Nat) : List UInt8 := (lineT k ++ [10]) ++ openT n ++ (lineT k ++ [10])
def tw1 (k n : Nat) : List UInt8 := openT n ++ (lineT k ++ [10])
theorem lines_tw2 (k n : Nat) (hk : k < 6) : linesV (tw2 k n) = lineT k :: ((List.range n).map opnL ++ [lineT k]) := by
  have h := (good_T k hk).2.2.1
  have e : cutB 10 (tw2 k n) = (lineT k :: ((List.range n).map opnL ++ [lineT k])) ++ [[]] := by
    rw [tw2, List.append_assoc, List.append_assoc, show lineT k ++ ([10] ++ (openT n ++ (lineT k ++ [10]))) = lineT k ++ 10 :: (openT n ++ (lineT k ++ 10 :: [])) from rfl, cutB_cons 10 _ _ h, cut_openT, cutB_cons 10 _ _ h]
    simp [cutB]
  rw [linesV, e, if_pos (by rw [List.getLast?_append]; rfl), List.dropLast_concat]
theorem lines_tw1 (k n : Nat) (hk : k < 6) : linesV (tw1 k n) = (List.range n).map opnL ++ [lineT k] := by
  have h := (good_T k hk).2.2.1
  have e : cutB 10 (tw1 k n) = ((List.range n).map opnL ++ [lineT k]) ++ [[]] := by
    rw [tw1, show openT n ++ (lineT k ++ [10]) = openT n ++ (lineT k ++ 10 :: []) from rfl, cut_openT, cutB_cons 10 _ _ h]
    simp [cutB]
  rw [linesV, e, if_pos (by rw [List.getLast?_append]; rfl), List.dropLast_concat]
theorem go_opens (C : Cg) (r : List (List UInt8)) : ∀ (d m : Nat) (S : List (List UInt8)) (a : Nat), m + d ≤ 1000 → C.lo = opsT m →
    ∃ S', goG C S a ((List.range' m d).map opnL ++ r) = goG { C with lo := opsT (m + d) } S' (a + d) r ∧ ∀ x, x ∈ S' ↔ x ∈ S ∨ (0 < d ∧ x = nOpen) := by
  intro d
  induction d generalizing C with
  | zero => intro m S a _ h; exact ⟨S, by rw [Nat.add_zero, ← h]; rfl, fun x => by simp⟩
  | succ d ih =>
    intro m S a hm h
    obtain ⟨S', h1, h2⟩ := ih { C with lo := opsT (m + 1) } (m + 1) (nOpen :: S) (a + 1) (by omega) rfl
    refine ⟨S', ?_, fun x => ?_⟩
    · rw [List.range'_succ, List.map_cons, List.cons_append, goG, opnL_line C S m (by omega), if_pos rfl]
      have e : { C with lo := C.lo ++ [opn1 m] } = { C with lo := opsT (m + 1) } := by rw [h, opsT, opsT, List.range_succ, List.map_append]; rfl
      rw [e, h1]
      rw [show m + 1 + d = m + (d + 1) by omega, show a + 1 + d = a + (d + 1) by omega]
    · rw [h2 x]
      simp only [List.mem_cons]
      constructor
      · rintro ((rfl | h) | ⟨_, h⟩)
        · exact .inr ⟨by omega, rfl⟩
        · exact .inl h
        · exact .inr ⟨by omega, h⟩
      · rintro (h | ⟨_, h⟩)
        · exact .inl (.inr h)
        · exact .inl (.inl h)
theorem range_zero (n : Nat) : List.range n = List.range' 0 n := List.range_eq_range'
theorem opsT_range (n : Nat) : opsT n = (List.range' 0 n).map opn1 := by rw [opsT, range_zero]
theorem parse_tw2 (k n : Nat) (hk : k < 6) (hn : n ≤ 30) : parseG (tw2 k n) = (zG, ((n : Int) + 2), 8) := by
  obtain ⟨g1, g2, _, g4, _⟩ := good_T k hk
  have hl := openT_len n (by omega)
  rw [parseG, if_neg (by
    rw [lines_tw2 k n hk]
    have : (tw2 k n).length ≤ 2000 := by simp [tw2]; omega
    simp
    omega), lines_tw2 k n hk, goG, g1 usG [] (by simp), if_pos rfl]
  simp only
  rw [range_zero]
  obtain ⟨S', h1, h2⟩ := go_opens { usG with c := setC usG.c (nmT k) (match valuesV (nmT k) (cutE 61 (lineT k)).2.1 with | some [v] => v | _ => .n 0) } [lineT k] n 0 [nmT k] (0 + 1) (by omega) rfl
  rw [h1, goG, g2 _ S' ((h2 _).2 (.inl (by simp)))]
  simp [resG]
  omega
theorem opn_ok (c : Cf) (h1 : 30000 ≤ c.low) (h2 : devB c a9 = true) : ∀ (d m : Nat) (S : List (List UInt8)), m + d ≤ 32 → (∀ j, m ≤ j → j < m + d → twoK 17 ((100 + j : Nat) : Int) ∉ S) → opnGo c S ((List.range' m d).map opn1) = true := by
  intro d
  induction d with
  | zero => intros; rfl
  | succ d ih =>
    intro m S hm hS
    rw [List.range'_succ, List.map_cons, opnGo]
    have e1 : protB (opn1 m).pr = true := rfl
    have e2 : inR (opn1 m).po 1 (c.low - 1) = true := by
      show (decide (1 ≤ ((100 + m : Nat) : Int)) && decide (((100 + m : Nat) : Int) ≤ c.low - 1)) = true
      rw [decide_eq_true (by omega), decide_eq_true (by omega)]
      rfl
    have e3 : inR (opn1 m).tp 1 65535 = true := rfl
    have e4 : devB c (opn1 m).a = true := h2
    have e5 : decide (twoK (opn1 m).pr (opn1 m).po ∈ S) = false := decide_eq_false (hS m (by omega) (by omega))
    rw [e1, e2, e3, e4, e5]
    simp only [Bool.not_false, Bool.and_true, Bool.true_and]
    refine ih (m + 1) _ (by omega) fun j h3 h4 hmem => ?_
    rcases List.mem_cons.1 hmem with e | hmem
    · have := (twoK_inj (wf_nat (v := 17) (by omega)) (wf_nat (v := 100 + j) (by omega)) (wf_nat (v := 17) (by omega)) (wf_nat (v := 100 + m) (by omega)) e).2
      omega
    · exact hS j (by omega) (by omega) hmem
def okT (k : Nat) : Prop := netB (cfT k) = true ∧ poolB (cfT k) = true ∧ timesB (cfT k) = true ∧ devB (cfT k) a9 = true ∧ 30000 ≤ (cfT k).low
theorem ok_T (k : Nat) (hk : k < 6) : okT k := six_cases okT k hk
  ⟨by kernel_rfl, by kernel_rfl, by kernel_rfl, by kernel_rfl, by decide⟩ ⟨by kernel_rfl, by kernel_rfl, by kernel_rfl, by kernel_rfl, by decide⟩ ⟨by kernel_rfl, by kernel_rfl, by kernel_rfl, by kernel_rfl, by decide⟩
  ⟨by kernel_rfl, by kernel_rfl, by kernel_rfl, by kernel_rfl, by decide⟩ ⟨by kernel_rfl, by kernel_rfl, by kernel_rfl, by kernel_rfl, by decide⟩ ⟨by kernel_rfl, by kernel_rfl, by kernel_rfl, by kernel_rfl, by decide⟩
def endT (k : Nat) : Prop := ∀ S, (∀ x, x ∈ S → x = nOpen ∨ x = nmT k) → nmT k ∈ S → endsV (setC usC (nmT k) (match valuesV (nmT k) (cutE 61 (lineT k)).2.1 with | some [v] => v | _ => .n 0)) S = cfT k
theorem endT_no {k : Nat} {v : Vl} (h : nmT k ≠ nLan) (h4 : valuesV (nmT k) (cutE 61 (lineT k)).2.1 = some [v]) (h5 : setC usC (nmT k) v = cfT k) : endT k := by
  intro S hS _
  rw [h4, endsV_no, h5]
  intro hm
  rcases hS _ hm with e | e
  · exact absurd e (by decide)
  · exact h e.symm
theorem end_T (k : Nat) (hk : k < 6) : endT k := by
  refine six_cases endT k hk ?_ ?_ ?_ ?_ ?_ ?_
  · exact endT_no (v := .n 60) (by decide) (by kernel_rfl) (by kernel_rfl)
  · exact endT_no (v := .a ⟨1, 1, 1, 1⟩) (by decide) (by kernel_rfl) (by kernel_rfl)
  · exact endT_no (v := .n 30000) (by decide) (by kernel_rfl) (by kernel_rfl)
  · intro S hS hm
    have h4 : valuesV (nmT 3) (cutE 61 (lineT 3)).2.1 = some [.o ⟨192, 168, 1, 1⟩ 24] := by kernel_rfl
    have key : ({ setC usC nLan (.o ⟨192, 168, 1, 1⟩ 24) with fst := of4 (endF (setC usC nLan (.o ⟨192, 168, 1, 1⟩ 24))), lst := of4 (endL (setC usC nLan (.o ⟨192, 168, 1, 1⟩ 24))) } : Cf) = cfT 3 := by kernel_rfl
    rw [h4, endsV_yes (show nLan ∈ S from hm), if_neg, if_neg]
    · exact key
    · intro hl
      rcases hS _ hl with e | e <;> exact absurd e (by decide)
    · intro hl
      rcases hS _ hl with e | e <;> exact absurd e (by decide)
  · exact endT_no (v := .m ⟨2, 0, 0, 0, 0, 10⟩) (by decide) (by kernel_rfl) (by kernel_rfl)
  · exact endT_no (v := .a ⟨192, 168, 1, 120⟩) (by decide) (by kernel_rfl) (by kernel_rfl)
theorem parse_tw1 (k n : Nat) (hk : k < 6) (hn : n ≤ 30) : parseG (tw1 k n) = (⟨cfT k, [], opsT n⟩, 0, 0) := by
  obtain ⟨g1, g2, _, g4, g5⟩ := good_T k hk
  obtain ⟨o1, o2, o3, o4, o5⟩ := ok_T k hk
  have hl := openT_len n (by omega)
  rw [parseG, if_neg (by
    rw [lines_tw1 k n hk]
    have : (tw1 k n).length ≤ 2000 := by simp [tw1]; omega
    simp
    omega), lines_tw1 k n hk, range_zero]
  obtain ⟨S', h1, h2⟩ := go_opens usG [lineT k] n 0 [] 0 (by omega) rfl
  have hS : nmT k ∉ S' := fun hm => by
    rcases (h2 _).1 hm with e | ⟨_, e⟩
    · cases e
    · exact g5 e
  rw [h1, goG, g1 _ S' hS, if_pos rfl, goG, resG, if_pos rfl]
  simp only [endsG, Nat.zero_add]
  have he := end_T k hk (nmT k :: S') (fun x hx => by
    rcases List.mem_cons.1 hx with e | hx
    · exact .inr e
    · rcases (h2 _).1 hx with e | ⟨_, e⟩
      · cases e
      · exact .inl e) (by simp)
  rw [show usG.c = usC from rfl, he]
  have hc : chkG ⟨cfT k, usG.lf, opsT n⟩ = 0 := by
    rw [chkG, checkG]
    simp only
    rw [o1, o2, o3, show fixB (cfT k) usG.lf = true from rfl, opnB, opsT_range, opn_ok (cfT k) o5 o4 n 0 [] (by omega) (fun _ _ _ => by simp)]
    simp
    omega
  rw [hc, if_pos rfl]
  rfl
end Go.Proofs.YtnmdiageigbphaaGreatDoor
