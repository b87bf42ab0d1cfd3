/-
  ConfNets, the plain law: a net told alone.
-/
import Derived.Test.YtnmdiageigbphaaGreatDoorKq15
import Derived.Test.YtnmdiageigbphaaGreatDoorKd1
import Derived.Test.YtnmdiageigbphaaGreatDoorTq3
namespace Go.Proofs.YtnmdiageigbphaaGreatDoor
section
open Go.RowKit

theorem cutE_app (c : UInt8) : ∀ (a b : List UInt8), (∀ x ∈ a, x ≠ c) → cutE c (a ++ c :: b) = (a, b, true)
  | [], b, _ => by rw [List.nil_append, cutE, if_pos rfl]
  | x :: a, b, h => by rw [List.cons_append, cutE, if_neg (h x (by simp)), cutE_app c a b (fun y hy => h y (by simp [hy]))]
theorem wordsW_app : ∀ (s wd r : List UInt8), wd ++ s ≠ [] → (∀ b ∈ s, blk b = false) → wordsW wd (s ++ 32 :: r) = (wd ++ s) :: wordsW [] r
  | [], wd, r, h, _ => by rw [List.nil_append, wordsW, if_pos (by decide), if_neg (by simpa using h), List.append_nil]
  | b :: s, wd, r, _, hb => by
    rw [List.cons_append, wordsW, if_neg (by rw [hb b (by simp)]; decide), wordsW_app s (wd ++ [b]) r (by simp) (fun x hx => hb x (by simp [hx]))]
    simp
def lineT (k : Nat) : List UInt8 :=
  if k = 0 then [116, 105, 109, 101, 32, 61, 32, 54, 48] else if k = 1 then [100, 110, 115, 32, 61, 32, 49, 46, 49, 46, 49, 46, 49] else if k = 2 then [108, 111, 119, 61, 51, 48, 48, 48, 48]
  else if k = 3 then [108, 97, 110, 32, 61, 32, 49, 57, 50, 46, 49, 54, 56, 46, 49, 46, 49, 47, 50, 52] else if k = 4 then [108, 97, 110, 109, 97, 99, 32, 61, 32, 48, 50, 58, 48, 48, 58, 48, 48, 58, 48, 48, 58, 48, 48, 58, 48, 97]
  else [102, 105, 114, 115, 116, 32, 61, 32, 49, 57, 50, 46, 49, 54, 56, 46, 49, 46, 49, 50, 48]
def nmT (k : Nat) : List UInt8 := if k = 0 then nTime else if k = 1 then nDns else if k = 2 then nLow else if k = 3 then nLan else if k = 4 then nLanmac else nFirst
def cfT (k : Nat) : Cf :=
  if k = 0 then { usC with time := 60 } else if k = 1 then { usC with dns := ⟨1, 1, 1, 1⟩ } else if k = 2 then { usC with low := 30000 } else if k = 3 then usC
  else if k = 4 then { usC with lm := ⟨2, 0, 0, 0, 0, 10⟩ } else { usC with fst := ⟨192, 168, 1, 120⟩ }
theorem six_cases (P : Nat → Prop) (k : Nat) (hk : k < 6) (h0 : P 0) (h1 : P 1) (h2 : P 2) (h3 : P 3) (h4 : P 4) (h5 : P 5) : P k := by
  rcases (show k = 0 ∨ k = 1 ∨ k = 2 ∨ k = 3 ∨ k = 4 ∨ k = 5 by omega) with h | h | h | h | h | h <;> rw [h] <;> assumption
def preO : List UInt8 := [111, 112, 101, 110, 32, 61, 32, 117, 100, 112, 32]
def sufO : List UInt8 := [32, 49, 57, 50, 46, 49, 54, 56, 46, 49, 46, 57, 32, 56, 48]
def a9 : Ad4 := ⟨192, 168, 1, 9⟩
def opnL (i : Nat) : List UInt8 := preO ++ decB (100 + i) ++ sufO
def opn1 (i : Nat) : Opn := ⟨17, (100 + i : Nat), a9, 80⟩
def opsT (n : Nat) : List Opn := (List.range n).map opn1
theorem opnL_mem {i : Nat} : ∀ b ∈ opnL i, b ≠ 10 := by
  intro b hb
  rcases List.mem_append.1 hb with hb | hb
  · rcases List.mem_append.1 hb with hb | hb
    · exact (show ∀ b ∈ preO, b ≠ 10 by decide) b hb
    · have := dec_digs _ b hb
      rintro rfl
      simp at this
  · exact (show ∀ b ∈ sufO, b ≠ 10 by decide) b hb
theorem dec_nb (i : Nat) : ∀ b ∈ decB i, blk b = false := fun b hb => blk_digit (dec_digs i b hb).1
theorem opnL_words (i : Nat) : words (opnL i) = [[111, 112, 101, 110], [61], sUdp, decB (100 + i), [49, 57, 50, 46, 49, 54, 56, 46, 49, 46, 57], [56, 48]] := by
  have e : opnL i = [111, 112, 101, 110] ++ 32 :: ([61] ++ 32 :: (sUdp ++ 32 :: (decB (100 + i) ++ 32 :: [49, 57, 50, 46, 49, 54, 56, 46, 49, 46, 57, 32, 56, 48]))) := by simp [opnL, preO, sufO]
  rw [e, words, wordsW_app _ _ _ (by simp) (by decide), wordsW_app _ _ _ (by simp) (by decide), wordsW_app _ _ _ (by simp) (by decide), wordsW_app _ _ _ (by simpa using dec_ne _) (dec_nb _)]
  rfl
theorem opnL_quiet (i : Nat) : quiet (opnL i) = false := by rw [quiet, opnL_words]; rfl
theorem opnL_cut (i : Nat) : cutE 61 (opnL i) = ([111, 112, 101, 110, 32], 32 :: (sUdp ++ 32 :: (decB (100 + i) ++ sufO)), true) := by
  have e : opnL i = [111, 112, 101, 110, 32] ++ 61 :: (32 :: (sUdp ++ 32 :: (decB (100 + i) ++ sufO))) := by simp [opnL, preO, sufO]
  rw [e, cutE_app 61 _ _ (by decide)]
theorem opnL_name (i : Nat) : nameOf (opnL i) = nOpen := by rw [nameOf, opnL_cut]; kernel_rfl
theorem opnL_values (i : Nat) (hi : i ≤ 1000) : valuesV nOpen (32 :: (sUdp ++ 32 :: (decB (100 + i) ++ sufO))) = some [.n 17, .n (100 + i), .a a9, .n 80] := by
  have hw : words (32 :: (sUdp ++ 32 :: (decB (100 + i) ++ sufO))) = [sUdp, decB (100 + i), [49, 57, 50, 46, 49, 54, 56, 46, 49, 46, 57], [56, 48]] := by
    have e : sufO = 32 :: [49, 57, 50, 46, 49, 54, 56, 46, 49, 46, 57, 32, 56, 48] := rfl
    rw [words, wordsW, if_pos (by decide), if_pos rfl, wordsW_app _ _ _ (by simp) (by decide), e, wordsW_app _ _ _ (by simpa using dec_ne _) (dec_nb _)]
    rfl
  have h2 : valK 110 (decB (100 + i)) = some (.n (100 + i)) := by
    show valN _ = _
    rw [valN, numC_dec _ (by omega)]
    rfl
  have h1 : valK 112 sUdp = some (.n 17) := by kernel_rfl
  have h3 : valK 97 [49, 57, 50, 46, 49, 54, 56, 46, 49, 46, 57] = some (.a a9) := by kernel_rfl
  have h4 : valK 110 [56, 48] = some (.n 80) := by kernel_rfl
  rw [valuesV, hw, show kindsV nOpen = [112, 110, 97, 110] from rfl, if_neg (by simp), valsGo, h1, valsGo, h2, valsGo, h3, valsGo, h4]
  rfl
theorem opnL_line (C : Cg) (S : List (List UInt8)) (i : Nat) (hi : i ≤ 1000) : lineG C S (opnL i) = (0, { C with lo := C.lo ++ [opn1 i] }, nOpen :: S) := by
  rw [lineG, if_neg (by rw [opnL_quiet]; decide), opnL_name, opnL_cut]
  simp only
  rw [lineGW_some (opnL_values i hi), if_neg (by rintro ⟨_, _, h⟩; exact h rfl)]
  rfl
def goodT (k : Nat) : Prop := (∀ C S, nmT k ∉ S → lineG C S (lineT k) = (0, { C with c := setC C.c (nmT k) (match valuesV (nmT k) (cutE 61 (lineT k)).2.1 with | some [v] => v | _ => .n 0) }, nmT k :: S)) ∧
  (∀ C S, nmT k ∈ S → lineG C S (lineT k) = (8, C, S)) ∧ (∀ x ∈ lineT k, x ≠ 10) ∧ (lineT k).length ≤ 30 ∧ nmT k ≠ nOpen
theorem goodT_mk {k : Nat} {v : Vl} (h1 : quiet (lineT k) = false) (h2 : nameOf (lineT k) = nmT k) (h3 : (cutE 61 (lineT k)).2.2 = true) (h4 : valuesV (nmT k) (cutE 61 (lineT k)).2.1 = some [v]) (h5 : ∀ C : Cg, setG C (nmT k) [v] = { C with c := setC C.c (nmT k) v })
    (h6 : ∀ b ∈ lineT k, b ≠ 10) (h7 : (lineT k).length ≤ 30) (h8 : nmT k ≠ nFixed ∧ nmT k ≠ nOpen) : goodT k := by
  refine ⟨fun C S hS => ?_, fun C S hS => ?_, h6, h7, h8.2⟩
  · rw [lineG, if_neg (by rw [h1]; decide), h2, h3, lineGW_some h4, if_neg (fun h => hS h.1), h4, h5]
  · rw [lineG, if_neg (by rw [h1]; decide), h2, h3, lineGW_some h4, if_pos ⟨hS, h8⟩]
theorem good_T (k : Nat) (hk : k < 6) : goodT k := six_cases goodT k hk
  (goodT_mk (v := .n 60) (by kernel_rfl) (by kernel_rfl) (by kernel_rfl) (by kernel_rfl) (fun _ => rfl) (by decide) (by decide) (by decide))
  (goodT_mk (v := .a ⟨1, 1, 1, 1⟩) (by kernel_rfl) (by kernel_rfl) (by kernel_rfl) (by kernel_rfl) (fun _ => rfl) (by decide) (by decide) (by decide))
  (goodT_mk (v := .n 30000) (by kernel_rfl) (by kernel_rfl) (by kernel_rfl) (by kernel_rfl) (fun _ => rfl) (by decide) (by decide) (by decide))
  (goodT_mk (v := .o ⟨192, 168, 1, 1⟩ 24) (by kernel_rfl) (by kernel_rfl) (by kernel_rfl) (by kernel_rfl) (fun _ => rfl) (by decide) (by decide) (by decide))
  (goodT_mk (v := .m ⟨2, 0, 0, 0, 0, 10⟩) (by kernel_rfl) (by kernel_rfl) (by kernel_rfl) (by kernel_rfl) (fun _ => rfl) (by decide) (by decide) (by decide))
  (goodT_mk (v := .a ⟨192, 168, 1, 120⟩) (by kernel_rfl) (by kernel_rfl) (by kernel_rfl) (by kernel_rfl) (fun _ => rfl) (by decide) (by decide) (by decide))
def openT : Nat → List UInt8
  | 0 => []
  | n + 1 => openT n ++ (opnL n ++ [10])
theorem cut_openT : ∀ (n : Nat) (r : List UInt8), cutB 10 (openT n ++ r) = (List.range n).map opnL ++ cutB 10 r
  | 0, r => by simp [openT]
  | n + 1, r => by
    rw [openT, List.append_assoc, List.append_assoc, cut_openT n, show opnL n ++ ([10] ++ r) = opnL n ++ 10 :: r from rfl, cutB_cons 10 _ _ opnL_mem, List.range_succ]
    simp
theorem openT_len : ∀ n, n ≤ 1000 → (openT n).length ≤ 48 * n
  | 0, _ => by simp [openT]
  | n + 1, h => by
    have h1 := openT_len n (by omega)
    have h2 := decB_le (100 + n)
    have h3 : (opnL n).length = (decB (100 + n)).length + 26 := by simp only [opnL, preO, sufO, List.length_append, List.length_cons, List.length_nil]; omega
    rw [openT, List.length_append, List.length_append, h3]
    simp; omega
/-- The text with its line twice, and the text with it once. -/
def tw2 (k n : Nat) : List UInt8 := (lineT k ++ [10]) ++ openT n ++ (lineT k ++ [10])
def tw1 (k n : Nat) : List UInt8 := openT n ++ (lineT k ++ [10])
theorem lines_tw2 (k n : Nat) (hk : k < 6) : linesV (tw2 k n) = lineT k :: ((List.range n).map opnL ++ [lineT k]) := by
  have h := (good_T k hk).2.2.1
  have e : cutB 10 (tw2 k n) = (lineT k :: ((List.range n).map opnL ++ [lineT k])) ++ [[]] := by
    rw [tw2, List.append_assoc, List.append_assoc, show lineT k ++ ([10] ++ (openT n ++ (lineT k ++ [10]))) = lineT k ++ 10 :: (openT n ++ (lineT k ++ 10 :: [])) from rfl, cutB_cons 10 _ _ h, cut_openT, cutB_cons 10 _ _ h]
    simp [cutB]
  rw [linesV, e, if_pos (by rw [List.getLast?_append]; rfl), List.dropLast_concat]
theorem lines_tw1 (k n : Nat) (hk : k < 6) : linesV (tw1 k n) = (List.range n).map opnL ++ [lineT k] := by
  have h := (good_T k hk).2.2.1
  have e : cutB 10 (tw1 k n) = ((List.range n).map opnL ++ [lineT k]) ++ [[]] := by
    rw [tw1, show openT n ++ (lineT k ++ [10]) = openT n ++ (lineT k ++ 10 :: []) from rfl, cut_openT, cutB_cons 10 _ _ h]
    simp [cutB]
  rw [linesV, e, if_pos (by rw [List.getLast?_append]; rfl), List.dropLast_concat]
theorem go_opens (C : Cg) (r : List (List UInt8)) : ∀ (d m : Nat) (S : List (List UInt8)) (a : Nat), m + d ≤ 1000 → C.lo = opsT m →
    ∃ S', goG C S a ((List.range' m d).map opnL ++ r) = goG { C with lo := opsT (m + d) } S' (a + d) r ∧ ∀ x, x ∈ S' ↔ x ∈ S ∨ (0 < d ∧ x = nOpen) := by
  intro d
  induction d generalizing C with
  | zero => intro m S a _ h; exact ⟨S, by rw [Nat.add_zero, ← h]; rfl, fun x => by simp⟩
  | succ d ih =>
    intro m S a hm h
    obtain ⟨S', h1, h2⟩ := ih { C with lo := opsT (m + 1) } (m + 1) (nOpen :: S) (a + 1) (by omega) rfl
    refine ⟨S', ?_, fun x => ?_⟩
    · rw [List.range'_succ, List.map_cons, List.cons_append, goG, opnL_line C S m (by omega), if_pos rfl]
      have e : { C with lo := C.lo ++ [opn1 m] } = { C with lo := opsT (m + 1) } := by rw [h, opsT, opsT, List.range_succ, List.map_append]; rfl
      rw [e, h1]
      rw [show m + 1 + d = m + (d + 1) by omega, show a + 1 + d = a + (d + 1) by omega]
    · rw [h2 x]
      simp only [List.mem_cons]
      constructor
      · rintro ((rfl | h) | ⟨_, h⟩)
        · exact .inr ⟨by omega, rfl⟩
        · exact .inl h
        · exact .inr ⟨by omega, h⟩
      · rintro (h | ⟨_, h⟩)
        · exact .inl (.inr h)
        · exact .inl (.inl h)
theorem range_zero (n : Nat) : List.range n = List.range' 0 n := List.range_eq_range'
theorem opsT_range (n : Nat) : opsT n = (List.range' 0 n).map opn1 := by rw [opsT, range_zero]
theorem parse_tw2 (k n : Nat) (hk : k < 6) (hn : n ≤ 30) : parseG (tw2 k n) = (zG, ((n : Int) + 2), 8) := by
  obtain ⟨g1, g2, _, g4, _⟩ := good_T k hk
  have hl := openT_len n (by omega)
  rw [parseG, if_neg (by
    rw [lines_tw2 k n hk]
    have : (tw2 k n).length ≤ 2000 := by simp [tw2]; omega
    simp
    omega), lines_tw2 k n hk, goG, g1 usG [] (by simp), if_pos rfl]
  simp only
  rw [range_zero]
  obtain ⟨S', h1, h2⟩ := go_opens { usG with c := setC usG.c (nmT k) (match valuesV (nmT k) (cutE 61 (lineT k)).2.1 with | some [v] => v | _ => .n 0) } [lineT k] n 0 [nmT k] (0 + 1) (by omega) rfl
  rw [h1, goG, g2 _ S' ((h2 _).2 (.inl (by simp)))]
  simp [resG]
  omega
theorem opn_ok (c : Cf) (h1 : 30000 ≤ c.low) (h2 : devB c a9 = true) : ∀ (d m : Nat) (S : List (List UInt8)), m + d ≤ 32 → (∀ j, m ≤ j → j < m + d → twoK 17 ((100 + j : Nat) : Int) ∉ S) → opnGo c S ((List.range' m d).map opn1) = true := by
  intro d
  induction d with
  | zero => intros; rfl
  | succ d ih =>
    intro m S hm hS
    rw [List.range'_succ, List.map_cons, opnGo]
    have e1 : protB (opn1 m).pr = true := rfl
    have e2 : inR (opn1 m).po 1 (c.low - 1) = true := by
      show (decide (1 ≤ ((100 + m : Nat) : Int)) && decide (((100 + m : Nat) : Int) ≤ c.low - 1)) = true
      rw [decide_eq_true (by omega), decide_eq_true (by omega)]
      rfl
    have e3 : inR (opn1 m).tp 1 65535 = true := rfl
    have e4 : devB c (opn1 m).a = true := h2
    have e5 : decide (twoK (opn1 m).pr (opn1 m).po ∈ S) = false := decide_eq_false (hS m (by omega) (by omega))
    rw [e1, e2, e3, e4, e5]
    simp only [Bool.not_false, Bool.and_true, Bool.true_and]
    refine ih (m + 1) _ (by omega) fun j h3 h4 hmem => ?_
    rcases List.mem_cons.1 hmem with e | hmem
    · have := (twoK_inj (wf_nat (v := 17) (by omega)) (wf_nat (v := 100 + j) (by omega)) (wf_nat (v := 17) (by omega)) (wf_nat (v := 100 + m) (by omega)) e).2
      omega
    · exact hS j (by omega) (by omega) hmem
def okT (k : Nat) : Prop := netB (cfT k) = true ∧ poolB (cfT k) = true ∧ timesB (cfT k) = true ∧ devB (cfT k) a9 = true ∧ 30000 ≤ (cfT k).low
theorem ok_T (k : Nat) (hk : k < 6) : okT k := six_cases okT k hk
  ⟨by kernel_rfl, by kernel_rfl, by kernel_rfl, by kernel_rfl, by decide⟩ ⟨by kernel_rfl, by kernel_rfl, by kernel_rfl, by kernel_rfl, by decide⟩ ⟨by kernel_rfl, by kernel_rfl, by kernel_rfl, by kernel_rfl, by decide⟩
  ⟨by kernel_rfl, by kernel_rfl, by kernel_rfl, by kernel_rfl, by decide⟩ ⟨by kernel_rfl, by kernel_rfl, by kernel_rfl, by kernel_rfl, by decide⟩ ⟨by kernel_rfl, by kernel_rfl, by kernel_rfl, by kernel_rfl, by decide⟩
def endT (k : Nat) : Prop := ∀ S, (∀ x, x ∈ S → x = nOpen ∨ x = nmT k) → nmT k ∈ S → endsV (setC usC (nmT k) (match valuesV (nmT k) (cutE 61 (lineT k)).2.1 with | some [v] => v | _ => .n 0)) S = cfT k
theorem endT_no {k : Nat} {v : Vl} (h : nmT k ≠ nLan) (h4 : valuesV (nmT k) (cutE 61 (lineT k)).2.1 = some [v]) (h5 : setC usC (nmT k) v = cfT k) : endT k := by
  intro S hS _
  rw [h4, endsV_no, h5]
  intro hm
  rcases hS _ hm with e | e
  · exact absurd e (by decide)
  · exact h e.symm
theorem end_T (k : Nat) (hk : k < 6) : endT k := by
  refine six_cases endT k hk ?_ ?_ ?_ ?_ ?_ ?_
  · exact endT_no (v := .n 60) (by decide) (by kernel_rfl) (by kernel_rfl)
  · exact endT_no (v := .a ⟨1, 1, 1, 1⟩) (by decide) (by kernel_rfl) (by kernel_rfl)
  · exact endT_no (v := .n 30000) (by decide) (by kernel_rfl) (by kernel_rfl)
  · intro S hS hm
    have h4 : valuesV (nmT 3) (cutE 61 (lineT 3)).2.1 = some [.o ⟨192, 168, 1, 1⟩ 24] := by kernel_rfl
    have key : ({ setC usC nLan (.o ⟨192, 168, 1, 1⟩ 24) with fst := of4 (endF (setC usC nLan (.o ⟨192, 168, 1, 1⟩ 24))), lst := of4 (endL (setC usC nLan (.o ⟨192, 168, 1, 1⟩ 24))) } : Cf) = cfT 3 := by kernel_rfl
    rw [h4, endsV_yes (show nLan ∈ S from hm), if_neg, if_neg]
    · exact key
    · intro hl
      rcases hS _ hl with e | e <;> exact absurd e (by decide)
    · intro hl
      rcases hS _ hl with e | e <;> exact absurd e (by decide)
  · exact endT_no (v := .m ⟨2, 0, 0, 0, 0, 10⟩) (by decide) (by kernel_rfl) (by kernel_rfl)
  · exact endT_no (v := .a ⟨192, 168, 1, 120⟩) (by decide) (by kernel_rfl) (by kernel_rfl)
theorem parse_tw1 (k n : Nat) (hk : k < 6) (hn : n ≤ 30) : parseG (tw1 k n) = (⟨cfT k, [], opsT n⟩, 0, 0) := by
  obtain ⟨g1, g2, _, g4, g5⟩ := good_T k hk
  obtain ⟨o1, o2, o3, o4, o5⟩ := ok_T k hk
  have hl := openT_len n (by omega)
  rw [parseG, if_neg (by
    rw [lines_tw1 k n hk]
    have : (tw1 k n).length ≤ 2000 := by simp [tw1]; omega
    simp
    omega), lines_tw1 k n hk, range_zero]
  obtain ⟨S', h1, h2⟩ := go_opens usG [lineT k] n 0 [] 0 (by omega) rfl
  have hS : nmT k ∉ S' := fun hm => by
    rcases (h2 _).1 hm with e | ⟨_, e⟩
    · cases e
    · exact g5 e
  rw [h1, goG, g1 _ S' hS, if_pos rfl, goG, resG, if_pos rfl]
  simp only [endsG, Nat.zero_add]
  have he := end_T k hk (nmT k :: S') (fun x hx => by
    rcases List.mem_cons.1 hx with e | hx
    · exact .inr e
    · rcases (h2 _).1 hx with e | ⟨_, e⟩
      · cases e
      · exact .inl e) (by simp)
  rw [show usG.c = usC from rfl, he]
  have hc : chkG ⟨cfT k, usG.lf, opsT n⟩ = 0 := by
    rw [chkG, checkG]
    simp only
    rw [o1, o2, o3, show fixB (cfT k) usG.lf = true from rfl, opnB, opsT_range, opn_ok (cfT k) o5 o4 n 0 [] (by omega) (fun _ _ _ => by simp)]
    simp
    omega
  rw [hc, if_pos rfl]
  rfl
end
section
open Go.RowKit

theorem adeq_num (a b : Ad4) : adeq a b = decide (numA a = numA b) := by
  rw [Bool.eq_iff_iff, adeq_iff, decide_eq_true_iff]
  exact ⟨fun h => h ▸ rfl, numA_inj⟩
theorem num_firstA (a : Ad4) (b : Int) (k : Nat) (hk : k ≤ 32) (hb : behN b = 2 ^ k - 1) : numA (firstA a b) = numA a / 2 ^ k * 2 ^ k := by
  unfold firstA
  rw [numA_of4 _ (first_lt _ _ (numA_lt a)), hb, firstN_eq _ _ (numA_lt a) hk]
theorem num_lastA (a : Ad4) (b : Int) (k : Nat) (hb : behN b = 2 ^ k - 1) : numA (lastA a b) = numA a / 2 ^ k * 2 ^ k + (2 ^ k - 1) := by
  unfold lastA
  rw [numA_of4 _ (last_lt _ _ (numA_lt a) (behN_lt b)), hb, lastN_eq]
/-- An address of the net, neither of its ends, by numbers. -/
theorem inB_num (c : Cf) (k F : Nat) (hk : k ≤ 32) (hb : behN c.lanB = 2 ^ k - 1) (hF : numA c.lanA = F) (hal : F / 2 ^ k * 2 ^ k = F) (y : Ad4) :
    inB c y = (decide (F < numA y) && decide (numA y < F + (2 ^ k - 1))) := by
  have hFl : F < 4294967296 := hF ▸ numA_lt c.lanA
  rw [inB, adeq_num, adeq_num, num_firstA _ _ k hk hb, num_lastA _ _ k hb, hF, hb, has_within _ _ _ (numA_lt y) hFl hk, firstN_eq _ _ hFl hk, lastN_eq, hal]
  rw [Bool.eq_iff_iff]
  simp only [Bool.and_eq_true, Bool.not_eq_true', decide_eq_true_eq, decide_eq_false_iff_not]
  omega
def lanT (a : Ad4) (b : Nat) : List UInt8 := [108, 97, 110, 32, 61, 32] ++ (textA a ++ 47 :: decB b)
theorem textA_digs (a : Ad4) : ∀ b ∈ textA a, 46 ≤ b.toNat ∧ b.toNat ≤ 57 ∧ b.toNat ≠ 47 := by
  intro b hb
  have h46 : ((46 : UInt8).toNat) = 46 := rfl
  rw [textA] at hb
  simp only [List.mem_append, List.mem_cons] at hb
  rcases hb with h | h | h | h | h | h | h
  · have := dec_digs _ b h; omega
  · subst h; omega
  · have := dec_digs _ b h; omega
  · subst h; omega
  · have := dec_digs _ b h; omega
  · subst h; omega
  · have := dec_digs _ b h; omega
theorem textA_ne (a : Ad4) : textA a ≠ [] := by
  rw [textA]
  intro h
  have := (List.append_eq_nil_iff.1 h).1
  exact dec_ne _ this
theorem netT_digs (a : Ad4) (k : Nat) : ∀ b ∈ textA a ++ 47 :: decB k, 46 ≤ b.toNat ∧ b.toNat ≤ 57 := by
  intro b hb
  rcases List.mem_append.1 hb with h | h
  · have := textA_digs a b h; omega
  · rcases List.mem_cons.1 h with rfl | h
    · decide
    · have := dec_digs _ b h; omega
theorem nb_of {b : UInt8} (h : 46 ≤ b.toNat) : blk b = false := by
  simp only [blk, Bool.or_eq_false_iff, beq_eq_false_iff_ne]
  constructor <;> (rintro rfl; simp at h)
theorem netT_nb (a : Ad4) (k : Nat) : ∀ b ∈ textA a ++ 47 :: decB k, blk b = false := fun b hb => nb_of (netT_digs a k b hb).1
theorem lanT_cut (a : Ad4) (k : Nat) : cutE 61 (lanT a k) = ([108, 97, 110, 32], 32 :: (textA a ++ 47 :: decB k), true) := by
  rw [lanT, show ([108, 97, 110, 32, 61, 32] : List UInt8) ++ (textA a ++ 47 :: decB k) = [108, 97, 110, 32] ++ 61 :: (32 :: (textA a ++ 47 :: decB k)) from rfl, cutE_app 61 _ _ (by decide)]
theorem words_net (a : Ad4) (k : Nat) : words (32 :: (textA a ++ 47 :: decB k)) = [textA a ++ 47 :: decB k] := by
  rw [words, wordsW, if_pos (by decide), if_pos rfl]
  have h := words_one (s := textA a ++ 47 :: decB k) (by simp) (netT_nb a k)
  exact h
theorem lanT_quiet (a : Ad4) (k : Nat) : quiet (lanT a k) = false := by
  have e : lanT a k = [108, 97, 110] ++ 32 :: ([61] ++ 32 :: (textA a ++ 47 :: decB k)) := rfl
  rw [quiet, e, words, wordsW_app _ _ _ (by simp) (by decide)]
  rfl
theorem valOw_net (a : Ad4) (k : Nat) (hk : k < 1000000000) : valOw (textA a ++ 47 :: decB k) = some (.o a k) := by
  have e : cutE 47 (textA a ++ 47 :: decB k) = (textA a, decB k, true) := cutE_app 47 _ _ (fun x hx => by
    have := textA_digs a x hx
    rintro rfl
    exact this.2.2 rfl)
  rw [valOw, e]
  simp only [parse_text, numC_dec k hk, Option.isSome_some, Option.getD_some, and_self, if_true]
theorem lan_values (a : Ad4) (k : Nat) (hk : k < 1000000000) : valuesV nLan (32 :: (textA a ++ 47 :: decB k)) = some [.o a k] := by
  have h1 : valK 111 (textA a ++ 47 :: decB k) = some (.o a k) := valOw_net a k hk
  rw [valuesV, words_net, show kindsV nLan = [111] from rfl, if_neg (by simp), valsGo, h1]
  rfl
theorem lan_name (a : Ad4) (k : Nat) : nameOf (lanT a k) = nLan := by rw [nameOf, lanT_cut]; kernel_rfl
theorem lan_line (C : Cg) (S : List (List UInt8)) (a : Ad4) (k : Nat) (hk : k < 1000000000) (hS : nLan ∉ S) :
    lineG C S (lanT a k) = (0, { C with c := { C.c with own := a, lanA := firstA a k, lanB := k } }, nLan :: S) := by
  rw [lineG, if_neg (by rw [lanT_quiet]; decide), lan_name, lanT_cut]
  simp only
  rw [lineGW_some (lan_values a k hk), if_neg (fun h => hS h.1)]
  rfl
theorem cutB_one (c : UInt8) (s : List UInt8) (h : ∀ x ∈ s, x ≠ c) : cutB c s = [s] := cutB_none c s h
theorem lanT_lines (a : Ad4) (k : Nat) : linesV (lanT a k) = [lanT a k] := by
  have h : ∀ x ∈ lanT a k, x ≠ 10 := by
    intro x hx
    rcases List.mem_append.1 hx with hx | hx
    · exact (show ∀ b ∈ ([108, 97, 110, 32, 61, 32] : List UInt8), b ≠ 10 by decide) x hx
    · have := netT_digs a k x hx
      rintro rfl
      simp at this
  rw [linesV, cutB_one 10 _ h, if_neg]
  intro e
  have : lanT a k = [] := by simpa using e
  rw [lanT] at this
  simp at this
theorem lanT_len (a : Ad4) (k : Nat) (hk : k ≤ 1000) : (lanT a k).length ≤ 200 := by
  have h1 := textA_le a
  have h2 := decB_le k
  rw [lanT]
  simp
  omega
/-- Where the pool of a net stands of itself. -/
def netLo (F b : Nat) : Nat := if 24 < b then F + 2 else F + 100
def netHi (F b k : Nat) : Nat := if 24 < b then (if F + (2 ^ k - 1) - 1 < F + 33 then F + (2 ^ k - 1) - 1 else F + 33) else F + 131
def netCf (a : Ad4) (b : Nat) : Cf := { usC with own := a, lanA := firstA a b, lanB := b, fst := of4 (netLo (numA a / 2 ^ (32 - b) * 2 ^ (32 - b)) b), lst := of4 (netHi (numA a / 2 ^ (32 - b) * 2 ^ (32 - b)) b (32 - b)) }
theorem pow_cases (b : Nat) (h1 : 8 ≤ b) (h2 : b ≤ 28) : ∃ k, k = 32 - b ∧ 4 ≤ k ∧ k ≤ 24 := ⟨_, rfl, by omega, by omega⟩
theorem pow_div (k : Nat) (hk : k ≤ 32) : ∃ q, 4294967296 = 2 ^ k * q := ⟨2 ^ (32 - k), by rw [← Nat.pow_add, show k + (32 - k) = 32 by omega]⟩
theorem net_end (x P q : Nat) (hP : 0 < P) (hx : x < P * q) : x / P * P + P ≤ P * q := by
  have h1 : x / P < q := by
    rw [Nat.div_lt_iff_lt_mul hP, Nat.mul_comm]
    exact hx
  have h2 : (x / P + 1) * P ≤ q * P := Nat.mul_le_mul_right P h1
  rw [Nat.add_mul, Nat.one_mul] at h2
  rw [Nat.mul_comm P q]
  exact h2
def netOkB (a : Ad4) (b : Nat) : Bool :=
  !decide (numA a = numA a / 2 ^ (32 - b) * 2 ^ (32 - b)) && !decide (numA a = numA a / 2 ^ (32 - b) * 2 ^ (32 - b) + (2 ^ (32 - b) - 1)) &&
    (decide (numA a < netLo (numA a / 2 ^ (32 - b) * 2 ^ (32 - b)) b) || decide (netHi (numA a / 2 ^ (32 - b) * 2 ^ (32 - b)) b (32 - b) < numA a))
/-- All that is to be known of such a net's numbers. -/
structure NetN (a : Ad4) (b F P : Nat) : Prop where
  le : F ≤ numA a
  lt : numA a < F + P
  top : F + P ≤ 4294967296
  al : F / P * P = F
  p16 : 16 ≤ P
  p128 : 24 < b → P ≤ 128
  p256 : ¬ 24 < b → 256 ≤ P
theorem netN (a : Ad4) (b : Nat) (h1 : 8 ≤ b) (h2 : b ≤ 28) : NetN a b (numA a / 2 ^ (32 - b) * 2 ^ (32 - b)) (2 ^ (32 - b)) := by
  obtain ⟨k, hk, hk4, hk24⟩ := pow_cases b h1 h2
  rw [← hk]
  have hp : 0 < (2 : Nat) ^ k := Nat.two_pow_pos k
  obtain ⟨q, hq⟩ := pow_div k (by omega)
  have hx := numA_lt a
  have h16 : (2 : Nat) ^ 4 ≤ 2 ^ k := Nat.pow_le_pow_right (by decide) hk4
  have h128 : 24 < b → (2 : Nat) ^ k ≤ 2 ^ 7 := fun h => Nat.pow_le_pow_right (by decide) (by omega)
  have h256 : ¬ 24 < b → (2 : Nat) ^ 8 ≤ 2 ^ k := fun h => Nat.pow_le_pow_right (by decide) (by omega)
  obtain ⟨P, hP⟩ : ∃ P, (2 : Nat) ^ k = P := ⟨_, rfl⟩
  rw [hP] at hp hq h16 h128 h256 ⊢
  have hm := Nat.div_add_mod (numA a) P
  have hml := Nat.mod_lt (numA a) hp
  rw [Nat.mul_comm] at hm
  refine ⟨by omega, by omega, ?_, ?_, by omega, by omega, by omega⟩
  · have := net_end (numA a) P q hp (by rw [← hq]; exact hx)
    rw [← hq] at this
    exact this
  · rw [Nat.mul_div_cancel _ hp]
theorem chk_usual (c : Cf) (h1 : netB c = true) (h2 : poolB c = true) (h3 : timesB c = true) : chkG ⟨c, [], []⟩ = 0 := by
  rw [chkG, checkG]
  simp only
  rw [h1, h2, h3]
  rfl
theorem chk_no (c : Cf) (h : (netB c && poolB c) = false) : chkG ⟨c, [], []⟩ = 1 := by
  rw [chkG, checkG]
  simp only
  rw [h]
  rfl
theorem net_beh (b : Nat) (h2 : b ≤ 32) : behN (b : Int) = 2 ^ (32 - b) - 1 := beh_mid (32 - b) (by omega) (by omega)
theorem w32_nat (n : Nat) (h : n < 4294967296) : w32 (n : Int) = n := by unfold w32; omega
/-- The pool's ends of themselves, as the program reckons them. -/
theorem ends_net (a : Ad4) (b : Nat) (h1 : 8 ≤ b) (h2 : b ≤ 28) :
    endsV { usC with own := a, lanA := firstA a b, lanB := b } [nLan] = netCf a b := by
  have hb := net_beh b (by omega)
  have N := netN a b h1 h2
  have f1 := num_firstA a b (32 - b) (by omega) hb
  obtain ⟨F, hF⟩ : ∃ F, numA a / 2 ^ (32 - b) * 2 ^ (32 - b) = F := ⟨_, rfl⟩
  obtain ⟨P, hP⟩ : ∃ P, (2 : Nat) ^ (32 - b) = P := ⟨_, rfl⟩
  have f2 := num_firstA (firstA a b) b (32 - b) (by omega) hb
  have f3 := num_lastA (firstA a b) b (32 - b) hb
  rw [endsV_yes (by simp), if_neg (by decide), if_neg (by decide), netCf, hF, netLo, netHi]
  rw [hF] at f1 N
  rw [f1, hP] at f2 f3
  rw [hP] at N ⊢
  rw [N.al] at f2 f3
  have t := N.top
  have p16 := N.p16
  have e1 : endF { usC with own := a, lanA := firstA a b, lanB := b } = ((if 24 < b then F + 2 else F + 100 : Nat) : Int) := by
    rw [endF]
    simp only [f2]
    by_cases h : 24 < b
    · rw [if_pos (by omega), if_pos h]
      exact (congrArg w32 (by omega)).trans (w32_nat (F + 2) (by omega))
    · have := N.p256 h
      rw [if_neg (by omega), if_neg h]
      exact (congrArg w32 (by omega)).trans (w32_nat (F + 100) (by omega))
  have e2 : endL { usC with own := a, lanA := firstA a b, lanB := b } = ((if 24 < b then (if F + (P - 1) - 1 < F + 33 then F + (P - 1) - 1 else F + 33) else F + 131 : Nat) : Int) := by
    rw [endL]
    simp only [f2, f3]
    by_cases h : 24 < b
    · have := N.p128 h
      have g1 : w32 ((F : Int) + 2) = ((F + 2 : Nat) : Int) := (congrArg w32 (by omega)).trans (w32_nat (F + 2) (by omega))
      have g2 : w32 (((F + (P - 1) : Nat) : Int) - 1) = ((F + (P - 1) - 1 : Nat) : Int) := (congrArg w32 (by omega)).trans (w32_nat (F + (P - 1) - 1) (by omega))
      have g3 : w32 (((F + (P - 1) - 1 : Nat) : Int) - ((F + 2 : Nat) : Int)) = ((P - 4 : Nat) : Int) := (congrArg w32 (by omega)).trans (w32_nat (P - 4) (by omega))
      rw [if_pos (by omega), if_pos h, g1, g2, g3]
      by_cases h3 : 31 < P - 4
      · have g4 : w32 (((F + 2 : Nat) : Int) + 31) = ((F + 33 : Nat) : Int) := (congrArg w32 (by omega)).trans (w32_nat (F + 33) (by omega))
        rw [if_pos (by omega), g4, if_neg (by omega)]
      · rw [if_neg (by omega)]
        split <;> omega
    · have := N.p256 h
      rw [if_neg (by omega), if_neg h]
      exact (congrArg w32 (by omega)).trans (w32_nat (F + 131) (by omega))
  rw [e1, e2]
theorem net_parse (a : Ad4) (b : Nat) (h1 : 8 ≤ b) (h2 : b ≤ 28) :
    parseG (lanT a b) = if netOkB a b = true then (⟨netCf a b, [], []⟩, 0, 0) else (zG, 0, 1) := by
  have hl := lanT_len a b (by omega)
  rw [parseG, if_neg (by rw [lanT_lines]; simp; omega), lanT_lines, goG, lan_line usG [] a b (by omega) (by simp), if_pos rfl, goG, resG, if_pos rfl]
  simp only [endsG, show usG.c = usC from rfl]
  rw [ends_net a b h1 h2]
  have hb := net_beh b (by omega)
  have N := netN a b h1 h2
  have f1 := num_firstA a b (32 - b) (by omega) hb
  have hnb : ∀ y, inB (netCf a b) y = (decide (numA a / 2 ^ (32 - b) * 2 ^ (32 - b) < numA y) && decide (numA y < numA a / 2 ^ (32 - b) * 2 ^ (32 - b) + (2 ^ (32 - b) - 1))) :=
    fun y => inB_num (netCf a b) (32 - b) _ (by omega) hb f1 N.al y
  have key : (netB (netCf a b) && poolB (netCf a b)) = netOkB a b := by
    obtain ⟨F, hF⟩ : ∃ F, numA a / 2 ^ (32 - b) * 2 ^ (32 - b) = F := ⟨_, rfl⟩
    obtain ⟨P, hP⟩ : ∃ P, (2 : Nat) ^ (32 - b) = P := ⟨_, rfl⟩
    have c1 : (netCf a b).fst = of4 (netLo F b) := by rw [← hF]; rfl
    have c2 : (netCf a b).lst = of4 (netHi F b (32 - b)) := by rw [← hF]; rfl
    have lo1 : netLo F b < 4294967296 := by
      have k1 := N.top; rw [hF, hP] at k1
      have k2 := N.p16; have k3 := N.p256; rw [hP] at k2 k3
      unfold netLo; split <;> omega
    have hi1 : netHi F b (32 - b) < 4294967296 := by
      have k1 := N.top; rw [hF, hP] at k1
      have k2 := N.p16; have k3 := N.p256; have k4 := N.p128; rw [hP] at k2 k3 k4
      unfold netHi; rw [hP]; split
      · split <;> omega
      · omega
    rw [netB, poolB, hnb, hnb, hnb, c1, c2, numA_of4 _ lo1, numA_of4 _ hi1]
    rw [show (netCf a b).lanB = (b : Int) from rfl, show (netCf a b).own = a from rfl, show (netCf a b).lanA = firstA a b from rfl, adeq_self, show grpB (netCf a b).lm = false from (show grpB usC.lm = false by kernel_rfl), show grpB (netCf a b).wm = false from (show grpB usC.wm = false by kernel_rfl)]
    rw [show inR (b : Int) 8 30 = true by rw [inR, decide_eq_true (by omega), decide_eq_true (by omega)]; rfl]
    rw [netOkB, hF, hP]
    have t := N.top; have le := N.le; have lt := N.lt; have p16 := N.p16; have p128 := N.p128; have p256 := N.p256
    rw [hF] at t le lt
    rw [hP] at t lt p16 p128 p256
    unfold netLo netHi
    rw [hP, Bool.eq_iff_iff]
    by_cases h : 24 < b
    · have := p128 h
      simp only [h, if_true]
      by_cases h3 : F + (P - 1) - 1 < F + 33
      · simp only [h3, if_true]
        simp only [Bool.and_eq_true, Bool.or_eq_true, Bool.not_eq_true', Bool.not_false, decide_eq_true_eq, decide_eq_false_iff_not, true_and, and_true]
        omega
      · simp only [h3, if_false]
        simp only [Bool.and_eq_true, Bool.or_eq_true, Bool.not_eq_true', Bool.not_false, decide_eq_true_eq, decide_eq_false_iff_not, true_and, and_true]
        omega
    · have := p256 h
      simp only [h, if_false]
      simp only [Bool.and_eq_true, Bool.or_eq_true, Bool.not_eq_true', Bool.not_false, decide_eq_true_eq, decide_eq_false_iff_not, true_and, and_true]
      omega
  by_cases ho : netOkB a b = true
  · rw [if_pos ho]
    rw [ho, Bool.and_eq_true] at key
    rw [show usG.lf = [] from rfl, show usG.lo = [] from rfl, chk_usual _ key.1 key.2 (by kernel_rfl), if_pos rfl]
  · rw [if_neg ho]
    rw [Bool.not_eq_true] at ho
    rw [show usG.lf = [] from rfl, show usG.lo = [] from rfl, chk_no _ (by rw [key, ho]), if_neg (by decide)]
end
end Go.Proofs.YtnmdiageigbphaaGreatDoor
