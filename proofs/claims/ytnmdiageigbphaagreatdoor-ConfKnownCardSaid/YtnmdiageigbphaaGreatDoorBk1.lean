/-
  ConfBack, the plain law: what is written reads back the same.
-/
import Derived.Test.YtnmdiageigbphaaGreatDoorTp1
import Derived.Test.YtnmdiageigbphaaGreatDoorNt1
namespace Go.Proofs.YtnmdiageigbphaaGreatDoor
open Go.RowKit

theorem catL_cut : ∀ (L : List (List UInt8)), (∀ x ∈ L, ∀ b ∈ x, b ≠ 10) → cutB 10 (catL L) = L ++ [[]]
  | [], _ => rfl
  | x :: r, h => by
    have e : catL (x :: r) = x ++ 10 :: catL r := by simp [catL]
    rw [e, cutB_cons 10 _ _ (h x (by simp)), catL_cut r (fun y hy => h y (by simp [hy]))]
    rfl
theorem catL_lines (L : List (List UInt8)) (h : ∀ x ∈ L, ∀ b ∈ x, b ≠ 10) : linesV (catL L) = L := by
  rw [linesV, catL_cut L h, if_pos (by rw [List.getLast?_append]; rfl), List.dropLast_concat]
theorem catL_len (k : Nat) : ∀ (L : List (List UInt8)), (∀ x ∈ L, x.length ≤ k) → (catL L).length ≤ (k + 1) * L.length
  | [], _ => by simp [catL]
  | x :: r, h => by
    have e : catL (x :: r) = x ++ 10 :: catL r := by simp [catL]
    have h1 := catL_len k r (fun y hy => h y (by simp [hy]))
    have h2 := h x (by simp)
    rw [e, List.length_append, List.length_cons, List.length_cons, Nat.mul_add]
    omega
/-- A name that may stand ahead of a line's sign. -/
def gName (nm : List UInt8) : Prop := (∀ b ∈ nm, blk b = false ∧ b ≠ 61 ∧ b ≠ 10) ∧ nm ≠ [] ∧ List.isPrefixOf [35] nm = false ∧ Lib.trimS (nm ++ [32]) [32, 9] = nm
theorem ln_quiet {nm v : List UInt8} (h : gName nm) : quiet (ln nm v) = false := by
  have e : ln nm v = nm ++ 32 :: ([61] ++ 32 :: v) := by simp [ln]
  rw [quiet, e, words, wordsW_app _ _ _ (by simpa using h.2.1) (fun b hb => (h.1 b hb).1), List.nil_append]
  simp only [List.isEmpty_cons, List.getD_cons_zero, Bool.false_or]
  exact h.2.2.1
theorem ln_cut {nm v : List UInt8} (h : gName nm) : cutE 61 (ln nm v) = (nm ++ [32], 32 :: v, true) := by
  have e : ln nm v = (nm ++ [32]) ++ 61 :: (32 :: v) := by simp [ln]
  rw [e, cutE_app 61 _ _ (fun x hx => by
    rcases List.mem_append.1 hx with hx | hx
    · exact (h.1 x hx).2.1
    · rw [List.mem_singleton.1 hx]; decide)]
theorem ln_line {nm v : List UInt8} {vs : List Vl} (h : gName nm) (C : Cg) (S : List (List UInt8)) (hv : valuesV nm (32 :: v) = some vs) (hS : ¬ (nm ∈ S ∧ nm ≠ nFixed ∧ nm ≠ nOpen)) : lineG C S (ln nm v) = (0, setG C nm vs, nm :: S) := by
  rw [lineG, if_neg (by rw [ln_quiet h]; decide), nameOf, ln_cut h, h.2.2.2]
  simp only
  rw [lineGW_some hv, if_neg hS]
theorem words_sp (v : List UInt8) : words (32 :: v) = words v := by rw [words, wordsW, if_pos (by decide), if_pos rfl]; rfl
theorem one_values {nm v : List UInt8} {k : UInt8} {x : Vl} (hk : kindsV nm = [k]) (h0 : v ≠ []) (hb : ∀ b ∈ v, blk b = false) (hv : valK k v = some x) : valuesV nm (32 :: v) = some [x] := by
  rw [valuesV, words_sp, words_one h0 hb, hk, if_neg (by simp), valsGo, hv]
  rfl
theorem hex_ge_all : ((List.range 256).all fun n => (hex2 n).all fun b => decide (48 ≤ b.toNat)) = true := by kernel_rfl
theorem hex2_ge (x : UInt8) : ∀ b ∈ hex2 x.toNat, 48 ≤ b.toNat := by
  intro b hb
  have h := List.all_eq_true.1 hex_ge_all x.toNat (List.mem_range.2 x.toNat_lt)
  simpa using List.all_eq_true.1 h b hb
theorem textM_ge (m : Mac6) : ∀ b ∈ textM m, 48 ≤ b.toNat := by
  intro b hb
  rw [textM] at hb
  simp only [List.mem_append, List.mem_cons] at hb
  have h58 : (58 : UInt8).toNat = 58 := rfl
  rcases hb with h | h | h | h | h | h | h | h | h | h | h
  · exact hex2_ge _ b h
  · subst h; omega
  · exact hex2_ge _ b h
  · subst h; omega
  · exact hex2_ge _ b h
  · subst h; omega
  · exact hex2_ge _ b h
  · subst h; omega
  · exact hex2_ge _ b h
  · subst h; omega
  · exact hex2_ge _ b h
theorem textM_ne (m : Mac6) : textM m ≠ [] := fun h => by have := textM_17 m; rw [h] at this; cases this
theorem no10 {b : UInt8} (h : 46 ≤ b.toNat) : b ≠ 10 := by rintro rfl; simp at h
theorem mac_values {nm : List UInt8} (m : Mac6) (hk : kindsV nm = [109]) : valuesV nm (32 :: textM m) = some [.m m] :=
  one_values hk (textM_ne m) (fun b hb => nb_of (by have := textM_ge m b hb; omega)) (by
    show valM _ = _
    rw [valM, parse_textM]
    rfl)
theorem valA_text (a : Ad4) : valK 97 (textA a) = some (.a a) := by
  show valA _ = _
  rw [valA, parse_text]
  rfl
theorem valM_text (m : Mac6) : valK 109 (textM m) = some (.m m) := by
  show valM _ = _
  rw [valM, parse_textM]
  rfl
theorem valN_dec (n : Nat) (h : n < 1000000000) : valK 110 (decB n) = some (.n n) := by
  show valN _ = _
  rw [valN, numC_dec n h]
  rfl
theorem ad_values {nm : List UInt8} (a : Ad4) (hk : kindsV nm = [97]) : valuesV nm (32 :: textA a) = some [.a a] :=
  one_values hk (textA_ne a) (fun b hb => nb_of (textA_digs a b hb).1) (valA_text a)
theorem dec_nbl (n : Nat) : ∀ b ∈ decB n, blk b = false := fun b hb => blk_digit (dec_digs n b hb).1
theorem num_values {nm : List UInt8} (n : Nat) (h : n < 1000000000) (hk : kindsV nm = [110]) : valuesV nm (32 :: decB n) = some [.n n] :=
  one_values hk (dec_ne n) (dec_nbl n) (valN_dec n h)
theorem fx_values (f : Fx) : valuesV nFixed (32 :: (textM f.m ++ 32 :: textA f.a)) = some [.m f.m, .a f.a] := by
  have hw : words (32 :: (textM f.m ++ 32 :: textA f.a)) = [textM f.m, textA f.a] := by
    rw [words_sp, words, wordsW_app _ _ _ (by simpa using textM_ne f.m) (fun b hb => nb_of (by have := textM_ge f.m b hb; omega)), List.nil_append]
    have h := words_one (textA_ne f.a) (fun b hb => nb_of (textA_digs f.a b hb).1)
    rw [words] at h
    rw [h]
  rw [valuesV, hw, show kindsV nFixed = [109, 97] from rfl, if_neg (by simp), valsGo, valM_text, valsGo, valA_text]
  rfl
theorem prT_nb (p : Int) : ∀ b ∈ prT p, blk b = false := by
  unfold prT
  split <;> decide
theorem prT_ne (p : Int) : prT p ≠ [] := by
  unfold prT
  split <;> decide
theorem valP_text {p : Int} (h : protB p = true) : ∃ n : Nat, p = n ∧ valK 112 (prT p) = some (.n n) := by
  have h1 : p = 17 ∨ p = 6 := by
    simp only [protB, Bool.not_eq_true', Bool.and_eq_false_iff, bne_eq_false_iff_eq] at h
    exact h
  rcases h1 with rfl | rfl
  · exact ⟨17, rfl, by kernel_rfl⟩
  · exact ⟨6, rfl, by kernel_rfl⟩
theorem op_values (o : Opn) (h : protB o.pr = true) (h1 : 0 ≤ o.po) (h2 : o.po < 1000000000) (h3 : 0 ≤ o.tp) (h4 : o.tp < 1000000000) :
    ∃ n : Nat, o.pr = n ∧ valuesV nOpen (32 :: (prT o.pr ++ 32 :: (decB o.po.toNat ++ 32 :: (textA o.a ++ 32 :: decB o.tp.toNat)))) = some [.n n, .n o.po.toNat, .a o.a, .n o.tp.toNat] := by
  obtain ⟨n, hn, hv⟩ := valP_text h
  have hw : words (32 :: (prT o.pr ++ 32 :: (decB o.po.toNat ++ 32 :: (textA o.a ++ 32 :: decB o.tp.toNat)))) = [prT o.pr, decB o.po.toNat, textA o.a, decB o.tp.toNat] := by
    rw [words_sp, words, wordsW_app _ _ _ (by simpa using prT_ne o.pr) (prT_nb o.pr), List.nil_append, wordsW_app _ _ _ (by simpa using dec_ne _) (dec_nbl _), List.nil_append,
      wordsW_app _ _ _ (by simpa using textA_ne o.a) (fun b hb => nb_of (textA_digs o.a b hb).1), List.nil_append]
    have h := words_one (dec_ne o.tp.toNat) (dec_nbl _)
    rw [words] at h
    rw [h]
  refine ⟨n, hn, ?_⟩
  rw [valuesV, hw, show kindsV nOpen = [112, 110, 97, 110] from rfl, if_neg (by simp), valsGo, hv, valsGo, valN_dec _ (by omega), valsGo, valA_text, valsGo, valN_dec _ (by omega)]
  rfl
theorem g_names : gName nLan ∧ gName nLanmac ∧ gName nWanmac ∧ gName nFirst ∧ gName nLast ∧ gName nTime ∧ gName nDns ∧ gName nUdp ∧ gName nTcp ∧ gName nIcmp ∧ gName nLow ∧ gName nFixed ∧ gName nOpen := by
  refine ⟨?_, ?_, ?_, ?_, ?_, ?_, ?_, ?_, ?_, ?_, ?_, ?_, ?_⟩ <;> exact ⟨by decide, by decide, by decide, by kernel_rfl⟩
theorem goG_ok {C C' : Cg} {S S' : List (List UInt8)} {t : List UInt8} {r : List (List UInt8)} {i : Nat} (h : lineG C S t = (0, C', S')) : goG C S i (t :: r) = goG C' S' (i + 1) r := by
  rw [goG, h, if_pos rfl]
theorem go_fx (r : List (List UInt8)) : ∀ (lf : List Fx) (C : Cg) (S : List (List UInt8)) (i : Nat), ∃ S' j, goG C S i (lf.map fxT ++ r) = goG { C with lf := C.lf ++ lf } S' j r ∧ ∀ x ∈ S, x ∈ S'
  | [], C, S, i => ⟨S, i, by simp, fun _ h => h⟩
  | f :: l, C, S, i => by
    obtain ⟨S', j, h1, h2⟩ := go_fx r l { C with lf := C.lf ++ [f] } (nFixed :: S) (i + 1)
    refine ⟨S', j, ?_, fun x hx => h2 x (by simp [hx])⟩
    rw [List.map_cons, List.cons_append, fxT, goG_ok (C' := { C with lf := C.lf ++ [f] }) (S' := nFixed :: S) (ln_line g_names.2.2.2.2.2.2.2.2.2.2.2.1 C S (fx_values f) (fun h => h.2.1 rfl)), h1]
    simp
theorem go_op (r : List (List UInt8)) : ∀ (lo : List Opn) (_ : ∀ o ∈ lo, protB o.pr = true ∧ 0 ≤ o.po ∧ o.po < 1000000000 ∧ 0 ≤ o.tp ∧ o.tp < 1000000000) (C : Cg) (S : List (List UInt8)) (i : Nat),
    ∃ S' j, goG C S i (lo.map opT ++ r) = goG { C with lo := C.lo ++ lo } S' j r ∧ ∀ x ∈ S, x ∈ S'
  | [], _, C, S, i => ⟨S, i, by simp, fun _ h => h⟩
  | o :: l, ho, C, S, i => by
    obtain ⟨S', j, h1, h2⟩ := go_op r l (fun x hx => ho x (by simp [hx])) { C with lo := C.lo ++ [o] } (nOpen :: S) (i + 1)
    refine ⟨S', j, ?_, fun x hx => h2 x (by simp [hx])⟩
    obtain ⟨p1, p2, p3, p4, p5⟩ := ho o (by simp)
    obtain ⟨n, hn, hv⟩ := op_values o p1 p2 p3 p4 p5
    have e : setG C nOpen [.n n, .n o.po.toNat, .a o.a, .n o.tp.toNat] = { C with lo := C.lo ++ [o] } := by
      show ({ C with lo := C.lo ++ [(⟨(n : Int), (o.po.toNat : Int), o.a, (o.tp.toNat : Int)⟩ : Opn)] } : Cg) = _
      rw [Int.toNat_of_nonneg p2, Int.toNat_of_nonneg p4, ← hn]
    rw [List.map_cons, List.cons_append, opT, goG_ok (C' := { C with lo := C.lo ++ [o] }) (S' := nOpen :: S) (by
      have h := ln_line g_names.2.2.2.2.2.2.2.2.2.2.2.2 C S hv (fun h => h.2.2 rfl)
      rw [e] at h
      exact h), h1]
    simp
theorem go_head (c : Cf) (hb : 0 ≤ c.lanB ∧ c.lanB ≤ 1000) (hl : c.lanA = firstA c.own c.lanB) (t : 0 ≤ c.time ∧ c.time ≤ 86400) (u : 0 ≤ c.udp ∧ c.udp ≤ 86400) (tc : 0 ≤ c.tcp ∧ c.tcp ≤ 86400) (ic : 0 ≤ c.icmp ∧ c.icmp ≤ 86400) (lw : 0 ≤ c.low ∧ c.low ≤ 86400)
    (r : List (List UInt8)) : goG usG [] 0 (headL c ++ r) = goG ⟨c, [], []⟩ [nLow, nIcmp, nTcp, nUdp, nDns, nTime, nLast, nFirst, nWanmac, nLanmac, nLan] 11 r := by
  obtain ⟨g1, g2, g3, g4, g5, g6, g7, g8, g9, g10, g11, _, _⟩ := g_names
  have hlan : valuesV nLan (32 :: textN c.own c.lanB.toNat) = some [.o c.own c.lanB.toNat] := lan_values c.own c.lanB.toNat (by omega)
  have e1 : ((c.lanB.toNat : Nat) : Int) = c.lanB := Int.toNat_of_nonneg hb.1
  have e2 : ((c.time.toNat : Nat) : Int) = c.time := Int.toNat_of_nonneg t.1
  have e3 : ((c.udp.toNat : Nat) : Int) = c.udp := Int.toNat_of_nonneg u.1
  have e4 : ((c.tcp.toNat : Nat) : Int) = c.tcp := Int.toNat_of_nonneg tc.1
  have e5 : ((c.icmp.toNat : Nat) : Int) = c.icmp := Int.toNat_of_nonneg ic.1
  have e6 : ((c.low.toNat : Nat) : Int) = c.low := Int.toNat_of_nonneg lw.1
  rw [headL]
  simp only [List.cons_append, List.nil_append]
  rw [goG_ok (ln_line g1 _ _ hlan (by simp)), goG_ok (ln_line g2 _ _ (mac_values c.lm rfl) (by simp)), goG_ok (ln_line g3 _ _ (mac_values c.wm rfl) (by simp)), goG_ok (ln_line g4 _ _ (ad_values c.fst rfl) (by simp)),
    goG_ok (ln_line g5 _ _ (ad_values c.lst rfl) (by simp)), goG_ok (ln_line g6 _ _ (num_values c.time.toNat (by omega) rfl) (by simp)), goG_ok (ln_line g7 _ _ (ad_values c.dns rfl) (by simp)),
    goG_ok (ln_line g8 _ _ (num_values c.udp.toNat (by omega) rfl) (by simp)), goG_ok (ln_line g9 _ _ (num_values c.tcp.toNat (by omega) rfl) (by simp)), goG_ok (ln_line g10 _ _ (num_values c.icmp.toNat (by omega) rfl) (by simp)),
    goG_ok (ln_line g11 _ _ (num_values c.low.toNat (by omega) rfl) (by simp))]
  congr 1
  show (⟨⟨c.own, firstA c.own ((c.lanB.toNat : Nat) : Int), ((c.lanB.toNat : Nat) : Int), c.lm, c.wm, c.fst, c.lst, ((c.time.toNat : Nat) : Int), c.dns, ((c.udp.toNat : Nat) : Int), ((c.tcp.toNat : Nat) : Int), ((c.icmp.toNat : Nat) : Int), ((c.low.toNat : Nat) : Int)⟩, [], []⟩ : Cg) = _
  rw [e1, e2, e3, e4, e5, e6, ← hl]
theorem ln_len (nm v : List UInt8) : (ln nm v).length = nm.length + 3 + v.length := by simp [ln]; omega
theorem linesG_all (C : Cg) (OK : OkG C.c C.lf C.lo) : ∀ x ∈ linesG C, (∀ b ∈ x, b ≠ 10) ∧ x.length ≤ 149 := by
  have hpre : ∀ nm : List UInt8, gName nm → nm.length ≤ 10 → ∀ v : List UInt8, (∀ b ∈ v, b ≠ 10) → v.length ≤ 136 → (∀ b ∈ ln nm v, b ≠ 10) ∧ (ln nm v).length ≤ 149 := by
    intro nm hg hn v hv hl
    refine ⟨fun b hb => ?_, by rw [ln_len]; omega⟩
    rw [ln] at hb
    rcases List.mem_append.1 hb with hb | hb
    · rcases List.mem_append.1 hb with hb | hb
      · exact (hg.1 b hb).2.2
      · exact (show ∀ b ∈ ([32, 61, 32] : List UInt8), b ≠ 10 by decide) b hb
    · exact hv b hb
  have hA : ∀ a : Ad4, (∀ b ∈ textA a, b ≠ 10) ∧ (textA a).length ≤ 90 := fun a => ⟨fun b hb => no10 (textA_digs a b hb).1, textA_le a⟩
  have hM : ∀ m : Mac6, (∀ b ∈ textM m, b ≠ 10) ∧ (textM m).length = 17 := fun m => ⟨fun b hb => no10 (by have := textM_ge m b hb; omega), textM_17 m⟩
  have hD : ∀ n : Nat, n < 1000000000 → (∀ b ∈ decB n, b ≠ 10) ∧ (decB n).length ≤ 9 := fun n h => ⟨fun b hb => no10 (by have := dec_digs n b hb; omega), decB_len9 h⟩
  have h32 : ∀ x y : List UInt8, (∀ b ∈ x, b ≠ 10) → (∀ b ∈ y, b ≠ 10) → ∀ b ∈ x ++ 32 :: y, b ≠ 10 := by
    intro x y hx hy b hb
    rcases List.mem_append.1 hb with hb | hb
    · exact hx b hb
    · rcases List.mem_cons.1 hb with rfl | hb
      · decide
      · exact hy b hb
  obtain ⟨g1, g2, g3, g4, g5, g6, g7, g8, g9, g10, g11, g12, g13⟩ := g_names
  have o0 := OK.b0; have o1 := OK.b1; have ot := OK.t; have ou := OK.u; have otc := OK.tc; have oic := OK.ic; have olw := OK.lw
  intro x hx
  rcases List.mem_append.1 hx with hx | hx
  · rcases List.mem_append.1 hx with hx | hx
    · rw [headL] at hx
      simp only [List.mem_cons, List.not_mem_nil, or_false] at hx
      rcases hx with rfl | rfl | rfl | rfl | rfl | rfl | rfl | rfl | rfl | rfl | rfl
      · refine hpre _ g1 (by decide) _ (fun b hb => no10 (netT_digs C.c.own _ b hb).1) ?_
        have h1 := (hA C.c.own).2
        have h2 := (hD C.c.lanB.toNat (by omega)).2
        rw [textN, List.length_append, List.length_cons]
        omega
      · exact hpre _ g2 (by decide) _ (hM _).1 (by rw [(hM _).2]; decide)
      · exact hpre _ g3 (by decide) _ (hM _).1 (by rw [(hM _).2]; decide)
      · exact hpre _ g4 (by decide) _ (hA _).1 (by have := (hA C.c.fst).2; omega)
      · exact hpre _ g5 (by decide) _ (hA _).1 (by have := (hA C.c.lst).2; omega)
      · exact hpre _ g6 (by decide) _ (hD _ (by omega)).1 (by have := (hD C.c.time.toNat (by omega)).2; omega)
      · exact hpre _ g7 (by decide) _ (hA _).1 (by have := (hA C.c.dns).2; omega)
      · exact hpre _ g8 (by decide) _ (hD _ (by omega)).1 (by have := (hD C.c.udp.toNat (by omega)).2; omega)
      · exact hpre _ g9 (by decide) _ (hD _ (by omega)).1 (by have := (hD C.c.tcp.toNat (by omega)).2; omega)
      · exact hpre _ g10 (by decide) _ (hD _ (by omega)).1 (by have := (hD C.c.icmp.toNat (by omega)).2; omega)
      · exact hpre _ g11 (by decide) _ (hD _ (by omega)).1 (by have := (hD C.c.low.toNat (by omega)).2; omega)
    · obtain ⟨f, _, rfl⟩ := List.mem_map.1 hx
      refine hpre _ g12 (by decide) _ (h32 _ _ (hM _).1 (hA _).1) ?_
      have h1 := (hM f.m).2
      have h2 := (hA f.a).2
      rw [List.length_append, List.length_cons]
      omega
  · obtain ⟨o, ho, rfl⟩ := List.mem_map.1 hx
    obtain ⟨p1, p2, p3, p4, p5, _⟩ := OK.op o ho
    have hp : (∀ b ∈ prT o.pr, b ≠ 10) ∧ (prT o.pr).length = 3 := by unfold prT; split <;> exact ⟨by decide, rfl⟩
    refine hpre _ g13 (by decide) _ (h32 _ _ hp.1 (h32 _ _ (hD _ (by omega)).1 (h32 _ _ (hA _).1 (hD _ (by omega)).1))) ?_
    have h2 := (hA o.a).2
    have h3 := (hD o.po.toNat (by omega)).2
    have h4 := (hD o.tp.toNat (by omega)).2
    simp only [List.length_append, List.length_cons]
    omega
/-- What is written is read back the same. -/
theorem parse_textG (C : Cg) (h : chkG C = 0) : parseG (textG C) = (C, 0, 0) := by
  obtain ⟨c, lf, lo⟩ := C
  have OK : OkG c lf lo := ok_of h
  have hall := linesG_all ⟨c, lf, lo⟩ OK
  have hln : (linesG ⟨c, lf, lo⟩).length ≤ 75 := by
    have h1 := OK.nf; have h2 := OK.no
    simp only [linesG, headL, List.length_append, List.length_map, List.length_cons, List.length_nil]
    omega
  have hlen : (textG ⟨c, lf, lo⟩).length ≤ 16384 := by
    have := catL_len 149 (linesG ⟨c, lf, lo⟩) (fun x hx => (hall x hx).2)
    have e : textG ⟨c, lf, lo⟩ = catL (linesG ⟨c, lf, lo⟩) := rfl
    rw [e]
    omega
  have hlines : linesV (textG ⟨c, lf, lo⟩) = linesG ⟨c, lf, lo⟩ := catL_lines _ (fun x hx => (hall x hx).1)
  have hnet : c.lanA = firstA c.own c.lanB := by
    have h1 : checkG ⟨c, lf, lo⟩ = true := by
      rw [chkG] at h
      split at h
      · assumption
      · cases h
    simp only [checkG, Bool.and_eq_true] at h1
    have h2 := h1.1.1.1.1
    rw [netB] at h2
    simp only [Bool.and_eq_true] at h2
    exact (adeq_iff _ _).1 h2.1.1.1.2
  rw [parseG, if_neg (by rw [hlines]; omega), hlines]
  have e : linesG ⟨c, lf, lo⟩ = headL c ++ (lf.map fxT ++ (lo.map opT ++ [])) := by simp [linesG]
  rw [e, go_head c (by have := OK.b0; have := OK.b1; omega) hnet OK.t OK.u OK.tc OK.ic (by have := OK.lw; omega)]
  obtain ⟨S1, j1, h1, m1⟩ := go_fx (lo.map opT ++ []) lf ⟨c, [], []⟩ [nLow, nIcmp, nTcp, nUdp, nDns, nTime, nLast, nFirst, nWanmac, nLanmac, nLan] 11
  rw [h1]
  obtain ⟨S2, j2, h2, m2⟩ := go_op [] lo (fun o ho => by have h5 := OK.op o ho; have h6 := OK.lw; exact ⟨h5.1, by omega, by omega, by omega, by omega⟩) { (⟨c, [], []⟩ : Cg) with lf := ([] : List Fx) ++ lf } S1 j1
  rw [h2, goG]
  have hC : ({ ({ (⟨c, [], []⟩ : Cg) with lf := ([] : List Fx) ++ lf }) with lo := ([] : List Opn) ++ lo } : Cg) = ⟨c, lf, lo⟩ := by simp
  rw [resG, if_pos rfl]
  simp only
  have hE : endsG ⟨c, lf, lo⟩ S2 = ⟨c, lf, lo⟩ := by
    rw [endsG]
    simp only
    rw [endsV_yes (m2 _ (m1 _ (by simp))), if_pos (m2 _ (m1 _ (by simp))), if_pos (m2 _ (m1 _ (by simp)))]
  simp only [List.nil_append]
  rw [hE, h, if_pos rfl]
theorem parse_chk {t : List UInt8} {C : Cg} {l : Int} (h : parseG t = (C, l, 0)) : chkG C = 0 ∧ l = 0 := by
  rw [parseG] at h
  split at h
  · injection h with _ h; injection h with _ h; cases h
  · obtain ⟨r, hr⟩ : ∃ r, goG usG [] 0 (linesV t) = r := ⟨_, rfl⟩
    rw [hr, resG] at h
    split at h
    · injection h with h1 h2
      injection h2 with h2 h3
      rw [h3, if_pos rfl] at h1
      rw [← h1]
      exact ⟨h3, h2.symm⟩
    · rename_i hn
      injection h with _ h
      injection h with _ h
      exact absurd h hn
end Go.Proofs.YtnmdiageigbphaaGreatDoor
