/-
  conf: a line read, any.
-/
import Derived.Test.YtnmdiageigbphaaGreatDoorKq6
import Derived.Test.YtnmdiageigbphaaGreatDoorKp11
namespace Go.Proofs.YtnmdiageigbphaaGreatDoor
open Go.RowKit
open Go.Maps (string_keyed)

/-- A configuration whole. -/
structure Cg where
  c : Cf
  lf : List Fx
  lo : List Opn
def setG (C : Cg) (nm : List UInt8) : List Vl → Cg
  | [.m m, .a x] => { C with lf := C.lf ++ [⟨m, x⟩] }
  | [.n pr, .n po, .a x, .n tp] => { C with lo := C.lo ++ [⟨pr, po, x, tp⟩] }
  | [v] => { C with c := setC C.c nm v }
  | _ => C
theorem vals_cons {k : UInt8} {ks : List UInt8} {ws : List (List UInt8)} {vs : List Vl} (h : valsGo (k :: ks) ws = some vs) : ∃ x xs v us, ws = x :: xs ∧ valK k x = some v ∧ valsGo ks xs = some us ∧ vs = v :: us := by
  match ws, h with
  | x :: xs, h =>
    rw [valsGo] at h
    rcases hv : valK k x with _ | v
    · rw [hv] at h; cases h
    · rw [hv] at h
      rcases hu : valsGo ks xs with _ | us
      · rw [hu] at h; cases h
      · rw [hu] at h
        exact ⟨x, xs, v, us, rfl, hv, hu, by simpa using h.symm⟩
theorem vals_nil {ws : List (List UInt8)} {vs : List Vl} (h : valsGo [] ws = some vs) : vs = [] := by simpa [valsGo] using h.symm
theorem valM_is {x : List UInt8} {v : Vl} (h : valK 109 x = some v) : ∃ m, v = .m m := by
  have h : valM x = some v := h
  unfold valM at h
  split at h
  · injection h with h; exact ⟨_, h.symm⟩
  · cases h
theorem valA_is {x : List UInt8} {v : Vl} (h : valK 97 x = some v) : ∃ m, v = .a m := by
  have h : valA x = some v := h
  unfold valA at h
  split at h
  · injection h with h; exact ⟨_, h.symm⟩
  · cases h
theorem valN_is {x : List UInt8} {v : Vl} (h : valK 110 x = some v) : ∃ m, v = .n m := by
  have h : valN x = some v := h
  unfold valN at h
  rcases hn : numC x with _ | k
  · rw [hn] at h; cases h
  · rw [hn] at h
    injection h with h; exact ⟨_, h.symm⟩
theorem valP_is {x : List UInt8} {v : Vl} (h : valK 112 x = some v) : ∃ m, v = .n m := by
  have h : valP x = some v := h
  unfold valP at h
  split at h
  · injection h with h; exact ⟨_, h.symm⟩
  · split at h
    · injection h with h; exact ⟨_, h.symm⟩
    · cases h
/-- What a line's values are, by its name. -/
theorem values_goodL {nm t : List UInt8} {vs : List Vl} (h : valuesV nm t = some vs) :
    (nm = nFixed ∧ ∃ m x, vs = [.m m, .a x]) ∨ (nm = nOpen ∧ ∃ pr po x tp, vs = [.n pr, .n po, .a x, .n tp]) ∨ (nm ≠ nFixed ∧ nm ≠ nOpen ∧ ∃ v, vs = [v] ∧ Good nm v) := by
  by_cases h1 : nm = nFixed
  · subst h1
    refine .inl ⟨rfl, ?_⟩
    unfold valuesV at h
    split at h
    · cases h
    · rw [show kindsV nFixed = [109, 97] from rfl] at h
      obtain ⟨_, _, v, us, _, h1, h2, rfl⟩ := vals_cons h
      obtain ⟨_, _, v2, us2, _, h3, h4, rfl⟩ := vals_cons h2
      obtain rfl := vals_nil h4
      obtain ⟨m, rfl⟩ := valM_is h1
      obtain ⟨x, rfl⟩ := valA_is h3
      exact ⟨m, x, rfl⟩
  by_cases h2 : nm = nOpen
  · subst h2
    refine .inr (.inl ⟨rfl, ?_⟩)
    unfold valuesV at h
    split at h
    · cases h
    · rw [show kindsV nOpen = [112, 110, 97, 110] from rfl] at h
      obtain ⟨_, _, v, us, _, h1, h2, rfl⟩ := vals_cons h
      obtain ⟨_, _, v2, us2, _, h3, h4, rfl⟩ := vals_cons h2
      obtain ⟨_, _, v3, us3, _, h5, h6, rfl⟩ := vals_cons h4
      obtain ⟨_, _, v4, us4, _, h7, h8, rfl⟩ := vals_cons h6
      obtain rfl := vals_nil h8
      obtain ⟨pr, rfl⟩ := valP_is h1
      obtain ⟨po, rfl⟩ := valN_is h3
      obtain ⟨x, rfl⟩ := valA_is h5
      obtain ⟨tp, rfl⟩ := valN_is h7
      exact ⟨pr, po, x, tp, rfl⟩
  · obtain ⟨v, rfl, hg⟩ := values_good h h1 h2
    exact .inr (.inr ⟨h1, h2, v, rfl, hg⟩)
def lineGW (C : Cg) (S : List (List UInt8)) (nm z : List UInt8) (f : Bool) : Int × Cg × List (List UInt8) :=
  if f = false then (9, C, S)
  else match valuesV nm z with
    | some vs => if nm ∈ S ∧ nm ≠ nFixed ∧ nm ≠ nOpen then (8, C, S) else (0, setG C nm vs, nm :: S)
    | none => (9, C, S)
def lineG (C : Cg) (S : List (List UInt8)) (t : List UInt8) : Int × Cg × List (List UInt8) :=
  if quiet t = true then (0, C, S) else lineGW C S (nameOf t) (cutE 61 t).2.1 (cutE 61 t).2.2
theorem lineGW_none {C : Cg} {S : List (List UInt8)} {nm z : List UInt8} {f : Bool} (h : valuesV nm z = none) : lineGW C S nm z f = (9, C, S) := by
  rw [lineGW, h]
  split <;> rfl
theorem lineGW_some {C : Cg} {S : List (List UInt8)} {nm z : List UInt8} {vs : List Vl} (h : valuesV nm z = some vs) : lineGW C S nm z true = if nm ∈ S ∧ nm ≠ nFixed ∧ nm ≠ nOpen then (8, C, S) else (0, setG C nm vs, nm :: S) := by
  rw [lineGW, h]
  rfl
/-- The reader's memory. -/
def RG (w : World) (H g sb N : Nat) (C : Cg) (S : List (List UInt8)) : Prop :=
  ∃ A n k A2 n2 k2, RB w g C.c (.slice A n k) (.slice A2 n2 k2) (.map (some sb)) ∧ FO w H A n k C.lf ∧ PO w H A2 n2 k2 C.lo ∧ MB w sb N S ∧ C.lf.length ≤ N ∧ C.lo.length ≤ N
def LineGP (w : World) (H g sb N : Nat) (r : Int × Cg × List (List UInt8)) (e : Ending) (w' : World) : Prop :=
  ∃ N', N' ≤ N + 1 ∧ e = .returned (.int .i64 r.1) ∧ RG w' H g sb N' r.2.1 r.2.2 ∧ Ext (fun k => k = g ∨ k = sb ∨ H ≤ k) w w'
theorem RG.below {w w' : World} {H g sb N : Nat} {C : Cg} {S : List (List UInt8)} (h : RG w H g sb N C S) (hb : Below w.heap.size w w') : RG w' H g sb N C S := by
  obtain ⟨A, n, k, A2, n2, k2, h1, h2, h3, h4, h5⟩ := h
  exact ⟨A, n, k, A2, n2, k2, below_at hb h1 (heap_lt h1), h2.below hb, h3.below hb, h4.below hb, h5⟩
theorem quiet_like {t : List UInt8} {m : List (List UInt8)} (h : likeL (words t) m) : quiet t = (m.isEmpty || List.isPrefixOf [35] (m.getD 0 [])) := by
  rw [quiet, (h.2 0).pre]
  have := h.1
  rcases hw : words t with _ | ⟨x, xs⟩ <;> rcases m with _ | ⟨y, ys⟩ <;> rw [hw] at this <;> simp at this ⊢
theorem MB.obj {w : World} {b N : Nat} {S : List (List UInt8)} (h : MB w b N S) : ∃ es ck, w.heap[b]? = some (.map es ck) := by
  obtain ⟨_, ⟨es, ck, h, _⟩, _⟩ := h
  exact ⟨es, ck, h⟩
theorem MB.ext {M : Nat → Prop} {w w' : World} {b N : Nat} {S : List (List UInt8)} (h : MB w b N S) (hx : Ext M w w') (h1 : ¬ M b) : MB w' b N S := by
  obtain ⟨D, ⟨es, ck, hb, hr⟩, hk⟩ := h
  exact ⟨D, ⟨es, ck, (hx.block b (heap_lt hb) h1).trans hb, hr⟩, hk⟩
theorem Ext.more {M M' : Nat → Prop} {w w' : World} (h : Ext M w w') (hM : ∀ k, M k → M' k) : Ext M' w w' := ⟨h.os, h.tape, h.output, h.size, fun k hk hn => h.block k hk fun e => hn (hM k e)⟩
set_option maxRecDepth 100000 in
set_option maxHeartbeats 4000000 in
theorem line_all (w : World) (hm : mlIs w) (H g sb N : Nat) (C : Cg) (S : List (List UInt8)) (R : RG w H g sb N C S) (hN : N ≤ 500) (hne : sb ≠ g) (hgH : g < H) (hsH : sb < H) (hH : H ≤ w.heap.size)
    (t : List UInt8) (hl : t.length ≤ 20000) :
    Calls Tryz.prog 19 #[.pointer (some ⟨g, 0, none⟩), .string (str t)] w (LineGP w H g sb N (lineG C S t)) := by
  have hmp := hm.pos
  have hwe := words_all w t (by omega)
  go_enter Tryz.func19, Tryz.ntmps19
  go_wp2_with fail
  refine hwe.mono ?_
  rintro e w1 ⟨ws, hlm, _, A, n, cc, rfl, ho, b1⟩
  have R1 := R.below b1
  have m1 := hm.below b1 hmp
  have hH1 : H ≤ w1.heap.size := by have := b1.size; omega
  have HN0 := Lib.hid ho.1
  have HW := Lib.hid (quiet_like hlm)
  clear hwe hm R hlm
  rcases Nat.eq_zero_or_pos n with hn0 | hn0
  · have HR := Lib.hid (show lineG C S t = (0, C, S) by
      have : ws = [] := List.length_eq_zero_iff.1 (by have := HN0.out; omega)
      rw [lineG, if_pos (by rw [HW.out, this]; rfl)])
    subst hn0
    go_wp2_with fail
    go_ret
    exact ⟨N, by omega, by rw [HR.out]; rfl, by rw [HR.out]; exact R1, Ext.below_all _ b1⟩
  obtain ⟨b, o, rfl, hbl, hc0⟩ := ho.at_ (getD_some [] (show 0 < ws.length by have := HN0.out; omega))
  obtain ⟨y, hy⟩ : ∃ y, ws.getD 0 [] = y := ⟨_, rfl⟩
  rw [hy, Nat.add_zero] at hc0
  have HY := Lib.hid (show quiet t = List.isPrefixOf [35] y by
    rw [HW.out, hy]
    have := HN0.out
    rcases ws with _ | ⟨_, _⟩
    · simp at this; omega
    · rfl)
  have x0 : ((n : Int) == 0) = false := by rw [beq_eq_false_iff_ne]; omega
  have hni : (0 : Int) < (n : Int) := by omega
  clear ho hy HN0 hn0
  go_wp2_with fail
  refine (hasPrefix_any w1 y [35]).mono ?_
  rintro e w2 ⟨rfl, rfl⟩
  rcases hpf : List.isPrefixOf [35] y with _ | _
  case true =>
    have HR := Lib.hid (show lineG C S t = (0, C, S) by rw [lineG, if_pos (by rw [HY.out, hpf])])
    clear hpf
    go_wp2_with fail
    go_ret
    exact ⟨N, by omega, by rw [HR.out]; rfl, by rw [HR.out]; exact R1, Ext.below_all _ b1⟩
  have HQ := Lib.hid (show ¬ quiet t = true by rw [HY.out, hpf]; decide)
  clear hpf HY HW hc0 hni x0
  have hcl := cutE_len 61 t
  have hcut := cut_any w2 m1 t 61 (by omega)
  have hnl : (nameOf t).length ≤ 20000 := by
    have := trimS_len (cutE 61 t).1 [32, 9]
    unfold nameOf
    omega
  have htr := fun w => trim_any w (cutE 61 t).1 (by omega)
  have hLV : lineG C S t = lineGW C S (nameOf t) (cutE 61 t).2.1 (cutE 61 t).2.2 := by rw [lineG, if_neg HQ.out]
  rw [show Lib.trimS (cutE 61 t).1 [32, 9] = nameOf t from rfl] at htr
  obtain ⟨⟨x, z, f⟩, hcv⟩ : ∃ v, cutE 61 t = v := ⟨_, rfl⟩
  rw [hcv] at hcl hcut htr hLV
  obtain ⟨nm, hnm⟩ : ∃ nm, nameOf t = nm := ⟨_, rfl⟩
  rw [hnm] at hnl htr hLV
  have HLV := Lib.hid hLV
  clear hcv hnm hLV
  simp only at hcl hcut htr
  go_wp2_with fail
  refine hcut.mono ?_
  rintro e w3 ⟨rfl, q3⟩
  have R3 := R1.below q3
  have m3 := m1.below q3 m1.pos
  have b3 := b1.trans (q3.mono b1.size)
  clear hcut R1 m1 b1 q3
  go_wp2_with fail
  refine (htr w3).mono ?_
  rintro e w4 ⟨rfl, q4⟩
  have R4 := R3.below q4
  have m4 := m3.below q4 m3.pos
  have b4 := b3.trans (q4.mono b3.size)
  clear htr R3 m3 b3 q4
  go_wp2_with fail
  refine (values_all w4 m4 nm z (by omega)).mono ?_
  rintro e w5 ⟨hvals, q5⟩
  have R5 := R4.below q5
  have b5 := b4.trans (q5.mono b4.size)
  have hH5 : H ≤ w5.heap.size := by have := b5.size; omega
  clear R4 m4 q5
  rcases hv : valuesV nm z with _ | vs
  · rw [hv] at hvals
    obtain rfl := hvals
    have HR := Lib.hid (show lineG C S t = (9, C, S) by rw [HLV.out]; exact lineGW_none hv)
    clear hv HLV
    rcases f with _ | _
    all_goals
      go_wp2_with fail
      go_ret
      exact ⟨N, by omega, by rw [HR.out]; rfl, by rw [HR.out]; exact R5, Ext.below_all _ b5⟩
  have hgood := values_goodL hv
  rw [hv] at hvals
  obtain ⟨A5, n5, c5, rfl, hio⟩ := hvals
  rcases f with _ | _
  · have HR := Lib.hid (show lineG C S t = (9, C, S) by rw [HLV.out]; rfl)
    clear hv HLV hgood
    go_wp2_with fail
    go_ret
    exact ⟨N, by omega, by rw [HR.out]; rfl, by rw [HR.out]; exact R5, Ext.below_all _ b5⟩
  have HLV2 := Lib.hid (show lineG C S t = if nm ∈ S ∧ nm ≠ nFixed ∧ nm ≠ nOpen then (8, C, S) else (0, setG C nm vs, nm :: S) by
    rw [HLV.out]
    exact lineGW_some hv)
  clear hv HLV
  have HR5 := Lib.hid R5
  obtain ⟨AF, nF, kF, AO, nO, kO, P5, F5, O5, M5, hlf, hlo⟩ := R5
  have hz4 := heap_lt P5
  have hlook := M5.look nm (by omega)
  have hsc := (cells_of P5).1 40
  obtain ⟨es, ck, hob⟩ := M5.obj
  have F5s := F5.ne_of hob (by intro cs fr h; cases h)
  have O5s := O5.ne_of hob (by intro cs fr h; cases h)
  obtain ⟨D, hD1, hD2⟩ := M5
  have HD := Lib.hid hD2
  have HN1 := Lib.hid (⟨hlf, hlo⟩ : _ ∧ _)
  have HF5 := Lib.hid (⟨F5s, O5s⟩ : _ ∧ _)
  clear hob hD2 hlf hlo F5s O5s
  rcases hgood with ⟨rfl, m, x, rfl⟩ | ⟨rfl, pr, po, x, tp, rfl⟩ | ⟨h1, h2, v, rfl, hgood⟩
  · have HR := Lib.hid (show lineG C S t = (0, { C with lf := C.lf ++ [⟨m, x⟩] }, nFixed :: S) by rw [HLV2.out, if_neg (by rintro ⟨_, h, _⟩; exact h rfl)]; rfl)
    have y1 : ((str nFixed).toList == [102, 105, 120, 101, 100]) = true := by rw [toList_str]; rfl
    obtain ⟨bb, hbb⟩ : ∃ b, decide (nFixed ∈ S) = b := ⟨_, rfl⟩
    rw [hbb] at hlook
    clear hbb HLV2
    rcases bb with _ | _
    all_goals
      go_wp2_with (at_mapUpdate; refine wpList_mapUpdate_own _ rfl _ _ _ 58 rfl 9 4 (string_keyed Tryz.underlying9) Tryz.underlying58 (plainElem Tryz.prog 4) sb N D rfl hD1 (by unfold maxLen; omega) _ _ _ rfl rfl (WideMaps.keyOf_string_mk (s := str nFixed) Tryz.underlying9 (by rw [str_size]; unfold maxLen; decide)) _ [] (plainElem_bool Tryz.underlying4 true) ?_; intro w6 hD6 g6)
      have P6 := grown_at g6 P5 (Ne.symm hne)
      have M6 := MB.put hD1 HD.out nFixed hD6
      have F6 := F5.kept g6 HF5.out.1
      have O6 := O5.kept g6 HF5.out.2
      have hH6 : H ≤ w6.heap.size := by have := g6.size; omega
      have hio6 : IO w6 w4.heap.size A5 n5 c5 [(Vl.m m).val, (Vl.a x).val] := ⟨hio.1, hio.2.kept g6 (.inr (fun e => by have := (hio.2.lt sb e).1; have := b4.size; omega))⟩
      refine (set_fx w6 g H w4.heap.size C.c _ _ AF nF kF C.lf F6 P6 hgH hH6 (by have := HN1.out.1; omega) m x A5 n5 c5 hio6).mono ?_
      rintro e w7 ⟨A7, n7, k7, rfl, P7, F7, g7⟩
      have M7 := M6.ext g7 (by rintro (e | e); exact hne e; have := (F6.lt _ e).1; omega)
      have O7 : PO w7 H AO nO kO C.lo := O6.ext g7 (fun j hj => by
        rintro (e | e)
        · subst e
          rcases O6.ne P6 (by decide) with h | h
          · rw [h] at hj; cases hj
          · exact h hj
        · exact O6.apart F6 (by decide) j hj e)
      clear hlook y1 hsc hio hio6 P5 hD1 hD6 P6 M6
      go_wp2_with fail
      go_ret
      exact ⟨N + 1, Nat.le_refl _, by rw [HR.out]; rfl, by rw [HR.out]; exact ⟨A7, n7, k7, AO, nO, kO, P7, F7, O7, M7, by have := HN1.out.1; simp; omega, by have := HN1.out.2; simp; omega⟩,
        ((Ext.below_all _ b5).trans (Ext.of_grown g6 (fun k h => by injection h with h; exact .inr (.inl h.symm)))).trans (g7.more fun k h => by rcases h with h | h; exact .inl h; exact .inr (.inr (F6.lt _ h).1))⟩
  · have HR := Lib.hid (show lineG C S t = (0, { C with lo := C.lo ++ [⟨pr, po, x, tp⟩] }, nOpen :: S) by rw [HLV2.out, if_neg (by rintro ⟨_, _, h⟩; exact h rfl)]; rfl)
    have y1 : ((str nOpen).toList == [102, 105, 120, 101, 100]) = false := by rw [toList_str]; rfl
    have y2 : ((str nOpen).toList == [111, 112, 101, 110]) = true := by rw [toList_str]; rfl
    obtain ⟨bb, hbb⟩ : ∃ b, decide (nOpen ∈ S) = b := ⟨_, rfl⟩
    rw [hbb] at hlook
    clear hbb HLV2
    rcases bb with _ | _
    all_goals
      go_wp2_with (at_mapUpdate; refine wpList_mapUpdate_own _ rfl _ _ _ 58 rfl 9 4 (string_keyed Tryz.underlying9) Tryz.underlying58 (plainElem Tryz.prog 4) sb N D rfl hD1 (by unfold maxLen; omega) _ _ _ rfl rfl (WideMaps.keyOf_string_mk (s := str nOpen) Tryz.underlying9 (by rw [str_size]; unfold maxLen; decide)) _ [] (plainElem_bool Tryz.underlying4 true) ?_; intro w6 hD6 g6)
      have P6 := grown_at g6 P5 (Ne.symm hne)
      have M6 := MB.put hD1 HD.out nOpen hD6
      have F6 := F5.kept g6 HF5.out.1
      have O6 := O5.kept g6 HF5.out.2
      have hH6 : H ≤ w6.heap.size := by have := g6.size; omega
      have hio6 : IO w6 w4.heap.size A5 n5 c5 [(Vl.n pr).val, (Vl.n po).val, (Vl.a x).val, (Vl.n tp).val] := ⟨hio.1, hio.2.kept g6 (.inr (fun e => by have := (hio.2.lt sb e).1; have := b4.size; omega))⟩
      refine (set_op w6 g H w4.heap.size C.c _ _ AO nO kO C.lo O6 P6 hgH hH6 (by have := HN1.out.2; omega) pr po tp x A5 n5 c5 hio6).mono ?_
      rintro e w7 ⟨A7, n7, k7, rfl, P7, O7, g7⟩
      have M7 := M6.ext g7 (by rintro (e | e); exact hne e; have := (O6.lt _ e).1; omega)
      have F7 : FO w7 H AF nF kF C.lf := F6.ext g7 (fun j hj => by
        rintro (e | e)
        · subst e
          rcases F6.ne P6 (by decide) with h | h
          · rw [h] at hj; cases hj
          · exact h hj
        · exact F6.apart O6 (by decide) j hj e)
      clear hlook y1 y2 hsc hio hio6 P5 hD1 hD6 P6 M6
      go_wp2_with fail
      go_ret
      exact ⟨N + 1, Nat.le_refl _, by rw [HR.out]; rfl, by rw [HR.out]; exact ⟨AF, nF, kF, A7, n7, k7, P7, F7, O7, M7, by have := HN1.out.1; simp; omega, by have := HN1.out.2; simp; omega⟩,
        ((Ext.below_all _ b5).trans (Ext.of_grown g6 (fun k h => by injection h with h; exact .inr (.inl h.symm)))).trans (g7.more fun k h => by rcases h with h | h; exact .inl h; exact .inr (.inr (O6.lt _ h).1))⟩
  · have hsg : setG C nm [v] = { C with c := setC C.c nm v } := by cases v <;> rfl
    have y1 : ((str nm).toList == [102, 105, 120, 101, 100]) = false := by rw [toList_str]; simpa using h1
    have y2 : ((str nm).toList == [111, 112, 101, 110]) = false := by rw [toList_str]; simpa using h2
    by_cases hin : nm ∈ S
    · have HR := Lib.hid (show lineG C S t = (8, C, S) by rw [HLV2.out, if_pos ⟨hin, h1, h2⟩])
      rw [show decide (nm ∈ S) = true from decide_eq_true hin] at hlook
      clear hin HLV2 hsg
      go_wp2_with fail
      go_ret
      exact ⟨N, by omega, by rw [HR.out]; rfl, by rw [HR.out]; exact HR5.out, Ext.below_all _ b5⟩
    have HR := Lib.hid (show lineG C S t = (0, { C with c := setC C.c nm v }, nm :: S) by rw [HLV2.out, if_neg (fun h => hin h.1), hsg])
    rw [show decide (nm ∈ S) = false from decide_eq_false hin] at hlook
    clear hin HLV2 hsg
    go_wp2_with (at_mapUpdate; refine wpList_mapUpdate_own _ rfl _ _ _ 58 rfl 9 4 (string_keyed Tryz.underlying9) Tryz.underlying58 (plainElem Tryz.prog 4) sb N D rfl hD1 (by unfold maxLen; omega) _ _ _ rfl rfl (WideMaps.keyOf_string_mk (s := str nm) Tryz.underlying9 (by rw [str_size]; unfold maxLen; omega)) _ [] (plainElem_bool Tryz.underlying4 true) ?_; intro w6 hD6 g6)
    have P6 := grown_at g6 P5 (Ne.symm hne)
    have M6 := MB.put hD1 HD.out nm hD6
    have F6 := F5.kept g6 HF5.out.1
    have O6 := O5.kept g6 HF5.out.2
    have hio6 : IO w6 w4.heap.size A5 n5 c5 [v.val] := ⟨hio.1, hio.2.kept g6 (.inr (fun e => by have := (hio.2.lt sb e).1; have := b4.size; omega))⟩
    refine (set_any w6 g C.c _ _ _ P6 nm v hgood _ A5 n5 c5 hio6).mono ?_
    rintro e w7 ⟨rfl, P7, g7⟩
    have M7 := M6.grown g7 hne
    have F7 := F6.kept g7 (F6.ne P6 (by decide))
    have O7 := O6.kept g7 (O6.ne P6 (by decide))
    clear hlook y1 y2 hsc hio hio6 P5 hD1 hD6 P6 M6
    go_wp2_with fail
    go_ret
    exact ⟨N + 1, Nat.le_refl _, by rw [HR.out]; rfl, by rw [HR.out]; exact ⟨AF, nF, kF, AO, nO, kO, P7, F7, O7, M7, by have := HN1.out.1; simp; omega, by have := HN1.out.2; simp; omega⟩,
      ((Ext.below_all _ b5).trans (Ext.of_grown g6 (fun k h => by injection h with h; exact .inr (.inl h.symm)))).trans (Ext.of_grown g7 (fun k h => by injection h with h; exact .inl h.symm))⟩
end Go.Proofs.YtnmdiageigbphaaGreatDoor
