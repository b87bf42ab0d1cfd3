/-
  conf: a line read.
-/
import Derived.Test.YtnmdiageigbphaaGreatDoorKp9
import Derived.Maps.OwnSet
namespace Go.Proofs.YtnmdiageigbphaaGreatDoor
section
open Go.RowKit
open Go.Maps (string_keyed)

/-- Block b is a map in which these names are true, at most N. -/
def MB (w : World) (b N : Nat) (S : List (List UInt8)) : Prop :=
  ∃ D : DataW Unit, w.ownsMap Tryz.prog 9 (plainElem Tryz.prog 4) b N D ∧ ∀ s : List UInt8, D.atKey (.string s) (.lit (.bool false)) = .lit (.bool (decide (s ∈ S)))
theorem MB.made (w : World) : MB (w.alloc (.map #[] 0)) w.heap.size 0 [] := ⟨.map [], World.ownsMap_made w _ _ _, fun s => by simp [DataW.atKey]⟩
theorem MB.below {w w' : World} {b N : Nat} {S : List (List UInt8)} (h : MB w b N S) (hb : Below w.heap.size w w') : MB w' b N S :=
  let ⟨D, h1, h2⟩ := h
  ⟨D, h1.kept (grown_of_below none hb) (by simp), h2⟩
theorem MB.grown {w w' : World} {b N g : Nat} {S : List (List UInt8)} (h : MB w b N S) (hg : w.grownBy w' (some g)) (hne : b ≠ g) : MB w' b N S :=
  let ⟨D, h1, h2⟩ := h
  ⟨D, h1.kept hg (by simpa using hne), h2⟩
theorem MB.lt {w : World} {b N : Nat} {S : List (List UInt8)} (h : MB w b N S) : b < w.heap.size := let ⟨_, h1, _⟩ := h; h1.lt
theorem MB.put {w w' : World} {b N N' : Nat} {S : List (List UInt8)} {D : DataW Unit} (h1 : w.ownsMap Tryz.prog 9 (plainElem Tryz.prog 4) b N D) (h2 : ∀ s : List UInt8, D.atKey (.string s) (.lit (.bool false)) = .lit (.bool (decide (s ∈ S)))) (s : List UInt8)
    (h : w'.ownsMap Tryz.prog 9 (plainElem Tryz.prog 4) b N' (D.put (.string s) (.lit (.bool true)))) : MB w' b N' (s :: S) := by
  refine ⟨_, h, fun x => ?_⟩
  by_cases hx : x = s
  · subst hx
    rw [Maps.atKey_put_same (k := .string x) h1.isMap trivial]
    simp
  · rw [Maps.atKey_put_other (by intro e; injection e with e; exact hx e), h2]
    simp [hx]
set_option maxRecDepth 100000 in
theorem MB.look {w : World} {b N : Nat} {S : List (List UInt8)} (h : MB w b N S) (s : List UInt8) (hs : s.length ≤ 1000000) :
    (Instr.lookup 58 (.map (some b)) (.string (str s)) false).run Tryz.prog w = .ok (.bool (decide (s ∈ S))) w := by
  obtain ⟨D, h1, h2⟩ := h
  obtain ⟨v, ps, hrun, hv⟩ := h1.lookup (string_keyed Tryz.underlying9) Tryz.underlying58 (Tryz.zeroValue4 w) (plainElem_bool Tryz.underlying4 false)
    (_root_.Go.WideMaps.keyOf_string_mk (s := str s) Tryz.underlying9 (by rw [str_size]; unfold maxLen; omega))
  have h3 : D.atKey (.string (str s).data.toList) (.lit (.bool false)) = .lit (.bool (decide (s ∈ S))) := h2 s
  rw [h3] at hv
  have hb : Tryz.prog.underlying 4 = some .bool := Tryz.underlying4
  unfold plainElem at hv
  rw [hb] at hv
  cases v <;> simp at hv
  rw [hrun, hv.1]
end
section
open Go.RowKit
open Go.Maps (string_keyed)

def setC (c : Cf) (nm : List UInt8) : Vl → Cf
  | .m m => if nm = nLanmac then { c with lm := m } else { c with wm := m }
  | .a x => if nm = nFirst then { c with fst := x } else if nm = nLast then { c with lst := x } else { c with dns := x }
  | .n k => if nm = nTime then { c with time := k } else if nm = nUdp then { c with udp := k } else if nm = nTcp then { c with tcp := k } else if nm = nIcmp then { c with icmp := k } else { c with low := k }
  | .o x b => { c with own := x, lanA := firstA x b, lanB := b }
/-- A name and a value of its kind. -/
def Good (nm : List UInt8) (v : Vl) : Prop :=
  (nm = nLan ∧ ∃ x b, v = .o x b) ∨ ((nm = nLanmac ∨ nm = nWanmac) ∧ ∃ m, v = .m m) ∨ ((nm = nFirst ∨ nm = nLast ∨ nm = nDns) ∧ ∃ x, v = .a x) ∨ ((nm = nTime ∨ nm = nUdp ∨ nm = nTcp ∨ nm = nIcmp ∨ nm = nLow) ∧ ∃ k, v = .n k)
theorem set_any (w : World) (g : Nat) (c : Cf) (vf vo vs : Value) (P : RB w g c vf vo vs) (nm : List UInt8) (v : Vl) (hg : Good nm v) (H : Nat) (A : Option Addr) (n cc : Nat) (hio : IO w H A n cc [v.val]) :
    Calls Tryz.prog 59 #[.pointer (some ⟨g, 0, none⟩), .string (str nm), .slice A n cc] w (SetP w g (setC c nm v) vf vo vs) := by
  rcases hg with ⟨rfl, x, b, rfl⟩ | ⟨h, m, rfl⟩ | ⟨h, x, rfl⟩ | ⟨h, k, rfl⟩
  · exact set_o w g c c vf vo vs P _ x b H A n cc hio
  · rcases h with rfl | rfl
    · exact set_m w g c _ vf vo vs P _ m H A n cc hio fun w rest P => device_lm w g c vf vo vs P m rest
    · exact set_m w g c _ vf vo vs P _ m H A n cc hio fun w rest P => device_wm w g c vf vo vs P m rest
  · rcases h with rfl | rfl | rfl
    · exact set_a w g c _ vf vo vs P _ x H A n cc hio fun w P => address_first w g c vf vo vs P x
    · exact set_a w g c _ vf vo vs P _ x H A n cc hio fun w P => address_last w g c vf vo vs P x
    · exact set_a w g c _ vf vo vs P _ x H A n cc hio fun w P => address_dns w g c vf vo vs P x
  · rcases h with rfl | rfl | rfl | rfl | rfl
    · exact set_n w g c _ vf vo vs P _ k H A n cc hio fun w rest P => count_time w g c vf vo vs P k rest
    · exact set_n w g c _ vf vo vs P _ k H A n cc hio fun w rest P => count_udp w g c vf vo vs P k rest
    · exact set_n w g c _ vf vo vs P _ k H A n cc hio fun w rest P => count_tcp w g c vf vo vs P k rest
    · exact set_n w g c _ vf vo vs P _ k H A n cc hio fun w rest P => count_icmp w g c vf vo vs P k rest
    · exact set_n w g c _ vf vo vs P _ k H A n cc hio fun w rest P => count_low w g c vf vo vs P k rest
theorem vals_one {k : UInt8} {ws : List (List UInt8)} {vs : List Vl} (h : valsGo [k] ws = some vs) : ∃ x v, ws.getD 0 [] = x ∧ valK k x = some v ∧ vs = [v] := by
  match ws, h with
  | x :: xs, h =>
    rw [valsGo] at h
    rcases hv : valK k x with _ | v
    · rw [hv] at h; cases h
    · rw [hv] at h
      simp [valsGo] at h
      exact ⟨x, v, rfl, hv, h.symm⟩
theorem values_good {nm t : List UInt8} {vs : List Vl} (h : valuesV nm t = some vs) (h1 : nm ≠ nFixed) (h2 : nm ≠ nOpen) : ∃ v, vs = [v] ∧ Good nm v := by
  unfold valuesV at h
  split at h
  · cases h
  rename_i hc
  rw [not_or] at hc
  have hk := hc.1
  clear hc
  unfold kindsV at h hk
  split at h
  · rename_i e
    obtain ⟨x, v, _, hv, rfl⟩ := vals_one h
    refine ⟨v, rfl, .inl ⟨e, ?_⟩⟩
    have hv : valOw x = some v := hv
    unfold valOw at hv
    split at hv
    · injection hv with hv
      exact ⟨_, _, hv.symm⟩
    · cases hv
  split at h
  · rename_i e
    obtain ⟨x, v, _, hv, rfl⟩ := vals_one h
    refine ⟨v, rfl, .inr (.inl ⟨e, ?_⟩)⟩
    have hv : valM x = some v := hv
    unfold valM at hv
    split at hv
    · injection hv with hv
      exact ⟨_, hv.symm⟩
    · cases hv
  split at h
  · rename_i e
    obtain ⟨x, v, _, hv, rfl⟩ := vals_one h
    refine ⟨v, rfl, .inr (.inr (.inl ⟨e, ?_⟩))⟩
    have hv : valA x = some v := hv
    unfold valA at hv
    split at hv
    · injection hv with hv
      exact ⟨_, hv.symm⟩
    · cases hv
  split at h
  · rename_i e
    obtain ⟨x, v, _, hv, rfl⟩ := vals_one h
    refine ⟨v, rfl, .inr (.inr (.inr ⟨e, ?_⟩))⟩
    have hv : valN x = some v := hv
    unfold valN at hv
    rcases hn : numC x with _ | k
    · rw [hn] at hv; cases hv
    · rw [hn] at hv
      injection hv with hv
      exact ⟨_, hv.symm⟩
  · simp_all
theorem trimS_len (l cs : List UInt8) : (Lib.trimS l cs).length ≤ l.length := by
  unfold Lib.trimS Lib.trimLeftS Lib.trimRightS
  refine Nat.le_trans (List.dropWhile_sublist _).length_le ?_
  rw [List.length_reverse]
  refine Nat.le_trans (List.dropWhile_sublist _).length_le ?_
  rw [List.length_reverse]
  exact Nat.le_refl _
def nameOf (t : List UInt8) : List UInt8 := Lib.trimS (cutE 61 t).1 [32, 9]
/-- Nothing, or a remark. -/
def quiet (t : List UInt8) : Bool := (words t).isEmpty || List.isPrefixOf [35] ((words t).getD 0 [])
def lineW (c : Cf) (S : List (List UInt8)) (nm z : List UInt8) (f : Bool) : Int × Cf × List (List UInt8) :=
  if f = false then (9, c, S)
  else match valuesV nm z with
    | some [v] => if nm ∈ S then (8, c, S) else (0, setC c nm v, nm :: S)
    | _ => (9, c, S)
def lineV (c : Cf) (S : List (List UInt8)) (t : List UInt8) : Int × Cf × List (List UInt8) :=
  if quiet t = true then (0, c, S) else lineW c S (nameOf t) (cutE 61 t).2.1 (cutE 61 t).2.2
theorem lineW_none {c : Cf} {S : List (List UInt8)} {nm z : List UInt8} {f : Bool} (h : valuesV nm z = none) : lineW c S nm z f = (9, c, S) := by
  rw [lineW, h]
  split <;> rfl
theorem lineW_some {c : Cf} {S : List (List UInt8)} {nm z : List UInt8} {v : Vl} (h : valuesV nm z = some [v]) : lineW c S nm z true = if nm ∈ S then (8, c, S) else (0, setC c nm v, nm :: S) := by
  rw [lineW, h]
  rfl
def LineP (w : World) (g sb N : Nat) (vf vo : Value) (r : Int × Cf × List (List UInt8)) (e : Ending) (w' : World) : Prop :=
  ∃ N', N' ≤ N + 1 ∧ e = .returned (.int .i64 r.1) ∧ RB w' g r.2.1 vf vo (.map (some sb)) ∧ MB w' sb N' r.2.2 ∧ Ext (fun k => k = g ∨ k = sb) w w'
set_option maxRecDepth 100000 in
set_option maxHeartbeats 4000000 in
theorem line_any (w : World) (hm : mlIs w) (g sb N : Nat) (c : Cf) (vf vo : Value) (S : List (List UInt8)) (P : RB w g c vf vo (.map (some sb))) (M : MB w sb N S) (hN : N ≤ 500) (hne : sb ≠ g)
    (t : List UInt8) (ha : asc t) (hl : t.length ≤ 1000000) (h1 : nameOf t ≠ nFixed) (h2 : nameOf t ≠ nOpen) :
    Calls Tryz.prog 19 #[.pointer (some ⟨g, 0, none⟩), .string (str t)] w (LineP w g sb N vf vo (lineV c S t)) := by
  have hgl := heap_lt P
  have hml := M.lt
  have hmp := hm.pos
  have hwe := words_any w t ha hl
  obtain ⟨ws, hws⟩ : ∃ ws, words t = ws := ⟨_, rfl⟩
  have HW := Lib.hid hws
  rw [hws] at hwe
  clear hws
  go_enter Tryz.func19, Tryz.ntmps19
  go_wp2_with fail
  refine hwe.mono ?_
  rintro e w1 ⟨A, n, cc, rfl, ho, b1⟩
  have P1 := below_at b1 P hgl
  have M1 := M.below b1
  have m1 := hm.below b1 hmp
  have HN0 := Lib.hid ho.1
  clear hwe hm M P
  rcases Nat.eq_zero_or_pos n with hn0 | hn0
  · have HR := Lib.hid (show lineV c S t = (0, c, S) by
      have : ws = [] := List.length_eq_zero_iff.1 (by have := HN0.out; omega)
      rw [lineV, if_pos (by rw [quiet, HW.out, this]; rfl)])
    subst hn0
    go_wp2_with fail
    go_ret
    exact ⟨N, by omega, by rw [HR.out]; rfl, by rw [HR.out]; exact P1, by rw [HR.out]; exact M1, Ext.below_all _ b1⟩
  obtain ⟨b, o, rfl, hbl, hc0⟩ := ho.at_ (getD_some [] (show 0 < ws.length by have := HN0.out; omega))
  obtain ⟨y, hy⟩ : ∃ y, ws.getD 0 [] = y := ⟨_, rfl⟩
  rw [hy, Nat.add_zero] at hc0
  have HY := Lib.hid (show (words t).isEmpty = false ∧ (words t).getD 0 [] = y by
    rw [HW.out]
    refine ⟨?_, hy⟩
    have := HN0.out
    rcases ws with _ | ⟨_, _⟩
    · simp at this; omega
    · rfl)
  have x0 : ((n : Int) == 0) = false := by rw [beq_eq_false_iff_ne]; omega
  have hni : (0 : Int) < (n : Int) := by omega
  clear ho hy HN0 hn0
  go_wp2_with fail
  refine (hasPrefix_any w1 y [35]).mono ?_
  rintro e w2 ⟨rfl, rfl⟩
  rcases hpf : List.isPrefixOf [35] y with _ | _
  case true =>
    have HR := Lib.hid (show lineV c S t = (0, c, S) by rw [lineV, if_pos (by rw [quiet, HY.out.1, HY.out.2, hpf]; rfl)])
    clear hpf
    go_wp2_with fail
    go_ret
    exact ⟨N, by omega, by rw [HR.out]; rfl, by rw [HR.out]; exact P1, by rw [HR.out]; exact M1, Ext.below_all _ b1⟩
  have HQ := Lib.hid (show ¬ quiet t = true by rw [quiet, HY.out.1, HY.out.2, hpf]; decide)
  clear hpf HY HW hc0 hni x0
  have hcl := cutE_len 61 t
  have hca := (cutE_asc 61 t ha).2
  have hcut := cut_any w2 m1 t 61 hl
  have hnl : (nameOf t).length ≤ 1000000 := by
    have := trimS_len (cutE 61 t).1 [32, 9]
    unfold nameOf
    omega
  have htr := fun w => trim_any w (cutE 61 t).1 (by omega)
  have hLV : lineV c S t = lineW c S (nameOf t) (cutE 61 t).2.1 (cutE 61 t).2.2 := by rw [lineV, if_neg HQ.out]
  rw [show Lib.trimS (cutE 61 t).1 [32, 9] = nameOf t from rfl] at htr
  obtain ⟨⟨x, z, f⟩, hcv⟩ : ∃ v, cutE 61 t = v := ⟨_, rfl⟩
  rw [hcv] at hcl hca hcut htr hLV
  obtain ⟨nm, hnm⟩ : ∃ nm, nameOf t = nm := ⟨_, rfl⟩
  rw [hnm] at hnl htr hLV h1 h2
  have HLV := Lib.hid hLV
  clear hcv hnm hLV
  simp only at hcl hca hcut htr
  go_wp2_with fail
  refine hcut.mono ?_
  rintro e w3 ⟨rfl, q3⟩
  have P3 := below_at q3 P1 (heap_lt P1)
  have M3 := M1.below q3
  have m3 := m1.below q3 m1.pos
  have b3 := b1.trans (q3.mono b1.size)
  clear hcut P1 M1 m1 b1 q3
  go_wp2_with fail
  refine (htr w3).mono ?_
  rintro e w4 ⟨rfl, q4⟩
  have P4 := below_at q4 P3 (heap_lt P3)
  have M4 := M3.below q4
  have m4 := m3.below q4 m3.pos
  have b4 := b3.trans (q4.mono b3.size)
  clear htr P3 M3 m3 b3 q4
  go_wp2_with fail
  refine (values_any w4 m4 nm z hca (by omega)).mono ?_
  rintro e w5 ⟨hvals, q5⟩
  have P5 := below_at q5 P4 (heap_lt P4)
  have M5 := M4.below q5
  have b5 := b4.trans (q5.mono b4.size)
  have hz4 := heap_lt P4
  have hs4 := M4.lt
  clear P4 M4 m4 b4 q5
  rcases hv : valuesV nm z with _ | vs
  · rw [hv] at hvals
    obtain rfl := hvals
    have HR := Lib.hid (show lineV c S t = (9, c, S) by rw [HLV.out]; exact lineW_none hv)
    clear hv HLV
    rcases f with _ | _
    all_goals
      go_wp2_with fail
      go_ret
      exact ⟨N, by omega, by rw [HR.out]; rfl, by rw [HR.out]; exact P5, by rw [HR.out]; exact M5, Ext.below_all _ b5⟩
  obtain ⟨v, rfl, hgood⟩ := values_good hv h1 h2
  rw [hv] at hvals
  obtain ⟨A5, n5, c5, rfl, hio⟩ := hvals
  rcases f with _ | _
  · have HR := Lib.hid (show lineV c S t = (9, c, S) by rw [HLV.out]; rfl)
    clear hv HLV
    go_wp2_with fail
    go_ret
    exact ⟨N, by omega, by rw [HR.out]; rfl, by rw [HR.out]; exact P5, by rw [HR.out]; exact M5, Ext.below_all _ b5⟩
  have HLV2 := Lib.hid (show lineV c S t = if nm ∈ S then (8, c, S) else (0, setC c nm v, nm :: S) by
    rw [HLV.out]
    exact lineW_some hv)
  clear hv HLV
  have hlook := M5.look nm hnl
  have y1 : ((str nm).toList == [102, 105, 120, 101, 100]) = false := by rw [toList_str]; simpa using h1
  have y2 : ((str nm).toList == [111, 112, 101, 110]) = false := by rw [toList_str]; simpa using h2
  have hsc := (cells_of P5).1 40
  by_cases hin : nm ∈ S
  · have HR := Lib.hid (show lineV c S t = (8, c, S) by rw [HLV2.out, if_pos hin])
    rw [show decide (nm ∈ S) = true from decide_eq_true hin] at hlook
    clear hin HLV2
    go_wp2_with fail
    go_ret
    exact ⟨N, by omega, by rw [HR.out]; rfl, by rw [HR.out]; exact P5, by rw [HR.out]; exact M5, Ext.below_all _ b5⟩
  have HR := Lib.hid (show lineV c S t = (0, setC c nm v, nm :: S) by rw [HLV2.out, if_neg hin])
  rw [show decide (nm ∈ S) = false from decide_eq_false hin] at hlook
  clear hin HLV2
  obtain ⟨D, hD1, hD2⟩ := M5
  go_wp2_with (at_mapUpdate; refine wpList_mapUpdate_own _ rfl _ _ _ 58 rfl 9 4 (string_keyed Tryz.underlying9) Tryz.underlying58 (plainElem Tryz.prog 4) sb N D rfl hD1 (by unfold maxLen; omega) _ _ _ rfl rfl (WideMaps.keyOf_string_mk (s := str nm) Tryz.underlying9 (by rw [str_size]; unfold maxLen; omega)) _ [] (plainElem_bool Tryz.underlying4 true) ?_; intro w6 hD6 g6)
  have P6 : RB w6 g c vf vo (.map (some sb)) := grown_at g6 P5 (by omega)
  have M6 := MB.put hD1 hD2 nm hD6
  have hio6 : IO w6 w4.heap.size A5 n5 c5 [v.val] := ⟨hio.1, hio.2.kept g6 (.inr (fun e => by have := (hio.2.lt sb e).1; have := M6.lt; omega))⟩
  refine (set_any w6 g c vf vo _ P6 nm v hgood _ A5 n5 c5 hio6).mono ?_
  rintro e w7 ⟨rfl, P7, g7⟩
  have M7 := M6.grown g7 hne
  clear hlook y1 y2 hsc hio hio6 P5 hD1 hD2 hD6 P6 M6
  go_wp2_with fail
  go_ret
  exact ⟨N + 1, Nat.le_refl _, by rw [HR.out]; rfl, by rw [HR.out]; exact P7, by rw [HR.out]; exact M7, ((Ext.below_all _ b5).trans (Ext.of_grown g6 (fun k h => by injection h with h; omega))).trans (Ext.of_grown g7 (fun k h => by injection h with h; omega))⟩
end
end Go.Proofs.YtnmdiageigbphaaGreatDoor
