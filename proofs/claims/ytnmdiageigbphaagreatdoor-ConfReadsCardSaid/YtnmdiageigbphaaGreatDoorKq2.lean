/-
  conf: values of words that are no ASCII texts: there are none.
-/
import Derived.Test.YtnmdiageigbphaaGreatDoorKq1
import Derived.Test.YtnmdiageigbphaaGreatDoorKp7
namespace Go.Proofs.YtnmdiageigbphaaGreatDoor
open Go.RowKit

theorem asc_cons {b : UInt8} {r : List UInt8} (h : b.toNat < 128) (k : asc r) : asc (b :: r) := fun x hx => by
  rcases List.mem_cons.1 hx with rfl | hx
  · exact h
  · exact k x hx
theorem numGoC_asc : ∀ (l : List UInt8) (n i v : Nat), numGoC n i l = some v → asc l
  | [], _, _, _, _ => asc_nil
  | b :: r, n, i, v, h => by
    rw [numGoC] at h
    split at h
    · cases h
    · rename_i hc
      exact asc_cons (by omega) (numGoC_asc r _ _ v h)
theorem numC_asc {s : List UInt8} (h : ¬ asc s) : numC s = none := by
  unfold numC
  split
  · rfl
  · rcases hg : numGoC 0 0 s with _ | v
    · rfl
    · exact absurd (numGoC_asc s 0 0 v hg) h
theorem cutB_asc (c : UInt8) (hc : c.toNat < 128) : ∀ s : List UInt8, (∀ p ∈ cutB c s, asc p) → asc s
  | [], _ => asc_nil
  | x :: r, h => by
    rw [cutB] at h
    by_cases hx : x = c
    · rw [if_pos hx] at h
      exact asc_cons (by rw [hx]; exact hc) (cutB_asc c hc r fun p hp => h p (by simp [hp]))
    · rw [if_neg hx] at h
      match hq : cutB c r with
      | [] => rw [hq] at h; have := cutB_count c r; rw [hq] at this; simp at this
      | p :: q =>
        rw [hq] at h
        have h0 := h (x :: p) (by simp)
        refine asc_cons (h0 x (by simp)) (cutB_asc c hc r fun y hy => ?_)
        rw [hq] at hy
        rcases List.mem_cons.1 hy with rfl | hy
        · exact fun b hb => h0 b (by simp [hb])
        · exact h y (by simp [hy])
theorem mem_getD {l : List (List UInt8)} {p : List UInt8} (h : p ∈ l) : ∃ i, i < l.length ∧ l.getD i [] = p := by
  obtain ⟨i, hi, he⟩ := List.mem_iff_getElem.1 h
  exact ⟨i, hi, by simp [List.getD, hi, he]⟩
theorem numGo_asc : ∀ (l : List UInt8) (n : Nat) (f : Bool) (v : Nat), numGo n f l = some v → asc l
  | [], _, _, _, _ => asc_nil
  | b :: r, n, f, v, h => by
    rw [numGo] at h
    split at h
    · cases h
    · rename_i hc
      exact asc_cons (by omega) (numGo_asc r _ _ v h)
theorem numOk_asc {s : List UInt8} {m : Nat} (h : numOk s m = true) : asc s := by
  simp only [numOk, Bool.and_eq_true] at h
  rcases hg : numGo 0 true s with _ | v
  · rw [hg] at h; cases h.1.1
  · exact numGo_asc s 0 true v hg
theorem parseV_asc {s : List UInt8} (h : ¬ asc s) : (parseV s).2 = 9 := by
  rw [parse_no]
  rintro ⟨h1, h2⟩
  refine h (cutB_asc 46 (by decide) s fun p hp => ?_)
  obtain ⟨i, hi, rfl⟩ := mem_getD hp
  exact numOk_asc (okN_iff.1 h2 i (by omega))
theorem pairGo_asc : ∀ (l : List UInt8) (n : Nat) (v : Nat), pairGo n l = some v → asc l
  | [], _, _, _ => asc_nil
  | b :: r, n, v, h => by
    rw [pairGo] at h
    rcases hd : hexD b.toNat with _ | d
    · rw [hd] at h; cases h
    · rw [hd] at h
      refine asc_cons ?_ (pairGo_asc r _ v h)
      rcases Nat.lt_or_ge b.toNat 128 with hb | hb
      · exact hb
      · rw [hexD_high hb] at hd; cases hd
theorem pairOk_asc {s : List UInt8} (h : pairOk s = true) : asc s := by
  simp only [pairOk, Bool.and_eq_true] at h
  rcases hg : pairGo 0 s with _ | v
  · rw [hg] at h; cases h.1
  · exact pairGo_asc s 0 v hg
theorem parseMV_asc {s : List UInt8} (h : ¬ asc s) : (parseMV s).2 = 9 := by
  rw [parseM_no]
  rintro ⟨h1, h2⟩
  refine h (cutB_asc 58 (by decide) s fun p hp => ?_)
  obtain ⟨i, hi, rfl⟩ := mem_getD hp
  exact pairOk_asc (okM_iff.1 h2 i (by omega))
theorem cutE_asc_of (c : UInt8) (hc : c.toNat < 128) : ∀ s : List UInt8, asc (cutE c s).1 → asc (cutE c s).2.1 → asc s
  | [], _, _ => asc_nil
  | x :: r, h1, h2 => by
    rw [cutE] at h1 h2
    by_cases hx : x = c
    · rw [if_pos hx] at h2
      exact asc_cons (by rw [hx]; exact hc) h2
    · rw [if_neg hx] at h1 h2
      exact asc_cons (h1 x (by simp)) (cutE_asc_of c hc r (fun b hb => h1 b (by simp [hb])) h2)
theorem valK_asc (k : UInt8) {s : List UInt8} (h : ¬ asc s) : valK k s = none := by
  have h1 : valN s = none := by rw [valN, numC_asc h]; rfl
  have h2 : valA s = none := by rw [valA, parseV_asc h]; rfl
  have h3 : valM s = none := by rw [valM, parseMV_asc h]; rfl
  have h4 : valOw s = none := by
    rw [valOw, if_neg]
    rintro ⟨_, a, b⟩
    refine h (cutE_asc_of 47 (by decide) s ?_ ?_)
    · rcases Classical.em (asc (cutE 47 s).1) with e | e
      · exact e
      · rw [parseV_asc e] at a; cases a
    · rcases Classical.em (asc (cutE 47 s).2.1) with e | e
      · exact e
      · rw [numC_asc e] at b; cases b
  have h5 : valP s = none := by
    rw [valP, if_neg, if_neg]
    · rintro rfl; exact h (by unfold asc; decide)
    · rintro rfl; exact h (by unfold asc; decide)
  unfold valK
  rw [h1, h2, h3, h4, h5]
  repeat' split
  all_goals rfl
theorem valK_like (k : UInt8) {x y : List UInt8} (h : like x y) : valK k y = valK k x := by
  rcases h with ⟨rfl, _⟩ | ⟨h1, h2, _⟩
  · rfl
  · rw [valK_asc k h1, valK_asc k h2]
theorem likeL.cons {x y : List UInt8} {l m : List (List UInt8)} (h : likeL (x :: l) (y :: m)) : like x y ∧ likeL l m :=
  ⟨by simpa using h.2 0, by simpa using h.1, fun i => by simpa using h.2 (i + 1)⟩
theorem valsGo_like : ∀ (ks : List UInt8) (l m : List (List UInt8)), likeL l m → valsGo ks m = valsGo ks l
  | [], _, _, _ => by simp [valsGo]
  | k :: ks, [], [], _ => rfl
  | k :: ks, [], y :: m, h => by have := h.1; simp at this
  | k :: ks, x :: l, [], h => by have := h.1; simp at this
  | k :: ks, x :: l, y :: m, h => by
    obtain ⟨h1, h2⟩ := h.cons
    rw [valsGo, valsGo, valK_like k h1, valsGo_like ks l m h2]
theorem values_like (name text : List UInt8) (m : List (List UInt8)) (h : likeL (words text) m) :
    valuesV name text = if kindsV name = [] ∨ m.length ≠ (kindsV name).length then none else valsGo (kindsV name) m := by
  rw [valuesV, h.1, valsGo_like _ _ _ h]
set_option maxRecDepth 100000 in
set_option maxHeartbeats 4000000 in
theorem values_all (w : World) (hm : mlIs w) (name text : List UInt8) (hl : text.length ≤ 100000) :
    Calls Tryz.prog 58 #[.string (str name), .string (str text)] w (VsP w (valuesV name text)) := by
  have hmp := hm.pos
  have hks := kinds_are name
  have hka := kinds_asc name
  have hkl := kinds_len name
  have hku := values_like name text
  obtain ⟨ks, hkv⟩ : ∃ ks, kindsV name = ks := ⟨_, rfl⟩
  have hkc := fun w => kinds_any w name
  rw [hkv] at hks hka hkl hku hkc
  have HKU := Lib.hid hku
  clear hku hkv
  go_enter Tryz.func58, Tryz.ntmps58
  go_wp2_with fail
  refine (words_all w text hl).mono ?_
  rintro e w1 ⟨ws, hlm, hwl, A, n, c, rfl, ho, b1⟩
  replace HKU := Lib.hid (HKU.out ws hlm)
  have HN := Lib.hid ho.1
  have hm1 := hm.below b1 hmp
  clear hlm hm
  go_wp2_with fail
  refine (hkc w1).mono ?_
  rintro e w1' ⟨rfl, rfl⟩
  clear hkc
  have hsk : (str ks).size = ks.length := rfl
  by_cases hk0 : ks = []
  · have HV := Lib.hid (show valuesV name text = none by rw [HKU.out, if_pos (.inl hk0)])
    have x1 : ((str ks).toList.isEmpty) = true := by rw [toList_str, hk0]; rfl
    clear hk0
    go_wp2_with fail
    go_ret2
    exact ⟨by rw [HV.out]; rfl, b1⟩
  have x1 : ((str ks).toList.isEmpty) = false := by rw [toList_str]; simpa using hk0
  by_cases hnl : n = ks.length
  case neg =>
    have HV := Lib.hid (show valuesV name text = none by rw [HKU.out, if_pos (.inr (by have := HN.out; omega))])
    have x2 : ((n : Int) != (ks.length : Int)) = true := by rw [bne_iff_ne]; omega
    clear hk0 hnl
    go_wp2_with fail
    go_ret2
    exact ⟨by rw [HV.out]; rfl, b1⟩
  have x2 : ((n : Int) != (ks.length : Int)) = false := by rw [hnl]; simp
  have HV0 := Lib.hid (show valuesV name text = valsGo ks ws by rw [HKU.out, if_neg (by rintro (h | h); exact hk0 h; have := HN.out; omega)])
  have hpos : 0 < ks.length := List.length_pos_iff.2 hk0
  obtain ⟨b, o, rfl, hbl, _⟩ := ho.at_ (getD_some [] (show 0 < ws.length by have := HN.out; omega))
  have hrow := ho.row
  obtain ⟨B, hB⟩ : ∃ B, w1'.heap.size = B := ⟨_, rfl⟩
  have HWN := Lib.hid (show ws.length = ks.length by have := HN.out; omega)
  have HNL := Lib.hid hnl
  clear hk0 HKU HN ho hnl
  go_wp2_with fail
  have hit0 := World.iter_heap w1' (str ks) 0
  have b2 : Below w1'.heap.size w1' (w1'.iter (str ks) 0) := below_iter w1' _ _
  rw [hB] at hit0 b2 hrow
  have HB := Lib.hid hB
  have HROW := Lib.hid (hrow.below b2)
  have HB1 := Lib.hid (show w.heap.size ≤ B by have := b1.size; omega)
  have b2' := b1.trans (b2.mono HB1.out)
  have hm2 := hm1.below b2 (by have := hmp; have := HB1.out; omega)
  clear hB hrow hm1 b1
  generalize w1'.iter (str ks) 0 = wl at hit0 b2 b2' hm2 HROW ⊢
  go_loopw [8] (fun v wr => ∃ (A' : Option Addr) (n' c' j : Nat) (vs : List Vl), v = .slice A' n' c' ∧ j ≤ ks.length ∧ vs.length = j ∧ valsGo ks ws = (valsGo (ks.drop j) (ws.drop j)).map (vs ++ ·) ∧
    IO wr B A' n' c' (vs.map Vl.val) ∧ wr.heap[B]? = some (.stringIter (str ks) j) ∧ Below B wl wr) (fun _ wr => ks.length - wr.iterPos B)
  case atStart => exact ⟨none, 0, 0, 0, [], rfl, Nat.zero_le _, rfl, by simp, ⟨rfl, World.ownsRow_nil _ _ _ _⟩, hit0, Below.refl _ _⟩
  case round =>
    obtain ⟨A', n', c', j, vs, rfl, hj, hvl, hgo, hio, hit, hbr⟩ := hrel
    have HGO := Lib.hid hgo
    have HI := Lib.hid hit
    have HVL := Lib.hid hvl
    clear hgo hvl
    by_cases hlt : j < ks.length
    · have hnx := next_asc wr B ks j hka hit hlt
      have hks1 := hks (ks.getD j 0) (by simp [List.getD, hlt])
      have hstep := vals_step (ks := ks) (xs := ws) hlt (by have := HWN.out; omega)
      have hxl := hwl (ws.getD j []) (by have := HWN.out; simp [List.getD, show j < ws.length by omega])
      have hcell0 := row_cell (HROW.out.below hbr) (j := j) (u := .string (str (ws.getD j []))) (by have := HWN.out; simp [sv, List.getD, show j < ws.length by omega])
      obtain ⟨k, hk⟩ : ∃ k, ks.getD j 0 = k := ⟨_, rfl⟩
      obtain ⟨x, hx⟩ : ∃ x, ws.getD j [] = x := ⟨_, rfl⟩
      rw [hk] at hnx hks1 hstep
      rw [hx] at hxl hcell0 hstep
      have HST := Lib.hid hstep
      have hio2 := hio.iterAt hit (j + 1)
      have hit2 := Lib.iterAt_heap wr B (str ks) j (j + 1) hit
      have q2 := Lib.below_iterAt (Below.refl B wr) (k := B) (Nat.le_refl _) (str ks) (j + 1)
      have hb2 := hbr.trans q2
      have hz2 : B < (wr.iterAt B (str ks) (j + 1)).heap.size := heap_lt hit2
      have hcell : (wr.iterAt B (str ks) (j + 1)).cell? ⟨b, o + j, none⟩ = some (.string (str x)) := (World.cell?_of_block (w := wr) (a := ⟨b, o + j, none⟩) (q2.block b (by have := HB.out; omega))).trans hcell0
      have hm3 := hm2.below hb2 (by have := hmp; have := HB1.out; omega)
      have hjn : (0 : Int) ≤ (j : Int) ∧ (j : Int) < (n : Int) := by have := HNL.out; omega
      have HZ := Lib.hid hz2
      clear hit hio hk hx hstep hcell0 q2 hz2
      generalize wr.iterAt B (str ks) (j + 1) = wi at hnx hio2 hit2 hb2 HZ hcell hm3
      go_wp2_with fail
      refine (value_any wi hm3 k hks1 x (by omega)).mono ?_
      rintro e w4 ⟨rfl, q4⟩
      have hit4 := below_at q4 hit2 HZ.out
      have hio4 := hio2.below q4
      have hb4 := hb2.trans (q4.mono (by have := HZ.out; omega))
      have hz4 := heap_lt hit4
      clear hcell hm3 hio2 hit2 hb2 hks1
      rcases hv : valK k x with _ | v
      · have HV := Lib.hid (show valuesV name text = none by rw [HV0.out, HGO.out, HST.out, hv]; rfl)
        clear hv
        have hne := nil_nil
        have hgd := nil_guard
        rw [show valO none = Value.nilIface from rfl]
        go_wp2_with fail
        go_ret2
        exact ⟨by rw [HV.out]; rfl, b2'.trans (hb4.mono HB1.out)⟩
      · have hv1 := val_one v
        have HG2 := Lib.hid (show valsGo ks ws = (valsGo (ks.drop (j + 1)) (ws.drop (j + 1))).map ((vs ++ [v]) ++ ·) by
          rw [HGO.out, HST.out, hv]
          simp only [Option.map_map]
          congr 1
          funext l
          simp)
        clear hv
        have hne := val_nil v
        rw [show valO (some v) = v.val from rfl]
        obtain ⟨tt, xx, hu⟩ : ∃ t x, v.val = .iface t x := by cases v <;> exact ⟨_, _, rfl⟩
        have hgd := val_guard v
        rw [hu] at hv1 hne hgd ⊢
        have HU := Lib.hid hu
        clear hu
        go_wp2_with (at_builtin; go_must (refine appI rfl _ _ rfl B A' n' c' (vs.map Vl.val) rfl (hio4.alloc _) w4.heap.size 1 (.iface tt xx) hv1 rfl ((cells_of (heap_alloc_new w4 _)).1 0) (by simp) (by have := HVL.out; simp; omega) (by simp; omega) ?_))
        intro A2 n2 c2 w5 hio5 hbw hg
        have hit5 := IO.grow_ne (hio4.alloc _) (heap_alloc_of hit4) hg
        have hb5 := (hb4.alloc (by omega) _).trans hbw
        go_wp2_with fail
        go_roundw
        case rel => exact ⟨A2, n2, c2, j + 1, vs ++ [v], rfl, by omega, by have := HVL.out; simp; omega, HG2.out, by rw [List.map_append, List.map_cons, List.map_nil, HU.out]; exact hio5, hit5, hb5⟩
        case measure => simp [World.iterPos, hit5, HI.out]; omega
    · obtain rfl : j = ks.length := by omega
      have hnx : ∀ ty, (Instr.next (.pointer (some ⟨B, 0, none⟩)) true ty).run Tryz.prog wr = .ok (.tuple #[.bool false]) wr := fun ty => Lib.run_next_end_at wr B (str ks) ks.length ty hit (by rw [str_size]; omega)
      have HV := Lib.hid (show valuesV name text = some vs by rw [HV0.out, HGO.out, List.drop_length, valsGo]; simp)
      clear hit
      go_wp2_with fail
      go_ret2
      refine ⟨?_, b2'.trans (hbr.mono HB1.out)⟩
      rw [HV.out]
      exact ⟨A', n', c', rfl, hio.1, World.ownsRow.mono hio.2 HB1.out⟩
end Go.Proofs.YtnmdiageigbphaaGreatDoor
