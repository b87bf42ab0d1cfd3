/-
  conf: the walk of values.
-/
import Derived.Test.YtnmdiageigbphaaDoorKp6
import Derived.Deep.Onto
namespace Go.Proofs.YtnmdiageigbphaaDoor
open Go.RowKit

theorem vals_step {ks : List UInt8} {xs : List (List UInt8)} {j : Nat} (hk : j < ks.length) (hx : j < xs.length) :
    valsGo (ks.drop j) (xs.drop j) = match valK (ks.getD j 0) (xs.getD j []) with
      | none => none
      | some v => (valsGo (ks.drop (j + 1)) (xs.drop (j + 1))).map (v :: ·) := by
  rw [List.drop_eq_getElem_cons hk, List.drop_eq_getElem_cons hx, valsGo, show ks.getD j 0 = ks[j] by simp [List.getD, hk], show xs.getD j [] = xs[j] by simp [List.getD, hx]]
  cases valK ks[j] xs[j] <;> rfl
theorem row_cell {w : World} {B b o : Nat} {xs : List Value} (h : Row w B (some ⟨b, o, none⟩) xs) {j : Nat} {u : Value} (hj : xs[j]? = some u) : w.cell? ⟨b, o + j, none⟩ = some u := by
  have := h.cells _ rfl j u hj
  rw [Addr.add_lit] at this
  exact this
theorem val_nil (v : Vl) (w : World) : (binOp .eql 20 v.val .nilIface).run Tryd.prog w = .ok (.bool false) w := by
  cases v <;> kernel_rfl
theorem val_guard (v : Vl) (w : World) (x y : Operand) : (eqGuard .eql 20 x y v.val .nilIface).run Tryd.prog w = .ok () w := by
  cases v <;> rfl
theorem nil_nil (w : World) : (binOp .eql 20 .nilIface .nilIface).run Tryd.prog w = .ok (.bool true) w := by kernel_rfl
theorem nil_guard (w : World) (x : Operand) (v : Value) : (eqGuard .eql 20 x (.const v) .nilIface .nilIface).run Tryd.prog w = .ok () w := by
  cases x <;> rfl
set_option maxRecDepth 100000 in
set_option maxHeartbeats 4000000 in
theorem values_any (w : World) (hm : mlIs w) (name text : List UInt8) (ha : asc text) (hl : text.length ≤ 1000000) :
    Calls Tryd.prog 38 #[.string (str name), .string (str text)] w (VsP w (valuesV name text)) := by
  have hmp := hm.pos
  have hwl := words_mem text
  have hks := kinds_are name
  have hka := kinds_asc name
  have hkl := kinds_len name
  have hku : valuesV name text = if kindsV name = [] ∨ (words text).length ≠ (kindsV name).length then none else valsGo (kindsV name) (words text) := rfl
  obtain ⟨ks, hkv⟩ : ∃ ks, kindsV name = ks := ⟨_, rfl⟩
  have hkc := fun w => kinds_any w name
  rw [hkv] at hks hka hkl hku hkc
  have HKU := Lib.hid hku
  clear hku hkv
  go_enter Tryd.func38, Tryd.ntmps38
  go_wp2_with fail
  refine (words_any w text ha hl).mono ?_
  rintro e w1 ⟨A, n, c, rfl, ho, b1⟩
  obtain ⟨ws, hws⟩ : ∃ ws, words text = ws := ⟨_, rfl⟩
  rw [hws] at ho hwl
  have HWS := Lib.hid hws
  have HN := Lib.hid ho.1
  have hm1 := hm.below b1 hmp
  clear hws ha hm
  go_wp2_with fail
  refine (hkc w1).mono ?_
  rintro e w1' ⟨rfl, rfl⟩
  clear hkc
  have hsk : (str ks).size = ks.length := rfl
  by_cases hk0 : ks = []
  · have HV := Lib.hid (show valuesV name text = none by rw [HKU.out, if_pos (.inl hk0)])
    have x1 : ((str ks).toList.isEmpty) = true := by rw [toList_str, hk0]; rfl
    clear hk0
    go_wp2_with fail
    go_ret2
    exact ⟨by rw [HV.out]; rfl, b1⟩
  have x1 : ((str ks).toList.isEmpty) = false := by rw [toList_str]; simpa using hk0
  by_cases hnl : n = ks.length
  case neg =>
    have HV := Lib.hid (show valuesV name text = none by rw [HKU.out, if_pos (.inr (by rw [HWS.out]; have := HN.out; omega))])
    have x2 : ((n : Int) != (ks.length : Int)) = true := by rw [bne_iff_ne]; omega
    clear hk0 hnl
    go_wp2_with fail
    go_ret2
    exact ⟨by rw [HV.out]; rfl, b1⟩
  have x2 : ((n : Int) != (ks.length : Int)) = false := by rw [hnl]; simp
  have HV0 := Lib.hid (show valuesV name text = valsGo ks ws by rw [HKU.out, if_neg (by rw [HWS.out]; rintro (h | h); exact hk0 h; have := HN.out; omega), HWS.out])
  have hpos : 0 < ks.length := List.length_pos_iff.2 hk0
  obtain ⟨b, o, rfl, hbl, _⟩ := ho.at_ (getD_some [] (show 0 < ws.length by have := HN.out; omega))
  have hrow := ho.row
  obtain ⟨B, hB⟩ : ∃ B, w1'.heap.size = B := ⟨_, rfl⟩
  have HWN := Lib.hid (show ws.length = ks.length by have := HN.out; omega)
  have HNL := Lib.hid hnl
  clear hk0 HKU HWS HN ho hnl
  go_wp2_with fail
  have hit0 := World.iter_heap w1' (str ks) 0
  have b2 : Below w1'.heap.size w1' (w1'.iter (str ks) 0) := below_iter w1' _ _
  rw [hB] at hit0 b2 hrow
  have HB := Lib.hid hB
  have HROW := Lib.hid (hrow.below b2)
  have HB1 := Lib.hid (show w.heap.size ≤ B by have := b1.size; omega)
  have b2' := b1.trans (b2.mono HB1.out)
  have hm2 := hm1.below b2 (by have := hmp; have := HB1.out; omega)
  clear hB hrow hm1 b1
  generalize w1'.iter (str ks) 0 = wl at hit0 b2 b2' hm2 HROW ⊢
  go_loopw [8] (fun v wr => ∃ (A' : Option Addr) (n' c' j : Nat) (vs : List Vl), v = .slice A' n' c' ∧ j ≤ ks.length ∧ vs.length = j ∧ valsGo ks ws = (valsGo (ks.drop j) (ws.drop j)).map (vs ++ ·) ∧
    IO wr B A' n' c' (vs.map Vl.val) ∧ wr.heap[B]? = some (.stringIter (str ks) j) ∧ Below B wl wr) (fun _ wr => ks.length - wr.iterPos B)
  case atStart => exact ⟨none, 0, 0, 0, [], rfl, Nat.zero_le _, rfl, by simp, ⟨rfl, World.ownsRow_nil _ _ _ _⟩, hit0, Below.refl _ _⟩
  case round =>
    obtain ⟨A', n', c', j, vs, rfl, hj, hvl, hgo, hio, hit, hbr⟩ := hrel
    have HGO := Lib.hid hgo
    have HI := Lib.hid hit
    have HVL := Lib.hid hvl
    clear hgo hvl
    by_cases hlt : j < ks.length
    · have hnx := next_asc wr B ks j hka hit hlt
      have hks1 := hks (ks.getD j 0) (by simp [List.getD, hlt])
      have hstep := vals_step (ks := ks) (xs := ws) hlt (by have := HWN.out; omega)
      have hxl := hwl (ws.getD j []) (by have := HWN.out; simp [List.getD, show j < ws.length by omega])
      have hcell0 := row_cell (HROW.out.below hbr) (j := j) (u := .string (str (ws.getD j []))) (by have := HWN.out; simp [sv, List.getD, show j < ws.length by omega])
      obtain ⟨k, hk⟩ : ∃ k, ks.getD j 0 = k := ⟨_, rfl⟩
      obtain ⟨x, hx⟩ : ∃ x, ws.getD j [] = x := ⟨_, rfl⟩
      rw [hk] at hnx hks1 hstep
      rw [hx] at hxl hcell0 hstep
      have HST := Lib.hid hstep
      have hio2 := hio.iterAt hit (j + 1)
      have hit2 := Lib.iterAt_heap wr B (str ks) j (j + 1) hit
      have q2 := Lib.below_iterAt (Below.refl B wr) (k := B) (Nat.le_refl _) (str ks) (j + 1)
      have hb2 := hbr.trans q2
      have hz2 : B < (wr.iterAt B (str ks) (j + 1)).heap.size := heap_lt hit2
      have hcell : (wr.iterAt B (str ks) (j + 1)).cell? ⟨b, o + j, none⟩ = some (.string (str x)) := (World.cell?_of_block (w := wr) (a := ⟨b, o + j, none⟩) (q2.block b (by have := HB.out; omega))).trans hcell0
      have hm3 := hm2.below hb2 (by have := hmp; have := HB1.out; omega)
      have hjn : (0 : Int) ≤ (j : Int) ∧ (j : Int) < (n : Int) := by have := HNL.out; omega
      have HZ := Lib.hid hz2
      clear hit hio hk hx hstep hcell0 q2 hz2
      generalize wr.iterAt B (str ks) (j + 1) = wi at hnx hio2 hit2 hb2 HZ hcell hm3
      go_wp2_with fail
      refine (value_any wi hm3 k hks1 x (by omega)).mono ?_
      rintro e w4 ⟨rfl, q4⟩
      have hit4 := below_at q4 hit2 HZ.out
      have hio4 := hio2.below q4
      have hb4 := hb2.trans (q4.mono (by have := HZ.out; omega))
      have hz4 := heap_lt hit4
      clear hcell hm3 hio2 hit2 hb2 hks1
      rcases hv : valK k x with _ | v
      · have HV := Lib.hid (show valuesV name text = none by rw [HV0.out, HGO.out, HST.out, hv]; rfl)
        clear hv
        have hne := nil_nil
        have hgd := nil_guard
        rw [show valO none = Value.nilIface from rfl]
        go_wp2_with fail
        go_ret2
        exact ⟨by rw [HV.out]; rfl, b2'.trans (hb4.mono HB1.out)⟩
      · have hv1 := val_one v
        have HG2 := Lib.hid (show valsGo ks ws = (valsGo (ks.drop (j + 1)) (ws.drop (j + 1))).map ((vs ++ [v]) ++ ·) by
          rw [HGO.out, HST.out, hv]
          simp only [Option.map_map]
          congr 1
          funext l
          simp)
        clear hv
        have hne := val_nil v
        rw [show valO (some v) = v.val from rfl]
        obtain ⟨tt, xx, hu⟩ : ∃ t x, v.val = .iface t x := by cases v <;> exact ⟨_, _, rfl⟩
        have hgd := val_guard v
        rw [hu] at hv1 hne hgd ⊢
        have HU := Lib.hid hu
        clear hu
        go_wp2_with (at_builtin; go_must (refine appI rfl _ _ rfl B A' n' c' (vs.map Vl.val) rfl (hio4.alloc _) w4.heap.size 1 (.iface tt xx) hv1 rfl ((cells_of (heap_alloc_new w4 _)).1 0) (by simp) (by have := HVL.out; simp; omega) (by simp; omega) ?_))
        intro A2 n2 c2 w5 hio5 hbw hg
        have hit5 := IO.grow_ne (hio4.alloc _) (heap_alloc_of hit4) hg
        have hb5 := (hb4.alloc (by omega) _).trans hbw
        go_wp2_with fail
        go_roundw
        case rel => exact ⟨A2, n2, c2, j + 1, vs ++ [v], rfl, by omega, by have := HVL.out; simp; omega, HG2.out, by rw [List.map_append, List.map_cons, List.map_nil, HU.out]; exact hio5, hit5, hb5⟩
        case measure => simp [World.iterPos, hit5, HI.out]; omega
    · obtain rfl : j = ks.length := by omega
      have hnx : ∀ ty, (Instr.next (.pointer (some ⟨B, 0, none⟩)) true ty).run Tryd.prog wr = .ok (.tuple #[.bool false]) wr := fun ty => Lib.run_next_end_at wr B (str ks) ks.length ty hit (by rw [str_size]; omega)
      have HV := Lib.hid (show valuesV name text = some vs by rw [HV0.out, HGO.out, List.drop_length, valsGo]; simp)
      clear hit
      go_wp2_with fail
      go_ret2
      refine ⟨?_, b2'.trans (hbr.mono HB1.out)⟩
      rw [HV.out]
      exact ⟨A', n', c', rfl, hio.1, World.ownsRow.mono hio.2 HB1.out⟩
end Go.Proofs.YtnmdiageigbphaaDoor
