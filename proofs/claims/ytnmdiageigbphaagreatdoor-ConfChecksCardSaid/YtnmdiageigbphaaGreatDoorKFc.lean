/-
  From the reading of a statement's arguments to the words of the walks: configurations.
-/
import Derived.Test.YtnmdiageigbphaaGreatDoorKFo
import Derived.Test.YtnmdiageigbphaaGreatDoorKq12
import Derived.Deep.Slices
namespace Go.Proofs.YtnmdiageigbphaaGreatDoor
open Go.ChangeShapes Go.WideShapes Go.ChangeAt Go.RowKit

set_option maxRecDepth 100000 in
theorem cellsFx : Tryz.prog.cellsOf 73 = 10 := by kernel_rfl
set_option maxRecDepth 100000 in
theorem cellsOpn : Tryz.prog.cellsOf 48 = 7 := by kernel_rfl
set_option maxRecDepth 100000 in
theorem cellsNet : Tryz.prog.cellsOf 26 = 5 := by kernel_rfl
set_option maxRecDepth 100000 in
theorem cellsFxs : Tryz.prog.cellsOf 29 = 1 := by kernel_rfl
set_option maxRecDepth 100000 in
theorem cellsOpns : Tryz.prog.cellsOf 30 = 1 := by kernel_rfl
set_option maxRecDepth 100000 in
theorem cellsConf : Tryz.prog.cellsOf 32 = 40 := by kernel_rfl
instance : Inhabited Fx := ⟨⟨⟨0, 0, 0, 0, 0, 0⟩, ⟨0, 0, 0, 0⟩⟩⟩
instance : Inhabited Opn := ⟨⟨0, 0, ⟨0, 0, 0, 0⟩, 0⟩⟩
section
variable {H : Type} {enc : TypeId × Value → H} {W : World}
set_option maxRecDepth 100000 in
theorem net_cells {fuel : Nat} {cs : List Value} {y : DataW H × List MemPlace} (h : DataW.trod enc Tryz.prog W 0 (fun _ => true) true fuel 26 cs = some y) (hcl : cs.length = 5) : ∃ (a : Ad4) (b : Int), cs = bv a.bytes ++ [.int .i64 b] := by
  obtain ⟨xs, m, _, _, _, hlen, hg⟩ := DataW.trod_struct Tryz.underlying26 h
  have g0 := hg 0 _ rfl
  have g1 := hg 1 _ rfl
  change DataW.trod enc Tryz.prog W 0 (fun _ => true) true m 24 ((cs.drop 0).take (Tryz.prog.cellsOf 24)) = _ at g0
  change DataW.trod enc Tryz.prog W 0 (fun _ => true) true m 3 ((cs.drop 4).take (Tryz.prog.cellsOf 3)) = _ at g1
  have hl : xs.length = 2 := hlen
  rw [List.getElem?_eq_getElem (show 0 < xs.length by omega), cellsAd] at g0
  rw [List.getElem?_eq_getElem (show 1 < xs.length by omega), cellsInt] at g1
  obtain ⟨l0, hl0, hc0⟩ := bytes_of_trod Tryz.underlying24 cellsAd g0
  obtain ⟨m0, h0⟩ := ad_of l0 hl0
  obtain ⟨k1, hk1, _, wf1⟩ := DataW.trod_int Tryz.underlying3 g1
  have sl : cs.drop 4 = (cs.drop 4).take 1 := (List.take_of_length_le (by rw [List.length_drop]; omega)).symm
  have s : ∀ a b, cs.drop a = (cs.drop a).take b ++ cs.drop (a + b) := fun a b => by rw [← List.drop_drop]; exact (List.take_append_drop b _).symm
  have e : cs = (cs.drop 0).take 4 ++ ((cs.drop 4).take 1) := (s 0 4).trans (congrArg (_ ++ ·) (sl))
  have e2 : cs = bv m0.bytes ++ ([.int .i64 k1]) := by
    rw [e]
    exact congr (congrArg _ (hc0.trans h0)) (hk1)
  exact ⟨m0, k1, e2⟩
set_option maxRecDepth 100000 in
theorem fx_cells {fuel : Nat} {cs : List Value} {y : DataW H × List MemPlace} (h : DataW.trod enc Tryz.prog W 0 (fun _ => true) true fuel 73 cs = some y) (hcl : cs.length = 10) : ∃ f : Fx, cs = (fxC f).toList := by
  obtain ⟨xs, m, _, _, _, hlen, hg⟩ := DataW.trod_struct Tryz.underlying73 h
  have g0 := hg 0 _ rfl
  have g1 := hg 1 _ rfl
  change DataW.trod enc Tryz.prog W 0 (fun _ => true) true m 28 ((cs.drop 0).take (Tryz.prog.cellsOf 28)) = _ at g0
  change DataW.trod enc Tryz.prog W 0 (fun _ => true) true m 24 ((cs.drop 6).take (Tryz.prog.cellsOf 24)) = _ at g1
  have hl : xs.length = 2 := hlen
  rw [List.getElem?_eq_getElem (show 0 < xs.length by omega), cellsMac] at g0
  rw [List.getElem?_eq_getElem (show 1 < xs.length by omega), cellsAd] at g1
  obtain ⟨l0, hl0, hc0⟩ := bytes_of_trod Tryz.underlying28 cellsMac g0
  obtain ⟨m0, h0⟩ := mac_of l0 hl0
  obtain ⟨l1, hl1, hc1⟩ := bytes_of_trod Tryz.underlying24 cellsAd g1
  obtain ⟨m1, h1⟩ := ad_of l1 hl1
  have sl : cs.drop 6 = (cs.drop 6).take 4 := (List.take_of_length_le (by rw [List.length_drop]; omega)).symm
  have s : ∀ a b, cs.drop a = (cs.drop a).take b ++ cs.drop (a + b) := fun a b => by rw [← List.drop_drop]; exact (List.take_append_drop b _).symm
  have e : cs = (cs.drop 0).take 6 ++ ((cs.drop 6).take 4) := (s 0 6).trans (congrArg (_ ++ ·) (sl))
  have e2 : cs = bv m0.bytes ++ (bv m1.bytes) := by
    rw [e]
    exact congr (congrArg _ (hc0.trans h0)) ((hc1.trans h1))
  exact ⟨⟨m0, m1⟩, e2⟩
set_option maxRecDepth 100000 in
theorem op_cells {fuel : Nat} {cs : List Value} {y : DataW H × List MemPlace} (h : DataW.trod enc Tryz.prog W 0 (fun _ => true) true fuel 48 cs = some y) (hcl : cs.length = 7) : ∃ f : Opn, cs = (opC f).toList ∧ wfOp f := by
  obtain ⟨xs, m, _, _, _, hlen, hg⟩ := DataW.trod_struct Tryz.underlying48 h
  have g0 := hg 0 _ rfl
  have g1 := hg 1 _ rfl
  have g2 := hg 2 _ rfl
  have g3 := hg 3 _ rfl
  change DataW.trod enc Tryz.prog W 0 (fun _ => true) true m 3 ((cs.drop 0).take (Tryz.prog.cellsOf 3)) = _ at g0
  change DataW.trod enc Tryz.prog W 0 (fun _ => true) true m 3 ((cs.drop 1).take (Tryz.prog.cellsOf 3)) = _ at g1
  change DataW.trod enc Tryz.prog W 0 (fun _ => true) true m 24 ((cs.drop 2).take (Tryz.prog.cellsOf 24)) = _ at g2
  change DataW.trod enc Tryz.prog W 0 (fun _ => true) true m 3 ((cs.drop 6).take (Tryz.prog.cellsOf 3)) = _ at g3
  have hl : xs.length = 4 := hlen
  rw [List.getElem?_eq_getElem (show 0 < xs.length by omega), cellsInt] at g0
  rw [List.getElem?_eq_getElem (show 1 < xs.length by omega), cellsInt] at g1
  rw [List.getElem?_eq_getElem (show 2 < xs.length by omega), cellsAd] at g2
  rw [List.getElem?_eq_getElem (show 3 < xs.length by omega), cellsInt] at g3
  obtain ⟨k0, hk0, _, wf0⟩ := DataW.trod_int Tryz.underlying3 g0
  obtain ⟨k1, hk1, _, wf1⟩ := DataW.trod_int Tryz.underlying3 g1
  obtain ⟨l2, hl2, hc2⟩ := bytes_of_trod Tryz.underlying24 cellsAd g2
  obtain ⟨m2, h2⟩ := ad_of l2 hl2
  obtain ⟨k3, hk3, _, wf3⟩ := DataW.trod_int Tryz.underlying3 g3
  have sl : cs.drop 6 = (cs.drop 6).take 1 := (List.take_of_length_le (by rw [List.length_drop]; omega)).symm
  have s : ∀ a b, cs.drop a = (cs.drop a).take b ++ cs.drop (a + b) := fun a b => by rw [← List.drop_drop]; exact (List.take_append_drop b _).symm
  have e : cs = (cs.drop 0).take 1 ++ ((cs.drop 1).take 1 ++ ((cs.drop 2).take 4 ++ ((cs.drop 6).take 1))) := (s 0 1).trans (congrArg (_ ++ ·) ((s 1 1).trans (congrArg (_ ++ ·) ((s 2 4).trans (congrArg (_ ++ ·) (sl))))))
  have e2 : cs = [.int .i64 k0] ++ ([.int .i64 k1] ++ (bv m2.bytes ++ ([.int .i64 k3]))) := by
    rw [e]
    exact congr (congrArg _ hk0) (congr (congrArg _ hk1) (congr (congrArg _ (hc2.trans h2)) (hk3)))
  exact ⟨⟨k0, k1, m2, k3⟩, e2, wf0, wf1⟩
set_option maxRecDepth 100000 in
theorem open_fxs_at {fuel : Nat} {cs : List Value} {y : DataW H × List MemPlace} (hf : DataW.trod enc Tryz.prog W 0 (fun _ => true) true fuel 29 cs = some y) :
    ∃ (A : Option Addr) (n k : Nat) (l : List Fx), cs = [.slice A n k] ∧ n = l.length ∧ n ≤ k ∧ k ≤ maxLen ∧ Row W W.heap.size A (fxL l) := by
  rcases Deep.open_slice Tryz.underlying29 hf with ⟨hcs, _⟩ | ⟨x, len, cap, m, n, D, Pl, hcs, _, hl, hm, hmm, _, hcell⟩
  · exact ⟨none, 0, 0, [], hcs, rfl, Nat.le_refl _, by simp [maxLen], .inl rfl⟩
  · have hml : len ≤ m := by rw [hmm]; simp; omega
    have each : ∀ i, i < len → ∃ f : Fx, (∀ j v, (fxC f).toList[j]? = some v → W.cell? ((x.add (i * 10)).add j) = some v) := by
      intro i hi
      obtain ⟨cs', h1, h2⟩ := hcell i (by omega)
      rw [cellsFx] at h1
      obtain ⟨_, hlen, hcl⟩ := World.cells?_some h1
      obtain ⟨f, rfl⟩ := fx_cells h2 hlen
      refine ⟨f, fun j v hj => ?_⟩
      have hjl : j < 10 := by rw [← hlen]; exact (List.getElem?_eq_some_iff.1 hj).1
      rw [hcl j hjl, hj]
    obtain ⟨f, hfn⟩ : ∃ f : Nat → Fx, ∀ i, i < len → (∀ j v, (fxC (f i)).toList[j]? = some v → W.cell? ((x.add (i * 10)).add j) = some v) := ⟨fun i => if h : i < len then (each i h).choose else default, fun i hi => by simp only [hi, dif_pos]; exact (each i hi).choose_spec⟩
    refine ⟨some x, len, cap, (List.range len).map f, hcs, by simp, hl, hm, ?_⟩
    · by_cases h0 : len = 0
      · exact .inl (by simp [h0, fxL])
      · have hx := (hfn 0 (by omega)) 0 _ rfl
        have hspot : x.spot = none := by
          rcases hxs : x.spot with _ | s
          · rfl
          · simp [Addr.add, World.cell?, hxs] at hx
            split at hx <;> simp at hx
        obtain ⟨b, o, s⟩ := x
        simp only at hspot
        subst hspot
        refine .inr ⟨b, o, rfl, ?_, fun j u hu => ?_⟩
        · have := World.block_lt_of_cell? W _ hx
          simpa [Addr.add] using this
        · have hjl : j < len * 10 := by have h := (List.getElem?_eq_some_iff.1 hu).1; rw [fxL_length] at h; simpa using h
          have hi : j / 10 < len := by omega
          have hg := fxL_get ((List.range len).map f) (j / 10) (f (j / 10)) (j % 10) (by simp [hi]) (by omega)
          rw [show j / 10 * 10 + j % 10 = j by omega, hu] at hg
          have h2 := (hfn (j / 10) hi) (j % 10) u (by rw [Array.getElem?_toList]; exact hg.symm)
          have e : (((⟨b, o, none⟩ : Addr).add (j / 10 * 10)).add (j % 10)) = ⟨b, o + j, none⟩ := by rw [Addr.add_lit, Addr.add_lit, show o + j / 10 * 10 + j % 10 = o + j by omega]
          rwa [e] at h2
set_option maxRecDepth 100000 in
theorem open_opns_at {fuel : Nat} {cs : List Value} {y : DataW H × List MemPlace} (hf : DataW.trod enc Tryz.prog W 0 (fun _ => true) true fuel 30 cs = some y) :
    ∃ (A : Option Addr) (n k : Nat) (l : List Opn), cs = [.slice A n k] ∧ n = l.length ∧ n ≤ k ∧ k ≤ maxLen ∧ Row W W.heap.size A (opL l) ∧ ∀ f ∈ l, wfOp f := by
  rcases Deep.open_slice Tryz.underlying30 hf with ⟨hcs, _⟩ | ⟨x, len, cap, m, n, D, Pl, hcs, _, hl, hm, hmm, _, hcell⟩
  · exact ⟨none, 0, 0, [], hcs, rfl, Nat.le_refl _, by simp [maxLen], .inl rfl, fun _ h => by cases h⟩
  · have hml : len ≤ m := by rw [hmm]; simp; omega
    have each : ∀ i, i < len → ∃ f : Opn, (∀ j v, (opC f).toList[j]? = some v → W.cell? ((x.add (i * 7)).add j) = some v) ∧ wfOp f := by
      intro i hi
      obtain ⟨cs', h1, h2⟩ := hcell i (by omega)
      rw [cellsOpn] at h1
      obtain ⟨_, hlen, hcl⟩ := World.cells?_some h1
      obtain ⟨f, rfl, hw⟩ := op_cells h2 hlen
      refine ⟨f, fun j v hj => ?_, hw⟩
      have hjl : j < 7 := by rw [← hlen]; exact (List.getElem?_eq_some_iff.1 hj).1
      rw [hcl j hjl, hj]
    obtain ⟨f, hfn⟩ : ∃ f : Nat → Opn, ∀ i, i < len → (∀ j v, (opC (f i)).toList[j]? = some v → W.cell? ((x.add (i * 7)).add j) = some v) ∧ wfOp (f i) := ⟨fun i => if h : i < len then (each i h).choose else default, fun i hi => by simp only [hi, dif_pos]; exact (each i hi).choose_spec⟩
    refine ⟨some x, len, cap, (List.range len).map f, hcs, by simp, hl, hm, ?_, ?_⟩
    · by_cases h0 : len = 0
      · exact .inl (by simp [h0, opL])
      · have hx := (hfn 0 (by omega)).1 0 _ rfl
        have hspot : x.spot = none := by
          rcases hxs : x.spot with _ | s
          · rfl
          · simp [Addr.add, World.cell?, hxs] at hx
            split at hx <;> simp at hx
        obtain ⟨b, o, s⟩ := x
        simp only at hspot
        subst hspot
        refine .inr ⟨b, o, rfl, ?_, fun j u hu => ?_⟩
        · have := World.block_lt_of_cell? W _ hx
          simpa [Addr.add] using this
        · have hjl : j < len * 7 := by have h := (List.getElem?_eq_some_iff.1 hu).1; rw [opL_length] at h; simpa using h
          have hi : j / 7 < len := by omega
          have hg := opL_get ((List.range len).map f) (j / 7) (f (j / 7)) (j % 7) (by simp [hi]) (by omega)
          rw [show j / 7 * 7 + j % 7 = j by omega, hu] at hg
          have h2 := (hfn (j / 7) hi).1 (j % 7) u (by rw [Array.getElem?_toList]; exact hg.symm)
          have e : (((⟨b, o, none⟩ : Addr).add (j / 7 * 7)).add (j % 7)) = ⟨b, o + j, none⟩ := by rw [Addr.add_lit, Addr.add_lit, show o + j / 7 * 7 + j % 7 = o + j by omega]
          rwa [e] at h2
    · intro o ho
      obtain ⟨i, hi, rfl⟩ := List.mem_map.1 ho
      exact (hfn i (List.mem_range.1 hi)).2
end
/-- What a configuration that came in reads as. -/
structure CI (W : World) (lf : List Fx) (lo : List Opn) (A : Option Addr) (n k : Nat) (A2 : Option Addr) (n2 k2 : Nat) : Prop where
  nf : n = lf.length
  no : n2 = lo.length
  rf : Row W W.heap.size A (fxL lf)
  ro : Row W W.heap.size A2 (opL lo)
  kf : n ≤ maxLen
  ko : n2 ≤ maxLen
  wf : ∀ o ∈ lo, wfOp o
set_option maxRecDepth 100000 in
set_option maxHeartbeats 2000000 in
theorem open_conf {H : Type} {enc : TypeId × Value → H} {W : World} {base : Nat} {v : Value} {d : DataW H} {p : List MemPlace}
    (hv : Value.okWide Tryz.prog W .any base 32 v) (h : DataW.Trod enc Tryz.prog W 0 (fun _ => true) true 32 v d p) :
    ∃ c lf lo A n k A2 n2 k2, v = .agg (cfC c (.slice A n k) (.slice A2 n2 k2)) ∧ CI W lf lo A n k A2 n2 k2 := by
  obtain ⟨cs, rfl, hsz⟩ := okWide_struct Tryz.underlying32 hv
  obtain ⟨fuel, h⟩ := h
  rw [cellsConf] at hsz
  obtain ⟨cl⟩ := cs
  have hcl : cl.length = 40 := hsz
  have h : DataW.trod enc Tryz.prog W 0 (fun _ => true) true fuel 32 cl = some (d, p) := h
  obtain ⟨xs, m, _, _, _, hlen, hg⟩ := DataW.trod_struct Tryz.underlying32 h
  have g0 := hg 0 _ rfl
  have g1 := hg 1 _ rfl
  have g2 := hg 2 _ rfl
  have g3 := hg 3 _ rfl
  have g4 := hg 4 _ rfl
  have g5 := hg 5 _ rfl
  have g6 := hg 6 _ rfl
  have g7 := hg 7 _ rfl
  have g8 := hg 8 _ rfl
  have g9 := hg 9 _ rfl
  have g10 := hg 10 _ rfl
  have g11 := hg 11 _ rfl
  have g12 := hg 12 _ rfl
  have g13 := hg 13 _ rfl
  change DataW.trod enc Tryz.prog W 0 (fun _ => true) true m 24 ((cl.drop 0).take (Tryz.prog.cellsOf 24)) = _ at g0
  change DataW.trod enc Tryz.prog W 0 (fun _ => true) true m 26 ((cl.drop 4).take (Tryz.prog.cellsOf 26)) = _ at g1
  change DataW.trod enc Tryz.prog W 0 (fun _ => true) true m 28 ((cl.drop 9).take (Tryz.prog.cellsOf 28)) = _ at g2
  change DataW.trod enc Tryz.prog W 0 (fun _ => true) true m 28 ((cl.drop 15).take (Tryz.prog.cellsOf 28)) = _ at g3
  change DataW.trod enc Tryz.prog W 0 (fun _ => true) true m 24 ((cl.drop 21).take (Tryz.prog.cellsOf 24)) = _ at g4
  change DataW.trod enc Tryz.prog W 0 (fun _ => true) true m 24 ((cl.drop 25).take (Tryz.prog.cellsOf 24)) = _ at g5
  change DataW.trod enc Tryz.prog W 0 (fun _ => true) true m 3 ((cl.drop 29).take (Tryz.prog.cellsOf 3)) = _ at g6
  change DataW.trod enc Tryz.prog W 0 (fun _ => true) true m 24 ((cl.drop 30).take (Tryz.prog.cellsOf 24)) = _ at g7
  change DataW.trod enc Tryz.prog W 0 (fun _ => true) true m 3 ((cl.drop 34).take (Tryz.prog.cellsOf 3)) = _ at g8
  change DataW.trod enc Tryz.prog W 0 (fun _ => true) true m 3 ((cl.drop 35).take (Tryz.prog.cellsOf 3)) = _ at g9
  change DataW.trod enc Tryz.prog W 0 (fun _ => true) true m 3 ((cl.drop 36).take (Tryz.prog.cellsOf 3)) = _ at g10
  change DataW.trod enc Tryz.prog W 0 (fun _ => true) true m 3 ((cl.drop 37).take (Tryz.prog.cellsOf 3)) = _ at g11
  change DataW.trod enc Tryz.prog W 0 (fun _ => true) true m 29 ((cl.drop 38).take (Tryz.prog.cellsOf 29)) = _ at g12
  change DataW.trod enc Tryz.prog W 0 (fun _ => true) true m 30 ((cl.drop 39).take (Tryz.prog.cellsOf 30)) = _ at g13
  have hl : xs.length = 14 := hlen
  rw [List.getElem?_eq_getElem (show 0 < xs.length by omega), cellsAd] at g0
  rw [List.getElem?_eq_getElem (show 1 < xs.length by omega), cellsNet] at g1
  rw [List.getElem?_eq_getElem (show 2 < xs.length by omega), cellsMac] at g2
  rw [List.getElem?_eq_getElem (show 3 < xs.length by omega), cellsMac] at g3
  rw [List.getElem?_eq_getElem (show 4 < xs.length by omega), cellsAd] at g4
  rw [List.getElem?_eq_getElem (show 5 < xs.length by omega), cellsAd] at g5
  rw [List.getElem?_eq_getElem (show 6 < xs.length by omega), cellsInt] at g6
  rw [List.getElem?_eq_getElem (show 7 < xs.length by omega), cellsAd] at g7
  rw [List.getElem?_eq_getElem (show 8 < xs.length by omega), cellsInt] at g8
  rw [List.getElem?_eq_getElem (show 9 < xs.length by omega), cellsInt] at g9
  rw [List.getElem?_eq_getElem (show 10 < xs.length by omega), cellsInt] at g10
  rw [List.getElem?_eq_getElem (show 11 < xs.length by omega), cellsInt] at g11
  rw [List.getElem?_eq_getElem (show 12 < xs.length by omega), cellsFxs] at g12
  rw [List.getElem?_eq_getElem (show 13 < xs.length by omega), cellsOpns] at g13
  obtain ⟨l0, hl0, hc0⟩ := bytes_of_trod Tryz.underlying24 cellsAd g0
  obtain ⟨m0, h0⟩ := ad_of l0 hl0
  obtain ⟨m1, k1, hk1⟩ := net_cells g1 (by rw [List.length_take, List.length_drop]; omega)
  obtain ⟨l2, hl2, hc2⟩ := bytes_of_trod Tryz.underlying28 cellsMac g2
  obtain ⟨m2, h2⟩ := mac_of l2 hl2
  obtain ⟨l3, hl3, hc3⟩ := bytes_of_trod Tryz.underlying28 cellsMac g3
  obtain ⟨m3, h3⟩ := mac_of l3 hl3
  obtain ⟨l4, hl4, hc4⟩ := bytes_of_trod Tryz.underlying24 cellsAd g4
  obtain ⟨m4, h4⟩ := ad_of l4 hl4
  obtain ⟨l5, hl5, hc5⟩ := bytes_of_trod Tryz.underlying24 cellsAd g5
  obtain ⟨m5, h5⟩ := ad_of l5 hl5
  obtain ⟨k6, hk6, _, wf6⟩ := DataW.trod_int Tryz.underlying3 g6
  obtain ⟨l7, hl7, hc7⟩ := bytes_of_trod Tryz.underlying24 cellsAd g7
  obtain ⟨m7, h7⟩ := ad_of l7 hl7
  obtain ⟨k8, hk8, _, wf8⟩ := DataW.trod_int Tryz.underlying3 g8
  obtain ⟨k9, hk9, _, wf9⟩ := DataW.trod_int Tryz.underlying3 g9
  obtain ⟨k10, hk10, _, wf10⟩ := DataW.trod_int Tryz.underlying3 g10
  obtain ⟨k11, hk11, _, wf11⟩ := DataW.trod_int Tryz.underlying3 g11
  obtain ⟨A, n, k, lf, hs12, hn, hnk, hkm, hrow⟩ := open_fxs_at g12
  obtain ⟨A2, n2, k2, lo, hs13, hn2, hnk2, hkm2, hrow2, hwf⟩ := open_opns_at g13
  have sl : cl.drop 39 = (cl.drop 39).take 1 := (List.take_of_length_le (by rw [List.length_drop]; omega)).symm
  have s : ∀ a b, cl.drop a = (cl.drop a).take b ++ cl.drop (a + b) := fun a b => by rw [← List.drop_drop]; exact (List.take_append_drop b _).symm
  have e : cl = (cl.drop 0).take 4 ++ ((cl.drop 4).take 5 ++ ((cl.drop 9).take 6 ++ ((cl.drop 15).take 6 ++ ((cl.drop 21).take 4 ++ ((cl.drop 25).take 4 ++ ((cl.drop 29).take 1 ++ ((cl.drop 30).take 4 ++ ((cl.drop 34).take 1 ++ ((cl.drop 35).take 1 ++ ((cl.drop 36).take 1 ++ ((cl.drop 37).take 1 ++ ((cl.drop 38).take 1 ++ ((cl.drop 39).take 1))))))))))))) := (s 0 4).trans (congrArg (_ ++ ·) ((s 4 5).trans (congrArg (_ ++ ·) ((s 9 6).trans (congrArg (_ ++ ·) ((s 15 6).trans (congrArg (_ ++ ·) ((s 21 4).trans (congrArg (_ ++ ·) ((s 25 4).trans (congrArg (_ ++ ·) ((s 29 1).trans (congrArg (_ ++ ·) ((s 30 4).trans (congrArg (_ ++ ·) ((s 34 1).trans (congrArg (_ ++ ·) ((s 35 1).trans (congrArg (_ ++ ·) ((s 36 1).trans (congrArg (_ ++ ·) ((s 37 1).trans (congrArg (_ ++ ·) ((s 38 1).trans (congrArg (_ ++ ·) (sl))))))))))))))))))))))))))
  have e2 : cl = bv m0.bytes ++ ((bv m1.bytes ++ [.int .i64 k1]) ++ (bv m2.bytes ++ (bv m3.bytes ++ (bv m4.bytes ++ (bv m5.bytes ++ ([.int .i64 k6] ++ (bv m7.bytes ++ ([.int .i64 k8] ++ ([.int .i64 k9] ++ ([.int .i64 k10] ++ ([.int .i64 k11] ++ ([.slice A n k] ++ ([.slice A2 n2 k2]))))))))))))) := by
    rw [e]
    exact congr (congrArg _ (hc0.trans h0)) (congr (congrArg _ hk1) (congr (congrArg _ (hc2.trans h2)) (congr (congrArg _ (hc3.trans h3)) (congr (congrArg _ (hc4.trans h4)) (congr (congrArg _ (hc5.trans h5)) (congr (congrArg _ hk6) (congr (congrArg _ (hc7.trans h7)) (congr (congrArg _ hk8) (congr (congrArg _ hk9) (congr (congrArg _ hk10) (congr (congrArg _ hk11) (congr (congrArg _ hs12) (hs13)))))))))))))
  refine ⟨⟨m0, m1, k1, m2, m3, m4, m5, k6, m7, k8, k9, k10, k11⟩, lf, lo, A, n, k, A2, n2, k2, ?_, ⟨hn, hn2, hrow, hrow2, by omega, by omega, hwf⟩⟩
  rw [e2]
  rfl
end Go.Proofs.YtnmdiageigbphaaGreatDoor
