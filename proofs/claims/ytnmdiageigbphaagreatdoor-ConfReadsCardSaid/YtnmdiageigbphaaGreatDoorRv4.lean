/-
  The reference's value, of every known name.
-/
import Derived.Test.YtnmdiageigbphaaGreatDoorRv3
namespace Go.Proofs.YtnmdiageigbphaaGreatDoor
open Go.RowKit

/-- The reference's configuration at block g. -/
def RC (w : World) (H g : Nat) (C : Cg) : Prop := ∃ A n k A2 n2 k2, RCB w g C.c (.slice A n k) (.slice A2 n2 k2) ∧ RFO w H A n k C.lf ∧ RPO w H A2 n2 k2 C.lo
def RvG (w : World) (H g : Nat) (C : Cg) (nm : List UInt8) (r : Option (List Vl)) (e : Ending) (w' : World) : Prop :=
  e = .returned (.bool r.isSome) ∧ (∀ vs, r = some vs → RC w' H g (setG C nm vs)) ∧ Ext (fun j => j = g) w w'
theorem rvg_of {w w' : World} {H g : Nat} {C : Cg} {nm : List UInt8} {r : Option (List Vl)} {A A2 : Option Addr} {n k n2 k2 : Nat} {e : Ending} (P : RCB w g C.c (.slice A n k) (.slice A2 n2 k2)) (F : RFO w H A n k C.lf) (O : RPO w H A2 n2 k2 C.lo)
    {c' : Cf} {b : Bool} (hb : b = r.isSome) (hs : ∀ vs, r = some vs → setG C nm vs = ⟨c', C.lf, C.lo⟩) (h : RvP w g c' (.slice A n k) (.slice A2 n2 k2) b e w') : RvG w H g C nm r e w' := by
  refine ⟨by rw [h.1, hb], fun vs hv => ?_, h.2.2⟩
  rw [hs vs hv]
  have h1 := own_ne_b F P (by decide)
  have h2 := own_ne_b O P (by decide)
  exact ⟨A, n, k, A2, n2, k2, h.2.1, F.ext h.2.2 (fun j hj e => h1 (by rw [hj, e])), O.ext h.2.2 (fun j hj e => h2 (by rw [hj, e]))⟩
theorem val_a {nm v : List UInt8} (h : nm = nFirst ∨ nm = nLast ∨ nm = nDns) : refVal nm v = (valA v).map ([·]) := by
  rcases h with rfl | rfl | rfl
  all_goals rw [refVal, if_neg (by decide), if_neg (by decide), if_pos (by decide)]
theorem val_m {nm v : List UInt8} (h : nm = nLanmac ∨ nm = nWanmac) : refVal nm v = (valM v).map ([·]) := by
  rcases h with rfl | rfl
  all_goals rw [refVal, if_neg (by decide), if_pos (by decide)]
theorem val_n {nm v : List UInt8} (h : nm = nTime ∨ nm = nUdp ∨ nm = nTcp ∨ nm = nIcmp ∨ nm = nLow) : refVal nm v = (valN v).map ([·]) := by
  rcases h with rfl | rfl | rfl | rfl | rfl
  all_goals rw [refVal, if_neg (by decide), if_neg (by decide), if_neg (by decide), if_neg (by decide), if_neg (by decide), if_pos (by decide)]
theorem val_a_some (v : List UInt8) : decide ((parseV v).2 = 0) = ((valA v).map (fun x => [x])).isSome ∧ ∀ vs, (valA v).map (fun x => [x]) = some vs → vs = [.a (parseV v).1] := by
  unfold valA
  by_cases h : (parseV v).2 = 0
  · rw [if_pos h, decide_eq_true h]; exact ⟨rfl, fun vs e => by injection e with e; exact e.symm⟩
  · rw [if_neg h, decide_eq_false h]; exact ⟨rfl, fun vs e => by cases e⟩
theorem val_m_some (v : List UInt8) : decide ((parseMV v).2 = 0) = ((valM v).map (fun x => [x])).isSome ∧ ∀ vs, (valM v).map (fun x => [x]) = some vs → vs = [.m (parseMV v).1] := by
  unfold valM
  by_cases h : (parseMV v).2 = 0
  · rw [if_pos h, decide_eq_true h]; exact ⟨rfl, fun vs e => by injection e with e; exact e.symm⟩
  · rw [if_neg h, decide_eq_false h]; exact ⟨rfl, fun vs e => by cases e⟩
theorem num_two (v : List UInt8) : (∃ k : Nat, numC v = some k ∧ refG v mostN = k) ∨ (numC v = none ∧ refG v mostN = -1) := by
  have h := refG_num v
  rcases hn : numC v with _ | k
  · rw [hn] at h; exact .inr ⟨rfl, h⟩
  · rw [hn] at h; exact .inl ⟨k, rfl, h⟩
theorem val_n_some (v : List UInt8) : decide (0 ≤ refG v mostN) = ((valN v).map (fun x => [x])).isSome ∧ ∀ vs, (valN v).map (fun x => [x]) = some vs → ∃ k : Nat, vs = [.n k] ∧ refG v mostN = k := by
  unfold valN
  rcases num_two v with ⟨k, h1, h2⟩ | ⟨h1, h2⟩
  · rw [h1, h2, decide_eq_true (by omega)]; exact ⟨rfl, fun vs e => by injection e with e; exact ⟨k, e.symm, rfl⟩⟩
  · rw [h1, h2, decide_eq_false (by omega)]; exact ⟨rfl, fun vs e => by cases e⟩
theorem two_of {L : List (List UInt8)} (h : L.length = 2) : L = [L.getD 0 [], L.getD 1 []] := by
  match L, h with
  | [_, _], _ => rfl
theorem four_of {L : List (List UInt8)} (h : L.length = 4) : L = [L.getD 0 [], L.getD 1 [], L.getD 2 [], L.getD 3 []] := by
  match L, h with
  | [_, _, _, _], _ => rfl
theorem vals_fixed (p q : List UInt8) : (decide ((parseMV p).2 = 0) && decide ((parseV q).2 = 0)) = (valsGo [109, 97] [p, q]).isSome ∧ ∀ vs, valsGo [109, 97] [p, q] = some vs → vs = [.m (parseMV p).1, .a (parseV q).1] := by
  rw [valsGo, show valK 109 p = valM p from rfl, valM]
  by_cases h : (parseMV p).2 = 0
  · rw [if_pos h, decide_eq_true h, valsGo, show valK 97 q = valA q from rfl, valA]
    by_cases h2 : (parseV q).2 = 0
    · rw [if_pos h2, decide_eq_true h2]; exact ⟨rfl, fun vs e => by injection e with e; exact e.symm⟩
    · rw [if_neg h2, decide_eq_false h2]; exact ⟨rfl, fun vs e => by cases e⟩
  · rw [if_neg h, decide_eq_false h]; exact ⟨rfl, fun vs e => by cases e⟩
theorem vals_open {p0 : List UInt8} {pr : Nat} (hp : valP p0 = some (.n pr)) (p q r : List UInt8) : (decide ((parseV q).2 = 0) && decide (0 ≤ refG p mostN) && decide (0 ≤ refG r mostN)) = (valsGo [112, 110, 97, 110] [p0, p, q, r]).isSome ∧
    ∀ vs, valsGo [112, 110, 97, 110] [p0, p, q, r] = some vs → ∃ po tp : Nat, vs = [.n pr, .n po, .a (parseV q).1, .n tp] ∧ refG p mostN = po ∧ refG r mostN = tp := by
  rw [valsGo, show valK 112 p0 = valP p0 from rfl, hp, valsGo, show valK 110 p = valN p from rfl, valN]
  rcases num_two p with ⟨k, h1, h2⟩ | ⟨h1, h2⟩
  · rw [h1, h2, decide_eq_true (show (0 : Int) ≤ k by omega), valsGo, show valK 97 q = valA q from rfl, valA]
    by_cases h3 : (parseV q).2 = 0
    · rw [if_pos h3, decide_eq_true h3, valsGo, show valK 110 r = valN r from rfl, valN]
      rcases num_two r with ⟨l, h4, h5⟩ | ⟨h4, h5⟩
      · rw [h4, h5, decide_eq_true (show (0 : Int) ≤ l by omega)]; exact ⟨rfl, fun vs e => by injection e with e; exact ⟨k, l, e.symm, rfl, rfl⟩⟩
      · rw [h4, h5, decide_eq_false (by omega)]; exact ⟨rfl, fun vs e => by cases e⟩
    · rw [if_neg h3, decide_eq_false h3]; exact ⟨rfl, fun vs e => by cases e⟩
  · rw [h1, h2, decide_eq_false (show ¬ (0 : Int) ≤ -1 by omega), Bool.and_false]; exact ⟨rfl, fun vs e => by cases e⟩
theorem vals_open_no {p0 : List UInt8} (hp : valP p0 = none) (ks : List UInt8) (r : List (List UInt8)) : valsGo (112 :: ks) (p0 :: r) = none := by
  rw [valsGo, show valK 112 p0 = valP p0 from rfl, hp]
theorem known_is {nm : List UInt8} (h : knownB nm = true) : nm = nLan ∨ (nm = nLanmac ∨ nm = nWanmac) ∨ (nm = nFirst ∨ nm = nLast ∨ nm = nDns) ∨ nm = nFixed ∨ nm = nOpen ∨ (nm = nTime ∨ nm = nUdp ∨ nm = nTcp ∨ nm = nIcmp ∨ nm = nLow) := by
  rw [knownB, Bool.or_eq_true, decide_eq_true_eq, decide_eq_true_eq] at h
  rcases h with h | h
  · simp only [namesL, List.mem_cons, List.not_mem_nil, or_false] at h
    rcases h with h | h | h | h | h | h | h | h
    · exact .inl h
    · exact .inr (.inl (.inl h))
    · exact .inr (.inl (.inr h))
    · exact .inr (.inr (.inl (.inl h)))
    · exact .inr (.inr (.inl (.inr (.inl h))))
    · exact .inr (.inr (.inl (.inr (.inr h))))
    · exact .inr (.inr (.inr (.inl h)))
    · exact .inr (.inr (.inr (.inr (.inl h))))
  · exact .inr (.inr (.inr (.inr (.inr ((ix_kinds nm).1 h)))))
theorem rvalue_any (w : World) (H g : Nat) (hH : H ≤ w.heap.size) (C : Cg) (R : RC w H g C) (hlf : C.lf.length ≤ 100000) (hlo : C.lo.length ≤ 100000) (nm v : List UInt8) (hk : knownB nm = true) (hl : v.length ≤ 20000) :
    Calls Tryz.prog 24 #[.pointer (some ⟨g, 0, none⟩), .string (str nm), .string (str v)] w (RvG w H g C nm (refVal nm v)) := by
  obtain ⟨A, n, k, A2, n2, k2, P, F, O⟩ := R
  rcases known_is hk with rfl | h | h | rfl | rfl | h
  · have hv : refVal nLan v = (rLan v).map ([·]) := by rw [refVal, if_pos rfl]
    rw [hv]
    by_cases h2 : (cutB 47 v).length = 2
    · refine (rval_lan w g C.c _ _ P v hl h2).mono fun e w' h => rvg_of P F O ?_ ?_ h
      all_goals rw [rLan]
      all_goals rcases num_two ((cutB 47 v).getD 1 []) with ⟨k, h3, h4⟩ | ⟨h3, h4⟩
      all_goals by_cases h5 : (parseV ((cutB 47 v).getD 0 [])).2 = 0
      all_goals rw [h3]
      all_goals try rw [h4]
      · rw [if_pos ⟨h2, h5, rfl⟩, decide_eq_true h5, decide_eq_true (by omega)]; rfl
      · rw [if_neg (fun h => h5 h.2.1), decide_eq_false h5]; rfl
      · rw [if_neg (fun h => by cases h.2.2), decide_eq_false (show ¬ (0 : Int) ≤ -1 by omega), Bool.and_false]; rfl
      · rw [if_neg (fun h => by cases h.2.2), decide_eq_false h5]; rfl
      · rw [if_pos ⟨h2, h5, rfl⟩]
        intro vs e
        injection e with e
        subst e
        rfl
      · rw [if_neg (fun h => h5 h.2.1)]; intro vs e; cases e
      · rw [if_neg (fun h => by cases h.2.2)]; intro vs e; cases e
      · rw [if_neg (fun h => by cases h.2.2)]; intro vs e; cases e
    · refine (rval_lan_no w g C.c _ _ P v hl h2).mono fun e w' h => rvg_of P F O ?_ ?_ h
      all_goals rw [rLan, if_neg (fun h => h2 h.1)]
      · rfl
      · intro vs e; cases e
  · rw [val_m h]
    have hs := val_m_some v
    rcases h with rfl | rfl
    · exact (rval_lanmac w g C.c _ _ P v hl).mono fun e w' h => rvg_of P F O hs.1 (fun vs e => by rw [hs.2 vs e]; rfl) h
    · exact (rval_wanmac w g C.c _ _ P v hl).mono fun e w' h => rvg_of P F O hs.1 (fun vs e => by rw [hs.2 vs e]; rfl) h
  · rw [val_a h]
    have hs := val_a_some v
    rcases h with rfl | rfl | rfl
    · exact (rval_first w g C.c _ _ P v hl).mono fun e w' h => rvg_of P F O hs.1 (fun vs e => by rw [hs.2 vs e]; rfl) h
    · exact (rval_last w g C.c _ _ P v hl).mono fun e w' h => rvg_of P F O hs.1 (fun vs e => by rw [hs.2 vs e]; rfl) h
    · exact (rval_dns w g C.c _ _ P v hl).mono fun e w' h => rvg_of P F O hs.1 (fun vs e => by rw [hs.2 vs e]; rfl) h
  · have hv : refVal nFixed v = if (words v).length = 2 then valsGo [109, 97] (words v) else none := by rw [refVal, if_neg (by decide), if_neg (by decide), if_neg (by decide), if_pos rfl]
    rw [hv]
    by_cases h2 : (words v).length = 2
    · rw [if_pos h2]
      have h3 := vals_fixed ((words v).getD 0 []) ((words v).getD 1 [])
      rw [← two_of h2] at h3
      refine (rval_fixed w g H hH C.c _ A n k C.lf P F hlf v hl h2).mono fun e w' h => ?_
      obtain ⟨A3, n3, k3, rfl, h4, h5, h6⟩ := h
      refine ⟨by rw [h3.1], fun vs e => ?_, h6⟩
      rw [h3.2 vs e]
      have h7 := own_ne_b O P (by decide)
      exact ⟨A3, n3, k3, A2, n2, k2, h4, h5, O.ext h6 (fun j hj e => h7 (by rw [hj, e]))⟩
    · rw [if_neg h2]
      exact (rval_fixed_no w g C.c _ _ P v hl h2).mono fun e w' h => rvg_of P F O rfl (fun vs e => by cases e) h
  · have hv : refVal nOpen v = if (words v).length = 4 then valsGo [112, 110, 97, 110] (words v) else none := by rw [refVal, if_neg (by decide), if_neg (by decide), if_neg (by decide), if_neg (by decide), if_pos rfl]
    rw [hv]
    by_cases h2 : (words v).length = 4
    · rw [if_pos h2]
      by_cases hu : (words v).getD 0 [] = sUdp
      · have h3 := vals_open (p0 := (words v).getD 0 []) (pr := 17) (by rw [hu]; rfl) ((words v).getD 1 []) ((words v).getD 2 []) ((words v).getD 3 [])
        rw [← four_of h2] at h3
        refine (rval_open_udp w g H hH C.c _ A2 n2 k2 C.lo P O hlo v hl h2 hu).mono fun e w' h => ?_
        obtain ⟨A3, n3, k3, rfl, h4, h5, h6⟩ := h
        refine ⟨by rw [h3.1], fun vs e => ?_, h6⟩
        obtain ⟨po, tp, rfl, e1, e2⟩ := h3.2 vs e
        rw [e1, e2] at h5
        have h7 := own_ne_b F P (by decide)
        exact ⟨A, n, k, A3, n3, k3, h4, F.ext h6 (fun j hj e => h7 (by rw [hj, e])), h5⟩
      · by_cases ht : (words v).getD 0 [] = sTcp
        · have h3 := vals_open (p0 := (words v).getD 0 []) (pr := 6) (by rw [ht]; rfl) ((words v).getD 1 []) ((words v).getD 2 []) ((words v).getD 3 [])
          rw [← four_of h2] at h3
          refine (rval_open_tcp w g H hH C.c _ A2 n2 k2 C.lo P O hlo v hl h2 ht).mono fun e w' h => ?_
          obtain ⟨A3, n3, k3, rfl, h4, h5, h6⟩ := h
          refine ⟨by rw [h3.1], fun vs e => ?_, h6⟩
          obtain ⟨po, tp, rfl, e1, e2⟩ := h3.2 vs e
          rw [e1, e2] at h5
          have h7 := own_ne_b F P (by decide)
          exact ⟨A, n, k, A3, n3, k3, h4, F.ext h6 (fun j hj e => h7 (by rw [hj, e])), h5⟩
        · have h3 : valsGo [112, 110, 97, 110] (words v) = none := by
            rw [four_of h2]
            exact vals_open_no (by rw [valP, if_neg hu, if_neg ht]) _ _
          rw [h3]
          exact (rval_open_no2 w g C.c _ _ P v hl h2 ⟨hu, ht⟩).mono fun e w' h => rvg_of P F O rfl (fun vs e => by cases e) h
    · rw [if_neg h2]
      exact (rval_open_no w g C.c _ _ P v hl h2).mono fun e w' h => rvg_of P F O rfl (fun vs e => by cases e) h
  · rw [val_n h]
    have hs := val_n_some v
    rcases h with rfl | rfl | rfl | rfl | rfl
    · exact (rval_time w g C.c _ _ P v hl).mono fun e w' h => rvg_of P F O hs.1 (fun vs e => by obtain ⟨k, rfl, ek⟩ := hs.2 vs e; rw [ek]; rfl) h
    · exact (rval_udp w g C.c _ _ P v hl).mono fun e w' h => rvg_of P F O hs.1 (fun vs e => by obtain ⟨k, rfl, ek⟩ := hs.2 vs e; rw [ek]; rfl) h
    · exact (rval_tcp w g C.c _ _ P v hl).mono fun e w' h => rvg_of P F O hs.1 (fun vs e => by obtain ⟨k, rfl, ek⟩ := hs.2 vs e; rw [ek]; rfl) h
    · exact (rval_icmp w g C.c _ _ P v hl).mono fun e w' h => rvg_of P F O hs.1 (fun vs e => by obtain ⟨k, rfl, ek⟩ := hs.2 vs e; rw [ek]; rfl) h
    · exact (rval_low w g C.c _ _ P v hl).mono fun e w' h => rvg_of P F O hs.1 (fun vs e => by obtain ⟨k, rfl, ek⟩ := hs.2 vs e; rw [ek]; rfl) h
end Go.Proofs.YtnmdiageigbphaaGreatDoor
