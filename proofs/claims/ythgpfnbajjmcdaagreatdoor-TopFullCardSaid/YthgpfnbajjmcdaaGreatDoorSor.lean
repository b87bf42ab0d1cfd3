/-
  ports.order as a function of its numbers alone: run with codes for what is compared, in each of the nine ways that the two comparisons may end.
-/
import Derived.Test.YthgpfnbajjmcdaaGreatDoorTf0
namespace Go.Proofs.YthgpfnbajjmcdaaGreatDoor.Vw

def mapKs : List IntKind := [.i64, .i64, .u8, .u8, .u8, .u8, .i64, .i64, .i64]
noncomputable def ordB (l1 g1 l2 g2 : Bool) : Int := @Bool.rec (fun _ => Int) (@Bool.rec (fun _ => Int) (@Bool.rec (fun _ => Int) (@Bool.rec (fun _ => Int) (.ofNat 0) (.ofNat 1) g2) (.negSucc 0) l2) (.ofNat 1) g1) (.negSucc 0) l1
noncomputable def ordV (p o p' o' : Nat) : Int := ordB (Nat.ble (Nat.succ p) p') (Nat.ble (Nat.succ p') p) (Nat.ble (Nat.succ o) o') (Nat.ble (Nat.succ o') o)
noncomputable def ordM (a b : Option (List Nat)) : Option Value := match a with
  | some (p :: o :: _) => match b with
    | some (p' :: o' :: _) => some (.int .i64 (ordV p o p' o'))
    | _ => none
  | _ => none
noncomputable def ordA (a b : Value) : Option Value := match a with
  | .agg a => match b with
    | .agg b => ordM (natsK mapKs a.toList) (natsK mapKs b.toList)
    | _ => none
  | _ => none
/-- what it gives -/
noncomputable def ordF (args : List Value) : Option Value := match args with
  | [a, b] => ordA a b
  | _ => none

def ordT (l1 g1 l2 g2 : Bool) : Tab := [⟨BinOp.neq.ctorIdx * 16 + IntKind.i64.ctorIdx, CB + 0, CB + 0, .bool false⟩, ⟨BinOp.neq.ctorIdx * 16 + IntKind.i64.ctorIdx, CB + 1, CB + 1, .bool false⟩,
  ⟨BinOp.neq.ctorIdx * 16 + IntKind.i64.ctorIdx, CB + 9, CB + 9, .bool false⟩, ⟨BinOp.neq.ctorIdx * 16 + IntKind.i64.ctorIdx, CB + 10, CB + 10, .bool false⟩,
  ⟨BinOp.lss.ctorIdx * 16 + IntKind.i64.ctorIdx, CB + 0, CB + 9, .bool l1⟩, ⟨BinOp.gtr.ctorIdx * 16 + IntKind.i64.ctorIdx, CB + 0, CB + 9, .bool g1⟩,
  ⟨BinOp.lss.ctorIdx * 16 + IntKind.i64.ctorIdx, CB + 1, CB + 10, .bool l2⟩, ⟨BinOp.gtr.ctorIdx * 16 + IntKind.i64.ctorIdx, CB + 1, CB + 10, .bool g2⟩]
def ordC : List (Bool × Bool) := [(true, false), (false, true), (false, false)]
noncomputable def ordR (p q : Bool × Bool) : Bool := (callR (envL Tryz.prog EQ1 (ordT p.1 p.2 q.1 q.2) LV0) 20 205 [.agg ⟨kCodes mapKs 0⟩, .agg ⟨kCodes mapKs 9⟩] .e 0 (retI .i64 (ordB p.1 p.2 q.1 q.2))).isSome
set_option maxHeartbeats 16000000 in
theorem ord_runs : (ordC.all fun p => ordC.all fun q => ordR p q) = true := by decide +kernel
theorem ord_run {l1 g1 l2 g2 : Bool} (h1 : (l1, g1) ∈ ordC) (h2 : (l2, g2) ∈ ordC) : ordR (l1, g1) (l2, g2) = true := List.all_eq_true.1 (List.all_eq_true.1 ord_runs _ h1) _ h2

theorem ord_in (a b : Nat) : (Nat.ble (Nat.succ a) b, Nat.ble (Nat.succ b) a) ∈ ordC := by
  have e : ∀ x y : Nat, Nat.ble (Nat.succ x) y = decide (x < y) := fun x y => by
    rw [Bool.eq_iff_iff, decide_eq_true_iff]
    exact ⟨fun h => Nat.le_of_ble_eq_true h, fun h => Nat.ble_eq_true_of_le h⟩
  rw [e, e]
  rcases Nat.lt_trichotomy a b with h | h | h
  · rw [decide_eq_true h, decide_eq_false (Nat.lt_asymm h)]; decide
  · subst h; rw [decide_eq_false (Nat.lt_irrefl _)]; decide
  · rw [decide_eq_true h, decide_eq_false (Nat.lt_asymm h)]; decide
theorem blt_dec (x y : Nat) : decide (x < y) = Nat.ble (Nat.succ x) y := by
  rw [Bool.eq_iff_iff, decide_eq_true_iff]
  exact ⟨fun h => Nat.ble_eq_true_of_le h, fun h => Nat.le_of_ble_eq_true h⟩
theorem ordB_plain [Val] (l1 g1 l2 g2 : Bool) : vI (ordB l1 g1 l2 g2) = ordB l1 g1 l2 g2 := by
  refine vI_plain fun m hm => ?_
  cases l1 <;> cases g1 <;> cases l2 <;> cases g2 <;> cases hm <;> decide

theorem order_calls {ms ms' : List Nat} (h : ms.length = 9) (h' : ms'.length = 9) (hb : ∀ x ∈ ms ++ ms', x ≤ 18446744073709551615) (w : World) :
    Calls Tryz.prog 205 #[.agg ⟨kValsL mapKs ms⟩, .agg ⟨kValsL mapKs ms'⟩] w fun e w' => e = .returned (.int .i64 (ordV (ms.getD 0 0) (ms.getD 1 0) (ms'.getD 0 0) (ms'.getD 1 0))) ∧ RowKit.Below w.heap.size w w' := by
  letI : Val := valL (ms ++ ms') hb
  have hv : ∀ j, vN (CB + j) = (ms ++ ms').getD j 0 := fun j => vN_code j
  have v0 : vN (CB + 0) = ms.getD 0 0 := by rw [hv, List.getD_eq_getElem?_getD, List.getD_eq_getElem?_getD, List.getElem?_append_left (by omega)]
  have v1 : vN (CB + 1) = ms.getD 1 0 := by rw [hv, List.getD_eq_getElem?_getD, List.getD_eq_getElem?_getD, List.getElem?_append_left (by omega)]
  have v9 : vN (CB + 9) = ms'.getD 0 0 := by rw [hv, List.getD_eq_getElem?_getD, List.getD_eq_getElem?_getD, List.getElem?_append_right (by omega), h]
  have v10 : vN (CB + 10) = ms'.getD 1 0 := by rw [hv, List.getD_eq_getElem?_getD, List.getD_eq_getElem?_getD, List.getElem?_append_right (by omega), h]
  have run := ord_run (ord_in (ms.getD 0 0) (ms'.getD 0 0)) (ord_in (ms.getD 1 0) (ms'.getD 1 0))
  have hrows : ∀ r ∈ ordT (Nat.ble (Nat.succ (ms.getD 0 0)) (ms'.getD 0 0)) (Nat.ble (Nat.succ (ms'.getD 0 0)) (ms.getD 0 0)) (Nat.ble (Nat.succ (ms.getD 1 0)) (ms'.getD 1 0)) (Nat.ble (Nat.succ (ms'.getD 1 0)) (ms.getD 1 0)), RowOk r := fun r hr => by
    unfold ordT at hr
    simp only [List.mem_cons, List.not_mem_nil, or_false] at hr
    rcases hr with rfl | rfl | rfl | rfl | rfl | rfl | rfl | rfl
    · exact row_same
    · exact row_same
    · exact row_same
    · exact row_same
    · exact row_lss (by rw [v0, v9, blt_dec])
    · exact row_gtr (by rw [v0, v9, blt_dec])
    · exact row_lss (by rw [v1, v10, blt_dec])
    · exact row_gtr (by rw [v1, v10, blt_dec])
  obtain ⟨c1, c2⟩ := kCodes_s mapKs 0 ms h fun i hi => by
    rw [Nat.zero_add, hv, List.getD_eq_getElem?_getD, List.getD_eq_getElem?_getD, List.getElem?_append_left (by omega)]
  obtain ⟨d1, d2⟩ := kCodes_s mapKs 9 ms' h' fun i hi => by
    rw [hv, List.getD_eq_getElem?_getD, List.getD_eq_getElem?_getD, List.getElem?_append_right (by omega), h, Nat.add_sub_cancel_left]
  have key := calls_int (envE hrows) run (fun v hv => by
    rcases List.mem_cons.1 hv with rfl | hv
    · exact fun x hx => c1 x hx
    · rcases List.mem_cons.1 hv with rfl | hv
      · exact fun x hx => d1 x hx
      · cases hv) w
  rw [ordB_plain] at key
  have e : ([.agg ⟨kCodes mapKs 0⟩, .agg ⟨kCodes mapKs 9⟩] : List Value).map (ren ren00) = [.agg ⟨kValsL mapKs ms⟩, .agg ⟨kValsL mapKs ms'⟩] := by
    show [Value.agg ((⟨kCodes mapKs 0⟩ : Array Value).map (ren0 ren00)), Value.agg ((⟨kCodes mapKs 9⟩ : Array Value).map (ren0 ren00))] = _
    rw [List.map_toArray, List.map_toArray, c2, d2]
  rw [e] at key
  exact key.2
theorem kVals_ren [Val] (r : Ren) : ∀ (ks : List IntKind) (ms : List Nat), (∀ x ∈ ms, x ≤ 18446744073709551615) → (kValsL ks ms).map (ren0 r) = kValsL ks ms
  | [], _, _ => rfl
  | _ :: _, [], _ => rfl
  | k :: ks, m :: ms, h => by
    show ren0 r (.int k (.ofNat m)) :: (kValsL ks ms).map (ren0 r) = _
    rw [kVals_ren r ks ms (fun x hx => h x (List.mem_cons_of_mem _ hx))]
    show Value.int k (.ofNat (vN m)) :: _ = _
    rw [vN_plain (h m (by simp))]
    rfl
/-- The summary. -/
theorem order_sum [Val] : CallAt Tryz.prog 205 (pureSum ordF) := by
  refine sum_pure ⟨_, Tryz.func205, by as_aux_lemma => kernel_rfl, by as_aux_lemma => kernel_rfl⟩ fun args v hv r n w hwf => ?_
  clear hwf
  unfold ordF at hv
  split at hv
  · rename_i a b
    unfold ordA at hv
    split at hv
    · rename_i a
      split at hv
      · rename_i b
        unfold ordM at hv
        split at hv
        · rename_i p o ms1 ha
          split at hv
          · rename_i p' o' ms2 hb
            cases hv
            obtain ⟨a1, a2, a3⟩ := natsK_eq ha
            obtain ⟨b1, b2, b3⟩ := natsK_eq hb
            have hc := (order_calls a2 b2 (fun x hx => by
              rcases List.mem_append.1 hx with hx | hx
              · exact a3 x hx
              · exact b3 x hx) w)
            have e : ([.agg a, .agg b] : List Value).map (ren r) = [.agg ⟨kValsL mapKs (p :: o :: ms1)⟩, .agg ⟨kValsL mapKs (p' :: o' :: ms2)⟩] := by
              obtain ⟨a⟩ := a
              obtain ⟨b⟩ := b
              show [Value.agg ((⟨a⟩ : Array Value).map (ren0 r)), Value.agg ((⟨b⟩ : Array Value).map (ren0 r))] = _
              rw [List.map_toArray, List.map_toArray]
              have a1' : a = _ := a1
              have b1' : b = _ := b1
              rw [a1', b1', kVals_ren r _ _ a3, kVals_ren r _ _ b3]
            rw [e]
            refine ⟨trivial, hc.mono ?_⟩
            rintro e w' ⟨rfl, hbl⟩
            refine ⟨?_, hbl⟩
            show Ending.returned (.int .i64 (ordV p o p' o')) = Ending.returned (.int .i64 (vI (ordV p o p' o')))
            unfold ordV
            rw [ordB_plain]
          · cases hv
        · cases hv
      · cases hv
    · cases hv
  · cases hv
end Go.Proofs.YthgpfnbajjmcdaaGreatDoor.Vw
