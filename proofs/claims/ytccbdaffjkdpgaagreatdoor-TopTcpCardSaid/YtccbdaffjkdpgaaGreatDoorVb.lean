/-
  The interpreter is sound: the operations with effects, guards, regions run as they stand and regions that draw their order.
-/
import Derived.Deep.AppendSrc
import Derived.Room.AppendUpon
import Derived.Tactics
import Derived.Test.YtccbdaffjkdpgaaGreatDoorVa
namespace Go.Proofs.YtccbdaffjkdpgaaGreatDoor.Vw

section
variable [Val] {P : Program} {ty : Ty} {live : List Nat} {cx : Cx} {len : Nat} {res : Value × H × Nat}

omit [Val] in
theorem newVar_run (t : TypeId) (v : Value) (w : World) : (newVar t v).run P w = .ok ⟨w.heap.size, 0, none⟩ (w.alloc (.cells v.cells t)) := rfl

/-- A variable of its own, of a value. -/
theorem box_al {t : TypeId} {m : Nat} {y : Opd} {o : Op} (hv : ∀ L f v, EvV y L f v → ∀ r n a, EnvR live cx len L f n r a → wf n r v ∧ ∀ w op, op.op = o → (execOp a.eval op).run P w = .ok (.value (.pointer (some ⟨w.heap.size, 0, none⟩))) (w.alloc (.cells (ren r v).cells t))) :
    AlS P live cx len o (boxA t m y) := fun L f k kv res h => by
  obtain ⟨v, h1, h2⟩ := ev_EvV h
  left
  have hcell : ∃ c, k (.row t false m 0 (ofL c)) (fun b => .pointer (some ⟨b, 0, none⟩)) = some res ∧ c.length = m ∧ ∀ n r, wf n r v → (∀ y ∈ c, wf0 n r y) ∧ (ren r v).cells.toList = c.map (ren0 r) := by
    have : ∃ c, (@Bool.rec (fun _ => R) none (k (.row t false m 0 (ofL c)) fun b => .pointer (some ⟨b, 0, none⟩)) (Nat.beq c.length m)) = some res ∧ (cellsK v (fun c => some (Value.agg ⟨c⟩, Tr.e, 0)) = some (Value.agg ⟨c⟩, Tr.e, 0)) := by
      cases v with
      | agg cs => obtain ⟨cs⟩ := cs; exact ⟨cs, h2, rfl⟩
      | tuple vs => cases h2
      | _ => exact ⟨_, h2, rfl⟩
    obtain ⟨c, g1, g2⟩ := this
    obtain ⟨g3, g4⟩ := boolK' g1
    refine ⟨c, g4, Nat.eq_of_beq_eq_true g3, fun n r hw => ?_⟩
    obtain ⟨c', e1, e2, e3⟩ := cellsK_some g2 hw
    have e4 : c' = c := by
      have := Option.some.inj e1
      simp only [Prod.mk.injEq, Value.agg.injEq, and_true] at this
      exact congrArg Array.toList this
    subst e4
    exact ⟨e2, e3⟩
  obtain ⟨c, h3, h4, h5⟩ := hcell
  refine ⟨_, _, h3, (fun e => by cases e), fun r n a w he => ?_⟩
  obtain ⟨w1, run⟩ := hv L f v h1 r n a he
  obtain ⟨c1, c2⟩ := h5 n r w1
  have ec : (ren r v).cells = (c.map (ren0 r)).toArray := Array.ext' (by simpa using c2)
  refine ⟨.cells (ren r v).cells t, w.alloc (.cells (ren r v).cells t), ⟨rfl, rfl, rfl⟩, rfl, ?_, ⟨Nat.lt_succ_self n, rfl⟩, fun op ho => ?_⟩
  · rw [ec, ← h4]
    exact new_row c1
  · rw [run w op ho]
    show _ = Result.ok (Next.value (.pointer (some ⟨(r.set n w.heap.size 0).blk n, 0, none⟩))) _
    rw [Ren.set_blk]

theorem box_s {t : TypeId} {x : Operand} {y : Opd} {m : Nat} (hx : copd live cx len x = some y) : AlS P live cx len (.box t x) (boxA t m y) :=
  box_al fun L f v hv r n a he => by
    obtain ⟨w1, e1⟩ := copd_eval hx hv he
    refine ⟨w1, fun w op ho => ?_⟩
    simp only [execOp, ho, e1]
    refine run_v ?_
    unfold Instr.box
    simp only [bind, Sem.run_bind', newVar_run, Result.andThen_ok]
    rfl
theorem alloc_s (ht : TyOk P ty) {t : TypeId} {m : Nat} {z : List Value} (hz : tzero ty t = some z) :
    (tagg ty t = some true → AlS P live cx len (.alloc t) (boxA t m (.c (.agg ⟨z⟩)))) ∧ ∀ z0, z = [z0] → AlS P live cx len (.alloc t) (boxA t m (.c z0)) := by
  obtain ⟨it, zv, hi, hzv, hcells, hconst, _, _⟩ := tzero_ok ht hz
  have hzero : ∀ w, (zeroValue t).run P w = .ok zv w := fun w => by simp [zeroValue, typeInfo, hi, hzv]
  have run : ∀ (u : Value), u.cells = zv.cells → ∀ a w (op : Oper), op.op = .alloc t → (execOp a op).run P w = .ok (.value (.pointer (some ⟨w.heap.size, 0, none⟩))) (w.alloc (.cells u.cells t)) := fun u hu a w op ho => by
    simp only [execOp, ho]
    refine run_v ?_
    unfold Instr.alloc
    simp only [bind, Sem.run_bind', hzero, Result.andThen_ok, newVar_run, hu]
    rfl
  refine ⟨fun _ => box_al fun L f v hv r n a he => ?_, fun z0 hz0 => box_al fun L f v hv r n a he => ?_⟩
  · cases (show Value.agg ⟨z⟩ = v from hv)
    obtain ⟨w1, w2⟩ := agg_s (zero_wf hconst n r)
    refine ⟨w1, fun w op ho => run _ ?_ _ w op ho⟩
    rw [w2, zero_map hconst]
    exact Array.ext' (by rw [hcells]; rfl)
  · cases (show z0 = v from hv)
    have hc := constOk_wf (hconst z0 (by rw [hz0]; simp)) n r
    refine ⟨wf_of_wf0 hc.1, fun w op ho => run _ ?_ _ w op ho⟩
    rw [hc.2.1]
    have e1 : z0.cells.toList = [z0] := by cases z0 <;> first | rfl | exact hc.1.elim
    exact Array.ext' (by rw [e1, hcells, hz0])

theorem mkm_s {t : TypeId} : AlS P live cx len (.makeMap t none) mkmA := fun L f k kv res h => by
  left
  refine ⟨_, _, h, (fun e => by cases e), fun r n a w he => ?_⟩
  refine ⟨.map #[] 0, w.alloc (.map #[] 0), ⟨rfl, rfl, rfl⟩, rfl, ⟨0, ?_⟩, Nat.lt_succ_self n, fun op ho => ?_⟩
  · rw [Ren.set_blk]
    show (w.heap.push _)[w.heap.size]? = _
    rw [Array.getElem?_push_size]
  · simp only [execOp, ho]
    show _ = Result.ok (Next.value (.map (some ((r.set n w.heap.size 0).blk n)))) _
    rw [Ren.set_blk]
    refine run_v ?_
    rfl

omit [Val] in
theorem repl_len (z : List Value) : ∀ n, (repl z n).length = n * z.length
  | 0 => by unfold repl; simp
  | n + 1 => by unfold repl; simp [repl_len z n, Nat.add_mul, Nat.add_comm]
omit [Val] in
theorem repl_mem (z : List Value) : ∀ n x, x ∈ repl z n → x ∈ z
  | 0, x, h => by unfold repl at h; simp at h
  | n + 1, x, h => by
    unfold repl at h
    rcases List.mem_append.1 h with h | h
    · exact h
    · exact repl_mem z n x h
omit [Val] in
theorem repl_get (z : List Value) : ∀ n j, j < n * z.length → (repl z n)[j]? = z[j % z.length]?
  | 0, j, h => by simp at h
  | n + 1, j, h => by
    unfold repl
    by_cases hj : j < z.length
    · rw [List.getElem?_append_left hj, Nat.mod_eq_of_lt hj]
    · rw [List.getElem?_append_right (by omega), repl_get z n (j - z.length) (by rw [Nat.add_mul] at h; omega)]
      rw [Nat.mod_eq_sub_mod (by omega : j ≥ z.length)]
omit [Val] in
/-- the model's row of zeros -/
theorem zeros_eq (z : Array Value) (n : Nat) : (Array.range (n * z.size)).map (z[· % z.size]!) = (repl z.toList n).toArray := by
  refine Array.ext (by simp [repl_len]) fun j h1 h2 => ?_
  have hj : j < n * z.size := by simpa using h1
  have hz : 0 < z.size := by
    rcases Nat.eq_zero_or_pos z.size with h0 | h0
    · rw [h0] at hj; simp at hj
    · exact h0
  have hm : j % z.size < z.size := Nat.mod_lt _ hz
  have e := repl_get z.toList n j (by simpa using hj)
  have e2 : (repl z.toList n).toArray[j] = z[j % z.size] := by
    have : (repl z.toList n)[j]? = some (z[j % z.size]) := by rw [e]; simp [hm]
    exact Option.some.inj ((List.getElem?_eq_getElem (by simpa using h2)).symm.trans this)
  rw [e2]
  simp [hm]

theorem buildSl_s (ht : TyOk P ty) {t e : TypeId} {m nn : Nat} {ps : Array (Nat × Operand)} {z : List Value} {qs : List (Nat × Nat × Opd)} (hd : und ty t = some (.slice e)) (hz : tzero ty e = some z) (hs : tsize ty e = some m) (hzl : z.length = m) (hsm : nn * m ≤ 16777216)
    (hnn : nn < OPEN) (hp : partsSl live cx len m ps.toList = some qs) : AlS P live cx len (.buildSlice t nn ps) (buildSlA e (repl z nn) nn qs) := fun L f k kv res h => by
  obtain ⟨l, h1, h2, h3⟩ := fillL_s qs _ _ h
  left
  refine ⟨_, _, h1, (fun e => by cases e), fun r n a w he => ?_⟩
  obtain ⟨ie, zv, hi, hzv, hcells, hconst, _⟩ := tzero_ok ht hz
  obtain ⟨ie', hie', hsz, _⟩ := tsize_ok ht hs
  rw [hi] at hie'
  cases hie'
  obtain ⟨p1, p2, p3⟩ := optM_some hp
  have hrw : ∀ x ∈ repl z nn, wf0 n r x := fun x hx => zero_wf hconst n r x (repl_mem z nn x hx)
  obtain ⟨g1, g2⟩ := h3 r n a ps.toList (fun i => some (i * ie.size, ie.size)) hrw p1.symm (fun j p q hj hq => by
    obtain ⟨q', e1, e2⟩ := p3 j p hj
    rw [hq] at e1
    cases e1
    unfold pelem at e2
    cases hc : copd live cx len q.2 with
    | none => rw [hc] at e2; cases e2
    | some x =>
      rw [hc] at e2
      cases e2
      exact ⟨by rw [hsz], fun v hv => copd_eval hc hv he⟩)
  have hzm : (repl z nn).map (ren0 r) = repl z nn := by
    rw [List.map_congr_left (g := id) fun x hx => (constOk_wf (hconst x (repl_mem z nn x hx)) 0 r).2.2]
    simp
  rw [hzm] at g2
  have hzs : zv.cells.size = ie.size := by rw [← Array.length_toList, hcells, hzl, hsz]
  have hfill : Instr.fill (fun i => some (i * ie.size, ie.size)) ((Array.range (nn * ie.size)).map (zv.cells[· % zv.cells.size]!)) (ps.map fun (i, x) => (i, a.eval x)).toList = some (l.map (ren0 r)).toArray := by
    rw [← hzs, zeros_eq, hcells, hzs]
    simpa using g2
  have hlen : (repl z nn).length = l.length := h2.symm
  refine ⟨.cells (l.map (ren0 r)).toArray e, w.alloc (.cells (l.map (ren0 r)).toArray e), ⟨rfl, rfl, rfl⟩, rfl, ?_, ⟨Nat.lt_succ_self n, fun _ hn => absurd rfl hn, fun hn => absurd rfl hn, fun ho => by omega⟩, fun op ho => ?_⟩
  · rw [hlen]
    exact new_row g1
  · simp only [execOp, ho]
    refine run_v ?_
    rw [sl_eval rfl, if_pos hnn]
    show _ = Result.ok (Value.slice (some ⟨(r.set n w.heap.size 0).blk n, 0, none⟩) nn nn) _
    rw [Ren.set_blk]
    by_cases hpos : nn * ie.size = 0
    · have hno : ¬ (2 ^ 24 < nn * ie.size) := by rw [hsz]; omega
      have e0 : ∀ g : Nat → Value, (Array.range (nn * ie.size)).map g = #[] := fun g => by rw [hpos, Array.range_zero']; simp
      rw [e0] at hfill
      simp [Instr.buildSlice, run_underlying (und_ok ht hd), sizeOf, typeInfo, hi, hpos, newRow]
      have hfill' : Instr.fill (fun i => some (i * ie.size, ie.size)) #[] (List.map (fun x => (x.fst, a.eval x.snd)) ps.toList) = some (l.map (ren0 r)).toArray := by
        rw [← hfill]
        simp
      have e1 : Array.map (fun (_ : Nat) => (default : Value)) (Array.range 0) = #[] := by rw [Array.range_zero']; simp
      rw [e1, hfill']
      rfl
    · exact run_buildSlice w t e nn _ _ ie zv (und_ok ht hd) hi hzv (by rw [hsz]; omega) hpos hfill

theorem frz_s (ht : TyOk P ty) {s e : TypeId} {x : Operand} {y : Opd} (hs : und ty s = some (.slice e)) (he : und ty e = some (.int .u8)) (hx : copd live cx len x = some y) : AlS P live cx len (.convert s s x) (frzA y) := fun L f k kv res h => by
  obtain ⟨v, h1, h2⟩ := ev_EvV h
  obtain ⟨p, l, c, rfl, h3⟩ := asSl_some h2
  obtain ⟨p, rfl, h4⟩ := optK h3
  right
  refine ⟨_, h4, fun r n a w henv => ?_⟩
  obtain ⟨w1, e1⟩ := copd_eval hx h1 henv
  refine ⟨w1, ?_⟩
  obtain ⟨q, l', c', e2, e3⟩ := sl_nil (some p) l c r
  obtain ⟨q, rfl⟩ : ∃ q', q = some q' := by cases q <;> simp_all
  -- what is frozen behind the row
  have hqb : q.block = r.blk p.block := by
    have h5 : rsl r p l c = .slice (some q) l' c' := e2
    unfold rsl at h5
    split at h5
    · cases h5; rfl
    · split at h5 <;> (cases h5; rfl)
  have hpn : p.block < n := by
    have : wfP n r (.slice (some p) l c) := w1
    exact this.1
  have hmark : ∃ w' : World, (markStringish q).run P w = .ok () w' ∧ Still n r w w' := by
    have hsh : ∀ w, (shape q.block).run P w = .ok (w.shape? q.block) w := fun w => rfl
    unfold markStringish
    simp only [bind, Sem.run_bind', hsh, Result.andThen_ok]
    cases hq : w.shape? q.block with
    | none => exact ⟨w, rfl, .refl n r w⟩
    | some en =>
      obtain ⟨en, nn⟩ := en
      refine ⟨w.freeze { block := q.block, off := nn } 1, rfl, ⟨⟨rfl, rfl, rfl⟩, by simp [World.freeze], fun k o ho => ?_, fun k hk hno => ?_⟩⟩
      rotate_left
      · unfold World.freeze
        rw [if_neg (by omega)]
        simp only
        rw [Array.getElem?_eq_getElem (by simpa using hk), Array.getElem_modify, if_neg (fun e => hno p.block hpn (by rw [← hqb]; exact e)), ← Array.getElem?_eq_getElem hk]
      have hlt : k < w.heap.size := (Array.getElem?_eq_some_iff.1 ho).1
      have hval : w.heap[k] = o := (Array.getElem?_eq_some_iff.1 ho).2
      by_cases hk : q.block = k
      · subst hk
        unfold World.shape? at hq
        rw [ho] at hq
        cases o with
        | cells cc ee fz =>
          obtain ⟨lo, hi⟩ := fz
          simp at hq
          obtain ⟨rfl, rfl⟩ := hq
          refine ⟨_, by
            unfold World.freeze
            rw [if_neg (by omega)]
            simp only
            rw [Array.getElem?_eq_getElem (by simpa using hlt), Array.getElem_modify, if_pos rfl, hval], .inr ⟨cc, ee, _, _, rfl, rfl, fun hh => ?_⟩⟩
          simp only [Harm] at hh ⊢
          right
          rcases hh with hh | hh
          · rw [hh]; simp
          · split
            · simp
            · simp; omega
        | _ => simp at hq
      · refine ⟨o, ?_, .inl rfl⟩
        unfold World.freeze
        rw [if_neg (by omega)]
        simp only
        rw [Array.getElem?_eq_getElem (by simpa using hlt), Array.getElem_modify, if_neg hk, hval]
  obtain ⟨w', m1, m2⟩ := hmark
  refine ⟨w', m2, fun op ho => ?_⟩
  simp only [execOp, ho, e1, e2]
  refine run_v ?_
  unfold convert
  simp only [bind, Sem.run_bind', run_und ht hs, Result.andThen_ok, run_und ht he, beq_self_eq_true, m1]
  rfl
end
end Go.Proofs.YtccbdaffjkdpgaaGreatDoor.Vw
namespace Go.Proofs.YtccbdaffjkdpgaaGreatDoor.Vw

section
variable [Val] {P : Program} {ty : Ty} {live : List Nat} {cx : Cx} {len : Nat} {res : Value × H × Nat}

theorem cA_s (ht : TyOk P ty) {op : Op} {g : Al} (h : cA ty live cx len op = some g) : AlS P live cx len op g := by
  unfold cA cA_alloc cA_box cA_buildSlice cA_convert cA_makeMap at h
  split at h
  · split at h
    · rename_i h1 h2 h3; cases h; exact (alloc_s ht h2).1 h3
    · rename_i h1 h2 h3
      split at h
      · cases h; exact (alloc_s ht h2).2 _ rfl
      · cases h
    · cases h
  · split at h
    · rename_i h1 h2; cases h; exact box_s h2
    · cases h
  · split at h
    · rename_i hd
      split at h
      · rename_i h1 h2
        split at h
        · rename_i g1 g2 g3 g4
          cases h
          have := Nat.le_of_ble_eq_true g3
          exact buildSl_s ht hd h1 h2 (Nat.eq_of_beq_eq_true g1) (Nat.le_of_ble_eq_true g2) (by have := open_max; unfold MAX at this; omega) g4
        · cases h
      · cases h
    · cases h
  · split at h
    · rename_i hs hd hx
      split at h
      · rename_i he
        split at h
        · rename_i hq
          cases h
          have e := Nat.eq_of_beq_eq_true hq
          subst e
          rw [hs] at hd
          cases hd
          exact frz_s ht hs he hx
        · cases h
      · cases h
    · cases h
  · split at h
    · cases h; exact mkm_s
    · cases h
  · cases h

omit [Val] in
/-- Cells stored in a row of which nothing is frozen. -/
theorem run_store_row (g o : Nat) (t : TypeId) (fz : Nat × Nat) : ∀ (vs : List Value) (i : Nat) (cur : Array Value) (w : World), w.heap[g]? = some (.cells cur t fz) → Harm fz cur.size → o + i + vs.length ≤ cur.size → (∀ v ∈ vs, v.oneCell' = true) →
    (storeCells ⟨g, o, none⟩ vs i).run P w = .ok () (w.setRow g (cur.toList.take (o + i) ++ vs ++ cur.toList.drop (o + i + vs.length)).toArray)
  | [], i, cur, w, hg, _, _, _ => by
    simp only [storeCells, List.append_nil, List.length_nil, Nat.add_zero, List.take_append_drop, Array.toArray_toList]
    rw [setRow_self w g cur t fz hg]
    rfl
  | v :: rest, i, cur, w, hg, hfz, hl, h1 => by
    have hi : o + i < cur.size := by simp at hl; omega
    have hadd : (⟨g, o, none⟩ : Addr).add i = ⟨g, o + i, none⟩ := add_mk g o i
    have hcell : w.cell? ⟨g, o + i, none⟩ = some cur[o + i] := by simp [World.cell?, hg, hi]
    have hfro : w.frozen? ⟨g, o + i, none⟩ = false := by
      obtain ⟨lo, hi'⟩ := fz
      simp only [World.frozen?, hg, Bool.and_eq_false_iff, decide_eq_false_iff_not]
      rcases hfz with h2 | h2
      · simp only at h2; omega
      · simp only at h2; omega
    have hst : (store ((⟨g, o, none⟩ : Addr).add i) v).run P w = .ok () (w.setRow g (cur.setIfInBounds (o + i) v)) := by
      rw [hadd, run_store P w _ v _ (h1 v (by simp)), hcell]
      simp [hfro, setCell_eq_setRow w g (o + i) cur t fz v hg]
    have ih := run_store_row g o t fz rest (i + 1) (cur.setIfInBounds (o + i) v) (w.setRow g (cur.setIfInBounds (o + i) v)) (setRow_heap w g cur _ t _ hg) (by simpa using hfz) (by simp at hl ⊢; omega) (fun x hx => h1 x (by simp [hx]))
    simp only [storeCells, Sem.run_bind, hst, Result.andThen_ok, ih, setRow_setRow]
    congr 3
    have e := list_seg_step cur.toList (o + i) v rest (by simp at hl ⊢; omega)
    simpa [Array.toList_setIfInBounds, Nat.add_assoc] using e

omit [Val] in
theorem setRow_size (w : World) (g : Nat) (c : Array Value) : (w.setRow g c).heap.size = w.heap.size := by simp [World.setRow]
omit [Val] in
theorem setRow_ne (w : World) (g : Nat) (c : Array Value) {k : Nat} (h : k ≠ g) : (w.setRow g c).heap[k]? = w.heap[k]? := by
  unfold World.setRow
  simp only
  rw [Array.getElem?_modify, if_neg (fun e => h e.symm)]

omit [Val] in
/-- the cells of a row, some of them others -/
theorem mid_get (l vs : List Value) (o : Nat) (h : o + vs.length ≤ l.length) (j : Nat) : (l.take o ++ vs ++ l.drop (o + vs.length))[j]? = if o ≤ j ∧ j < o + vs.length then vs[j - o]? else l[j]? := by
  have h1 : (l.take o).length = o := by rw [List.length_take]; omega
  by_cases e1 : j < o
  · rw [if_neg (by omega), List.append_assoc, List.getElem?_append_left (by omega), List.getElem?_take, if_pos e1]
  · by_cases e2 : j < o + vs.length
    · rw [if_pos (by omega), List.append_assoc, List.getElem?_append_right (by omega), h1, List.getElem?_append_left (by omega)]
    · rw [if_neg (by omega), List.getElem?_append_right (by simp; omega)]
      simp only [List.length_append, h1, List.getElem?_drop]
      congr 1
      omega

/-- A store, here and in the model. -/
theorem store_ev {h : H} {n b off : Nat} {r : Ren} {w : World} {e : TypeId} {op : Bool} {ln o : Nat} {cs : Tr Value} {vs : List Value} (hsz : Sz h n) (hr : Rep P r h.at n w) (hb : h.at b = some (.row e op ln o cs)) (hl : off + vs.length ≤ ln)
    (hw : ∀ x ∈ vs, wf0 n r x) : ∃ w', (storeCells ⟨r.blk b, off, none⟩ (vs.map (ren0 r))).run P w = .ok () w' ∧ Sz (h.put b (.row e op ln o (cs.putL (o + off) vs))) n ∧
      Ev P r h.at n w r (h.put b (.row e op ln o (cs.putL (o + off) vs))).at n w' := by
  obtain ⟨c, frz, m, g1, g2, g3, g4, g5, g6, g7, g8⟩ := hr.blk b _ hb
  refine ⟨_, run_store_row (r.blk b) off e frz _ 0 c w g1 g5 (by simp; omega) (fun v hv => ?_), ?_⟩
  · obtain ⟨x, hx, rfl⟩ := List.mem_map.1 hv
    exact ren0_one (hw x hx)
  · have hlen : ((c.toList.take (off + 0) ++ vs.map (ren0 r) ++ c.toList.drop (off + 0 + (vs.map (ren0 r)).length)).toArray).size = c.size := by
      simp; omega
    refine upd_ev (by exact ⟨rfl, rfl, rfl⟩) hsz hr hb (fun e => by cases e) (setRow_size _ _ _) (fun k hk => setRow_ne _ _ _ hk) ?_
    obtain ⟨s1, s2⟩ := g7.putL vs (o + off) (by omega)
    refine ⟨_, frz, _, setRow_heap w (r.blk b) c _ e frz g1, by rw [hlen]; exact g2, fun ho => by rw [hlen]; exact g3 ho, fun ho => by rw [hlen]; exact g4 ho, by rw [hlen]; exact g5, by omega, s1, fun i hi => ?_⟩
    have hget := mid_get c.toList (vs.map (ren0 r)) off (by simp; omega) i
    rw [List.getElem?_toArray, Nat.add_zero, hget, s2]
    by_cases hin : off ≤ i ∧ i < off + vs.length
    · have hlt : i - off < vs.length := by omega
      refine ⟨vs[i - off], ?_, hw _ (List.getElem_mem hlt), ?_⟩
      · rw [if_pos (by omega), show o + i - (o + off) = i - off by omega, List.getElem?_eq_getElem hlt]
      · rw [if_pos (by simpa using hin), List.getElem?_map, List.getElem?_eq_getElem hlt]
        rfl
    · obtain ⟨v, a1, a2, a3⟩ := g8 i hi
      refine ⟨v, by rw [if_neg (by omega)]; exact a1, a2, ?_⟩
      rw [if_neg (by simpa using hin), Array.getElem?_toList]
      exact a3
end

section
variable [Val] (P : Program) (live : List Nat) (cx : Cx) (len : Nat)
/-- what a call does -/
def FnOk (g : FuncId) : Prop := ∃ fn : Func, P.funcs[g]? = some fn ∧ (fn.name == "runtime.NumGoroutine") = false ∧ fn.body.isNone = false
def CallS (call : Call) : Prop := ∀ g args h n k res, call g args h n k = some res → Sz h n → FnOk P g ∧ ∃ v h' n', Sz h' n' ∧ k v h' n' = some res ∧
  ∀ (r : Ren) (w : World), (∀ x ∈ args, wf n r x) → Rep P r h.at n w → ∀ R : Ending → World → Prop, (∀ r' w', wf n' r' v → Ev P r h.at n w r' h'.at n' w' → R (.returned (ren r' v)) w') → Calls P g (args.map (ren r)).toArray w R
/-- an operation that changes the heap -/
def EfS (o : Op) (g : Ef) : Prop := ∀ call, CallS P call → ∀ L f h n k res, g call L f h n k = some res → Sz h n → ∃ v h' n', Sz h' n' ∧ k v h' n' = some res ∧
  ∀ (r : Ren) (a : Act) (w : World), EnvR live cx len L f n r a → Rep P r h.at n w → ∀ (op : Oper), op.op = o → ∀ (K : Act → World → Prop) (Q : Exit → Act → World → Prop),
    (∀ r' w', wf n' r' v → Ev P r h.at n w r' h'.at n' w' → K (a.put op.dst (ren r' v)) w') → op.wp P a w K Q
end

section
variable [Val] {P : Program} {ty : Ty} {live : List Nat} {cx : Cx} {len : Nat} {res : Value × H × Nat}

omit [Val] in
theorem wp_value {op : Oper} {a : Act} {w w' : World} {v : Value} {K : Act → World → Prop} {Q : Exit → Act → World → Prop} (h : (execOp a.eval op).run P w = .ok (.value v) w') (hk : K (a.put op.dst v) w') : op.wp P a w K Q := by
  unfold Oper.wp
  rw [h]
  exact hk
omit [Val] in
theorem wp_skip_op {op : Oper} {a : Act} {w w' : World} {K : Act → World → Prop} {Q : Exit → Act → World → Prop} (h : (execOp a.eval op).run P w = .ok .skip w') (hk : K (a.put op.dst undef) w') : op.wp P a w K Q := by
  unfold Oper.wp
  rw [h]
  exact hk
theorem ren_undef (r : Ren) : ren r (.tuple #[]) = undef := by
  show Value.tuple (#[].map _) = Value.tuple #[]
  simp
omit [Val] in
theorem wf_undef (n : Nat) (r : Ren) : wf n r (.tuple #[]) := by
  show ∀ x ∈ (#[] : Array Value).toList, _
  simp

theorem st_s (ht : TyOk P ty) {t : TypeId} {m : Nat} {x v : Operand} {x' v' : Opd} (hs : tsize ty t = some m) (hx : copd live cx len x = some x') (hv : copd live cx len v = some v') : EfS P live cx len (.store t x v) (stE m x' v') := fun call _ L f h n k res hh hsz => by
  obtain ⟨vp, h1, h2⟩ := ev_EvV hh
  obtain ⟨p, rfl, h3⟩ := asPtr_some h2
  obtain ⟨vv, h4, h5⟩ := ev_EvV h3
  have hcell : ∃ c, storeK h p c (fun h => k (.tuple #[]) h n) = some res ∧ c.length = m ∧ ∀ n r, wf n r vv → (∀ y ∈ c, wf0 n r y) ∧ (ren r vv).cells.toList = c.map (ren0 r) := by
    have : ∃ c, (@Bool.rec (fun _ => R) none (storeK h p c (fun h => k (.tuple #[]) h n)) (Nat.beq c.length m)) = some res ∧ (cellsK vv (fun c => some (Value.agg ⟨c⟩, Tr.e, 0)) = some (Value.agg ⟨c⟩, Tr.e, 0)) := by
      cases vv with
      | agg cs => obtain ⟨cs⟩ := cs; exact ⟨cs, h5, rfl⟩
      | tuple vs => cases h5
      | _ => exact ⟨_, h5, rfl⟩
    obtain ⟨c, g1, g2⟩ := this
    obtain ⟨g3, g4⟩ := boolK' g1
    refine ⟨c, g4, Nat.eq_of_beq_eq_true g3, fun n r hw => ?_⟩
    obtain ⟨c', e1, e2, e3⟩ := cellsK_some g2 hw
    have e4 : c' = c := by
      have := Option.some.inj e1
      simp only [Prod.mk.injEq, Value.agg.injEq, and_true] at this
      exact congrArg Array.toList this
    subst e4
    exact ⟨e2, e3⟩
  obtain ⟨c, h6, h7, h8⟩ := hcell
  have run : ∀ (r : Ren) (a : Act) (w w' : World), EnvR live cx len L f n r a → ∀ (op : Oper), op.op = .store t x v → (storeCells (ra r p) (c.map (ren0 r))).run P w = .ok () w' → (execOp a.eval op).run P w = .ok .skip w' := fun r a w w' he op ho hst => by
    obtain ⟨_, e1⟩ := copd_eval hx h1 he
    obtain ⟨w2, e2⟩ := copd_eval hv h4 he
    obtain ⟨_, e3⟩ := h8 n r w2
    have hcs : (ren r vv).cells.size = m := by rw [← Array.length_toList, e3, List.length_map, h7]
    simp only [execOp, ho, e1, e2, ptr_eval]
    unfold Instr.storeAt storeVar
    simp only [bind, Sem.run_bind', Instr.sureAddr, pure, Sem.run, Result.andThen_ok, run_size ht hs, hcs, ne_eq, not_true_eq_false, if_false, e3, hst]
  rcases storeK_some h6 with ⟨hnil, h9⟩ | ⟨hne, hsp, e, op, ln, o, cs, hb, hl, h9⟩
  · refine ⟨_, h, n, hsz, h9, fun r a w he hr op ho K Q hk => ?_⟩
    subst hnil
    exact wp_skip_op (run r a w w he op ho rfl) (by rw [← ren_undef r]; exact hk r w (wf_undef _ _) (Ev.refl hr))
  · refine ⟨_, _, n, (hsz.put p.block (Nat.le_of_lt ((hsz p.block).1 (by rw [hb]; rfl))) _).1 |> fun s => by rwa [show max n (p.block + 1) = n by have := (hsz p.block).1 (by rw [hb]; rfl); omega] at s, h9, fun r a w he hr oper ho K Q hk => ?_⟩
    obtain ⟨w2, _⟩ := copd_eval hv h4 he
    obtain ⟨w', g1, g2, g3⟩ := store_ev hsz hr hb hl (h8 n r w2).1
    exact wp_skip_op (run r a w w' he oper ho g1) (by rw [← ren_undef r]; exact hk r w' (wf_undef _ _) g3)
end
end Go.Proofs.YtccbdaffjkdpgaaGreatDoor.Vw
namespace Go.Proofs.YtccbdaffjkdpgaaGreatDoor.Vw

section
variable [Val] {P : Program} {ty : Ty} {live : List Nat} {cx : Cx} {len : Nat} {res : Value × H × Nat}

omit [Val] in
theorem growBy_le (m : Nat) : ∀ (k c : Nat), Builtin.growBy m k c ≤ max c (m + (m + 768) / 4)
  | 0, c => by unfold Builtin.growBy; omega
  | k + 1, c => by
    unfold Builtin.growBy
    split
    · omega
    · have := growBy_le m k (c + (c + 768) / 4)
      omega
omit [Val] in
theorem nextcap_le {need cap : Nat} (h : cap < need) : Builtin.nextslicecap need cap ≤ 2 * need + 512 := by
  unfold Builtin.nextslicecap
  split
  · omega
  · split
    · omega
    · have := growBy_le need 4 cap
      omega

omit [Val] in
/-- There is room: the cells are stored where the elements end. -/
theorem app_room {t tx ty' e : TypeId} {i : TypeInfo} (ht : P.underlying t = some (.slice e)) (hi : P.info? e = some i) {b off sLen sCap : Nat} {x : Value} {n : Nat} {news : List Value} {w w' : World} (hs : Go.Src P i.size tx x n news w)
    (hroom : sLen + n ≤ sCap) (hst : (storeCells ⟨b, off + sLen * i.size, none⟩ news).run P w = .ok () w') :
    (Builtin.append_ #[t, tx] ty' #[.slice (some ⟨b, off, none⟩) sLen sCap, x]).run P w = .ok (.slice (some ⟨b, off, none⟩) (sLen + n) sCap) w' := by
  rcases hs.kind with ⟨e', hk⟩ | hk <;> simp [Builtin.append_, run_underlying ht, run_underlying hk, sizeOf, typeInfo, hi, hs.len, hroom, hs.cells, Addr.add_lit, hst]

/-- what is appended -/
theorem src_s {t : TypeId} {size : Nat} {h : H} {n m : Nat} {u : Value} {k : List Value → R} (hk : (∃ e', P.underlying t = some (.slice e')) ∨ P.underlying t = some .string) (hlen : Vw.lenV u (fun j => if j = m then some (Value.nilFunc, Tr.e, 0) else none) = some (Value.nilFunc, Tr.e, 0))
    (hf : firstC h size m u k = some res) (hm : m ≠ 0) : ∃ l, k l = some res ∧ l.length = m * size ∧ ∀ (r : Ren) (w : World), wf n r u → Rep P r h.at n w → (∀ x ∈ l, wf0 n r x) ∧ Go.Src P size t (ren r u) m (l.map (ren0 r)) w := by
  cases u with
  | slice p ln c =>
    have hln : ln = m := by
      have h0 : (if ln = m then some (Value.nilFunc, (Tr.e : Tr Blk), 0) else none) = some (Value.nilFunc, Tr.e, 0) := hlen
      split at h0
      · assumption
      · cases h0
    cases p with
    | none =>
      cases m with
      | zero => exact absurd rfl hm
      | succ m => cases hf
    | some p =>
      obtain ⟨hsp, l, hl, hc, h1⟩ := loadK_some (show loadK h p (m * size) k = some res from hf)
      refine ⟨l, h1, hl, fun r w _ hr => ?_⟩
      obtain ⟨g1, g2⟩ := hc.rep hr
      refine ⟨g1, ?_⟩
      rw [sl_eval hsp, ← hln]
      have hnews : ∀ (w : World), Rep P r h.at n w → ∀ j v, (l.map (ren0 r))[j]? = some v → w.cell? ((ra r p).add j) = some v := fun w hr j v hj => by
        rw [List.getElem?_map] at hj
        cases hq : l[j]? with
        | none => rw [hq] at hj; cases hj
        | some q =>
          rw [hq] at hj
          cases hj
          exact (hc.rep hr).2 j q hq
      have hll : (l.map (ren0 r)).length = ln * size := by rw [List.length_map, hl, hln]
      refine ⟨hk, fun _ => rfl, run_firstCells_some w size ln (ra r p) ln _ _ hll (hnews w hr), run_firstCells_some w.drew size ln (ra r p) ln _ _ hll (by simpa using hnews w hr), hll, fun v hv => ?_⟩
      obtain ⟨q, hq, rfl⟩ := List.mem_map.1 hv
      exact ren0_one (g1 q hq)
  | string s =>
    obtain ⟨q1, q2⟩ := boolK' (show @Bool.rec (fun _ => R) none (k ((s.data.toList.take m).map fun b => .int .u8 b.toNat)) (Nat.beq size 1) = some res from hf)
    have h1s : size = 1 := Nat.eq_of_beq_eq_true q1
    subst h1s
    have hln : s.size = m := by
      have h0 : (if s.size = m then some (Value.nilFunc, (Tr.e : Tr Blk), 0) else none) = some (Value.nilFunc, Tr.e, 0) := hlen
      split at h0
      · assumption
      · cases h0
    have h1 : k ((s.data.toList.take m).map fun b => .int .u8 b.toNat) = some res := q2
    have htake : s.data.toList.take m = s.data.toList := by
      rw [List.take_of_length_le]
      rw [Array.length_toList, ← hln]
      exact Nat.le_refl _
    rw [htake] at h1
    have hall : ∀ (r : Ren), ∀ x ∈ (s.data.toList.map fun b => Value.int .u8 b.toNat), wf0 n r x := fun r x hx => by
      obtain ⟨b, _, rfl⟩ := List.mem_map.1 hx
      trivial
    refine ⟨_, h1, by rw [List.length_map, Array.length_toList, Nat.mul_one, ← hln]; rfl, fun r w _ _ => ⟨hall r, ?_⟩⟩
    have e1 : (s.data.toList.map fun b => Value.int .u8 b.toNat).map (ren0 r) = byteCells s := by
      rw [List.map_map]
      exact List.map_congr_left fun b _ => ren_byte r b
    rw [e1, ← hln]
    exact ⟨hk, fun _ => rfl, firstCells_string s w, firstCells_string s w.drew, by rw [byteCells_length, Nat.mul_one], fun u hu => by
      obtain ⟨_, _, rfl⟩ := List.mem_map.1 hu
      rfl⟩
  | _ => cases hf
end
end Go.Proofs.YtccbdaffjkdpgaaGreatDoor.Vw
namespace Go.Proofs.YtccbdaffjkdpgaaGreatDoor.Vw

section
variable [Val] {P : Program} {ty : Ty} {res : Value × H × Nat}

omit [Val] in
theorem size_zeros (z : Array Value) (n : Nat) : (Builtin.zeroCells z n).size = n * z.size := by simp [Builtin.zeroCells]

/-- A new row whose size is not known. -/
theorem open_row {e : TypeId} {l : List Value} {n c need size : Nat} {r : Ren} {w : World} {o : Nat} {cs : Tr Value} {m : Nat} {rest : Array Value} {k : Nat} (hs : P.cellsOf e = size) (h : ∀ x ∈ l, wf0 n r x) (hl : l.length = need * size)
    (hsz : Sz cs m) (hm : o + need * size ≤ m) (hat : ∀ i, i < need * size → cs.at (o + i) = l[i]?) (hr : rest.size = (c - need) * size) (hc : need ≤ c) (hk : w.heap[k]? = some (.cells ((l.map (ren0 r)).toArray ++ rest) e)) :
    BlkRep P (r.set n k c) (n + 1) n (.row e true (need * size) o cs) w := by
  have hag : Ag n r (r.set n k c) := fun b hb => Ren.set_ne r (by omega)
  have hsize : ((l.map (ren0 r)).toArray ++ rest).size = c * size := by
    simp only [Array.size_append, List.size_toArray, List.length_map, hl, hr]
    rw [← Nat.add_mul]
    congr 1
    omega
  refine ⟨_, (0, 0), m, by rw [Ren.set_blk]; exact hk, ?_, (fun hf => by cases hf), fun _ => ?_, .inl rfl, hm, hsz, fun i hi => ?_⟩
  · rw [hsize]; exact Nat.mul_le_mul_right _ hc
  · rw [hsize, Ren.set_cap, hs]
  · have hil : i < l.length := by omega
    refine ⟨l[i], by rw [hat i hi, List.getElem?_eq_getElem hil], (h _ (List.getElem_mem hil)).mono (Nat.le_succ _) hag, ?_⟩
    rw [ren0_ag hag (h _ (List.getElem_mem hil)), Array.getElem?_append_left (by simp; omega)]
    simp [hil]

theorem kill_ev {h : H} {n b : Nat} {x : Blk} {r : Ren} {w : World} (hsz : Sz h n) (hr : Rep P r h.at n w) (hb : h.at b = some x) (hl : x.live) : Sz (h.put b .dead) n ∧ Ev P r h.at n w r (h.put b .dead).at n w :=
  upd_ev (.refl w) hsz hr hb hl rfl (fun _ _ => rfl) trivial

omit [Val] in
theorem slice_src {P : Program} {tx : TypeId} {size : Nat} {x : Value} {n : Nat} {news : List Value} {w : World} (hs : Go.Src P size tx x n news w) {i : TypeInfo} (hi : i.size = size) : Go.Src P i.size tx x n news w := by rw [hi]; exact hs

/-- how 'append' behaves with 'm' elements 'news' behind -/
structure AppS (P : Program) (t tx ty' e : TypeId) (size : Nat) (x : Value) (m : Nat) (news : List Value) (w : World) : Prop where
  room : ∀ (b off sLen sCap : Nat) (w' : World), sLen + m ≤ sCap → (storeCells ⟨b, off + sLen * size, none⟩ news).run P w = .ok () w' →
    (Builtin.append_ #[t, tx] ty' #[.slice (some ⟨b, off, none⟩) sLen sCap, x]).run P w = .ok (.slice (some ⟨b, off, none⟩) (sLen + m) sCap) w'
  grow : ∀ (base : Option Addr) (ln cap' : Nat) (old : List Value), cap' < ln + m → ln + m ≤ 1048576 → old.length = ln * size → (Builtin.firstCells size ln (.slice base ln cap')).run P w.drew = .ok old.toArray w.drew →
    ∃ c rest, ln + m ≤ c ∧ rest.size = (c - (ln + m)) * size ∧ (Builtin.append_ #[t, tx] ty' #[.slice base ln cap', x]).run P w = .ok (.slice (some ⟨w.heap.size, 0, none⟩) (ln + m) c) (w.drew.alloc (.cells ((old ++ news).toArray ++ rest) e))

theorem small_bytes (ht : TyOk P ty) {e : TypeId} {ie : TypeInfo} (hie : P.info? e = some ie) (hsm : small ty e = true) : ie.bytes ≤ 65536 := by
  unfold small at hsm
  cases hi : info? ty e with
  | none => rw [hi] at hsm; cases hsm
  | some j =>
    rw [hi] at hsm
    have := ht.info e j hi
    rw [hie] at this
    cases this
    exact Nat.le_of_ble_eq_true hsm

theorem appS_src (ht : TyOk P ty) {t tx ty' e : TypeId} {size : Nat} {z : List Value} (hd : und ty t = some (.slice e)) (hs : tsize ty e = some size) (hz : tzero ty e = some z) (hzl : z.length = size) (hsm : small ty e = true)
    {x : Value} {m : Nat} {news : List Value} {w : World} (hsrc : Go.Src P size tx x m news w) : AppS P t tx ty' e size x m news w := by
  obtain ⟨ie, hie, hisz, hcells⟩ := tsize_ok ht hs
  obtain ⟨ie', zv, hie', hzv, hzc, _⟩ := tzero_ok ht hz
  rw [hie] at hie'
  cases hie'
  have hbytes := small_bytes ht hie hsm
  have hu := und_ok ht hd
  have hzs : zv.cells.size = size := by rw [← Array.length_toList, hzc, hzl]
  refine ⟨fun b off sLen sCap w' hle g1 => app_room hu hie (by rw [hisz]; exact hsrc) hle (by rw [hisz]; exact g1), fun base ln cap' old hc hsmall hol hold => ?_⟩
  have hfit : Builtin.nextslicecap (ln + m) cap' * ie.bytes ≤ 281474976710656 := by
    have h1 := nextcap_le hc
    calc Builtin.nextslicecap (ln + m) cap' * ie.bytes ≤ (2 * (ln + m) + 512) * 65536 := Nat.mul_le_mul h1 hbytes
      _ ≤ 281474976710656 := by omega
  have hrun := run_append_grow_src (P := P) w t tx ty' e ie zv hu hie hzv base ln cap' old (by rw [hisz]; exact hold) x m news (by rw [hisz]; exact hsrc) hc (by omega) hfit
  exact ⟨grownCap w (ln + m) cap' e, Builtin.zeroCells zv.cells (grownCap w (ln + m) cap' e - (ln + m)), grownCap_ge w _ _ _, by rw [size_zeros, hzs], hrun⟩

/-- What 'append' does to a slice, here and in the model. -/
theorem appV_s (ht : TyOk P ty) {t tx ty' e : TypeId} {size : Nat} {z : List Value} (hd : und ty t = some (.slice e)) (hs : tsize ty e = some size) (hpos : 0 < size) (hz : tzero ty e = some z) (hzl : z.length = size) (hsm : small ty e = true)
    {h : H} {n : Nat} {a : Option Addr} {ln cap m : Nat} {new : List Value} {k : KV} (hm : m ≠ 0) (hnew : new.length = m * size) (hh : appV h n e size a ln cap m new k = some res) (hsz : Sz h n) :
    ∃ v' h' n', Sz h' n' ∧ k v' h' n' = some res ∧ ∀ (r : Ren) (w : World) (x : Value), wf n r (.slice a ln cap) → Rep P r h.at n w → (∀ y ∈ new, wf0 n r y) → AppS P t tx ty' e size x m (new.map (ren0 r)) w →
      ∃ r' w', (Builtin.append_ #[t, tx] ty' #[ren r (.slice a ln cap), x]).run P w = .ok (ren r' v') w' ∧ wf n' r' v' ∧ Ev P r h.at n w r' h'.at n' w' := by
  obtain ⟨ie, hie, hisz, hcells⟩ := tsize_ok ht hs
  obtain ⟨ie', zv, hie', hzv, hzc, _⟩ := tzero_ok ht hz
  rw [hie] at hie'
  cases hie'
  have hbytes : ie.bytes ≤ 65536 := by
    unfold small at hsm
    cases hi : info? ty e with
    | none => rw [hi] at hsm; cases hsm
    | some j =>
      rw [hi] at hsm
      have := ht.info e j hi
      rw [hie] at this
      cases this
      exact Nat.le_of_ble_eq_true hsm
  have hu := und_ok ht hd
  have hzs : zv.cells.size = size := by rw [← Array.length_toList, hzc, hzl]
  unfold appV at hh
  rw [forceN_eq] at hh
  have hneed : Nat.add ln m = ln + m := rfl
  rw [hneed] at hh
  -- a new row
  have grow : ∀ (r : Ren) (w : World) (x : Value) (base : Option Addr) (cap' : Nat) (old : List Value), cap' < ln + m → ln + m ≤ 1048576 → old.length = ln * size →
      (Builtin.firstCells size ln (.slice base ln cap')).run P w.drew = .ok (old.map (ren0 r)).toArray w.drew → AppS P t tx ty' e size x m (new.map (ren0 r)) w →
      ∃ c rest, ln + m ≤ c ∧ rest.size = (c - (ln + m)) * size ∧ (Builtin.append_ #[t, tx] ty' #[.slice base ln cap', x]).run P w = .ok (.slice (some ⟨w.heap.size, 0, none⟩) (ln + m) c) (w.drew.alloc (.cells (((old ++ new).map (ren0 r)).toArray ++ rest) e)) := fun r w x base cap' old hc hsmall hol hold hsrc => by
    obtain ⟨c, rest, a1, a2, a3⟩ := hsrc.grow base ln cap' (old.map (ren0 r)) hc hsmall (by rw [List.length_map, hol]) hold
    exact ⟨c, rest, a1, a2, by rw [a3, List.map_append]⟩
  rcases boolK hh with ⟨c1, hA⟩ | ⟨c1, hB⟩
  · -- need ≤ cap
    have hle : ln + m ≤ cap := Nat.le_of_ble_eq_true c1
    obtain ⟨p, rfl, hA⟩ := optK hA
    rcases boolK hA with ⟨c2, hO⟩ | ⟨c2, hE⟩
    · -- a row whose size is not known
      have hop : OPEN ≤ cap := Nat.le_of_ble_eq_true c2
      obtain ⟨b, off, spot⟩ := p
      cases spot with
      | some s => cases hO
      | none =>
        cases off with
        | succ off => cases hO
        | zero =>
          have hO1 : appO h n e size b ln cap (ln + m) new k = some res := hO
          obtain ⟨e', op, blen, o, cs, hb, qa⟩ := blkK_some hO1
          obtain ⟨q2, qb⟩ := boolK' qa
          obtain ⟨q3, qc⟩ := boolK' qb
          obtain ⟨q4, qd⟩ := boolK' qc
          obtain ⟨q5, q1⟩ := boolK' qd
          clear qa qb qc qd
          have he : e' = e := Nat.eq_of_beq_eq_true q2
          have hcap : cap = OPEN := Nat.eq_of_beq_eq_true q4
          have hbl : ln * size ≤ blen := Nat.le_of_ble_eq_true q5
          subst he
          subst q3
          subst hcap
          have hne : new ≠ [] := by
            intro h0
            rw [h0, List.length_nil] at hnew
            have := Nat.mul_pos (Nat.pos_of_ne_zero hm) hpos
            omega
          obtain ⟨xx, yy, zz, hput⟩ := Tr.putL_ne (t := cs) (Nat.add o (Nat.mul ln size)) new (.inl hne)
          rw [hput] at q1
          have hput' : Tr.nd xx yy zz = cs.putL (o + ln * size) new := hput.symm
          have hren : ∀ r : Ren, ren r (.slice (some ⟨b, 0, none⟩) ln OPEN) = .slice (some ⟨r.blk b, 0, none⟩) ln (r.cap b) := fun r => by
            rw [sl_eval rfl, if_neg (Nat.lt_irrefl _), Nat.sub_self]
            rfl
          have hadd : ln * size + m * size = (ln + m) * size := (Nat.add_mul ..).symm
          have q6 : @Bool.rec (fun _ => R)
              (@Bool.rec (fun _ => R) none (putH h b .dead fun h => forceN (Nat.mul (ln + m) size) fun c => newB h n (.row e' true c o (.nd xx yy zz)) fun h n' => k (.slice (some ⟨n, 0, none⟩) (ln + m) OPEN) h n') (Nat.ble (ln + m) 1048576))
              (putH h b (.row e' true blen o (.nd xx yy zz)) fun h => k (.slice (some ⟨b, 0, none⟩) (ln + m) OPEN) h n) (Nat.ble (Nat.mul (ln + m) size) blen) = some res := q1
          rcases boolK q6 with ⟨c3, hP⟩ | ⟨c3, hG⟩
          · -- there is room in what is known
            have hroom : (ln + m) * size ≤ blen := Nat.le_of_ble_eq_true c3
            have h9 := putH_some hP
            rw [hput'] at h9
            have hbn : b < n := (hsz b).1 (by rw [hb]; rfl)
            refine ⟨_, _, n, ?_, h9, fun r w x hw hr hwn hsrc => ?_⟩
            · have := (hsz.put b (Nat.le_of_lt hbn) (.row e' true blen o (cs.putL (o + ln * size) new))).1
              rwa [show max n (b + 1) = n by omega] at this
            · obtain ⟨w', g1, g2, g3⟩ := store_ev hsz hr hb (off := ln * size) (vs := new) (by rw [hnew]; omega) hwn
              obtain ⟨c, frz, mm, r1, r2, r3, r4, _⟩ := hr.blk b _ hb
              have hcc : ln + m ≤ r.cap b := by
                have := r4 rfl
                rw [hcells] at this
                exact Nat.le_of_mul_le_mul_right (Nat.le_trans hroom (by omega) : (ln + m) * size ≤ r.cap b * size) hpos
              refine ⟨r, w', ?_, ⟨hbn, fun _ hn => absurd rfl hn, fun hn => absurd rfl hn, fun _ => by rw [Nat.sub_self]; exact hcc⟩, g3⟩
              rw [hren, hsrc.room _ _ _ _ _ hcc (by rw [Nat.zero_add]; exact g1), sl_eval rfl, if_neg (Nat.lt_irrefl _), Nat.sub_self]
              rfl
          · -- there is none in what is known
            obtain ⟨c4, hG⟩ := boolK' hG
            have hsmall : ln + m ≤ 1048576 := Nat.le_of_ble_eq_true c4
            have h8 := putH_some hG
            rw [forceN_eq] at h8
            have h9 := newB_some h8
            rw [hput'] at h9
            have hbn : b < n := (hsz b).1 (by rw [hb]; rfl)
            have hlt : blen < (ln + m) * size := by
              have : ¬ ((ln + m) * size ≤ blen) := fun hh => by
                have := Nat.ble_eq_true_of_le hh
                rw [show Nat.ble ((ln + m) * size) blen = false from c3] at this
                cases this
              omega
            have s1 : Sz (h.put b .dead) n := by
              have := (hsz.put b (Nat.le_of_lt hbn) .dead).1
              rwa [show max n (b + 1) = n by omega] at this
            have s2 := (s1.put n (Nat.le_refl _) (.row e' true ((ln + m) * size) o (cs.putL (o + ln * size) new))).1
            rw [show max n (n + 1) = n + 1 by omega] at s2
            refine ⟨_, _, n + 1, s2, h9, fun r w x hw hr hwn hsrc => ?_⟩
            obtain ⟨c, frz, mm, r1, r2, r3, r4, r5, r6, r7, r8⟩ := hr.blk b _ hb
            have hcs := r4 rfl
            rw [hcells] at hcs
            obtain ⟨t1, t2⟩ := r7.putL new (o + ln * size) (by omega)
            by_cases hc : ln + m ≤ r.cap b
            · -- it grows where it stands
              have hfit : (ln + m) * size ≤ c.size := by rw [hcs]; exact Nat.mul_le_mul_right _ hc
              have hst := run_store_row (P := P) (r.blk b) (ln * size) e' frz (new.map (ren0 r)) 0 c w r1 r5 (by rw [List.length_map, hnew]; omega) (fun v hv => by
                obtain ⟨q, hq, rfl⟩ := List.mem_map.1 hv
                exact ren0_one (hwn q hq))
              have hlen : ((c.toList.take (ln * size + 0) ++ new.map (ren0 r) ++ c.toList.drop (ln * size + 0 + (new.map (ren0 r)).length)).toArray).size = c.size := by
                simp
                omega
              have hag : Ag n r (r.set n (r.blk b) (r.cap b)) := fun q hq => Ren.set_ne r (by omega)
              obtain ⟨_, g2⟩ := grow_ev (hout := by exact ⟨rfl, rfl, rfl⟩) (x' := .row e' true ((ln + m) * size) o (cs.putL (o + ln * size) new)) hsz hr hb (fun e => by cases e) (setRow_size w (r.blk b) _) (fun k hk => setRow_ne w (r.blk b) _ hk)
                (⟨_, frz, _, by rw [Ren.set_blk]; exact setRow_heap w (r.blk b) c _ e' frz r1, by rw [hlen]; exact hfit, (fun hf => by cases hf), fun _ => by rw [hlen, Ren.set_cap, hcells]; exact hcs, by rw [hlen]; exact r5, by rw [hnew]; omega, t1, fun i hi => by
                  have hget := mid_get c.toList (new.map (ren0 r)) (ln * size) (by rw [List.length_map, hnew, Array.length_toList]; omega) i
                  rw [List.getElem?_toArray, show ln * size + 0 = ln * size from rfl, hget, t2]
                  by_cases hin : ln * size ≤ i
                  · have hil : i - ln * size < new.length := by omega
                    refine ⟨new[i - ln * size], ?_, (hwn _ (List.getElem_mem hil)).mono (Nat.le_succ _) hag, ?_⟩
                    · rw [if_pos (by omega), show o + i - (o + ln * size) = i - ln * size by omega, List.getElem?_eq_getElem hil]
                    · rw [if_pos (by rw [List.length_map]; omega), List.getElem?_map, List.getElem?_eq_getElem hil, ren0_ag hag (hwn _ (List.getElem_mem hil))]
                      rfl
                  · obtain ⟨v, a1, a2, a3⟩ := r8 i (by omega)
                    refine ⟨v, by rw [if_neg (by omega)]; exact a1, a2.mono (Nat.le_succ _) hag, ?_⟩
                    rw [if_neg (by omega), Array.getElem?_toList, a3, ren0_ag hag a2]⟩ : RowRep P (r.set n (r.blk b) (r.cap b)) (n + 1) n e' true ((ln + m) * size) o (cs.putL (o + ln * size) new) (w.setRow (r.blk b) (c.toList.take (ln * size + 0) ++ new.map (ren0 r) ++ c.toList.drop (ln * size + 0 + (new.map (ren0 r)).length)).toArray))
              refine ⟨_, _, ?_, ⟨Nat.lt_succ_self n, fun _ hn => absurd rfl hn, fun hn => absurd rfl hn, fun _ => by rw [Nat.sub_self, Ren.set_cap]; exact hc⟩, g2⟩
              rw [hren, hsrc.room _ _ _ _ _ hc (by rw [Nat.zero_add]; exact hst), sl_eval rfl, if_neg (Nat.lt_irrefl _), Nat.sub_self]
              show _ = Result.ok (Value.slice (some ⟨(r.set n (r.blk b) (r.cap b)).blk n, 0, none⟩) (ln + m) ((r.set n (r.blk b) (r.cap b)).cap n - 0)) _
              rw [Ren.set_blk, Ren.set_cap]
              rfl
            · -- a new row
              have hold : ∀ i, i < ln * size → ∃ v, cs.at (o + i) = some v := fun i hi => by
                obtain ⟨v, a1, _⟩ := r8 i (by omega)
                exact ⟨v, a1⟩
              let old : List Value := (List.range (ln * size)).map fun i => (cs.at (o + i)).getD default
              have hol : old.length = ln * size := by simp [old]
              have hog : ∀ i, i < ln * size → cs.at (o + i) = old[i]? := fun i hi => by
                obtain ⟨v, hv⟩ := hold i hi
                simp [old, hi, hv]
              have hcl : Cells h.at b 0 old := ⟨e', true, blen, o, cs, hb, by rw [hol]; omega, fun j hj => by rw [Nat.add_zero]; exact hog j (by omega)⟩
              obtain ⟨hcw, hcc⟩ := hcl.rep hr
              have hfirst : (Builtin.firstCells size ln (.slice (some ⟨r.blk b, 0, none⟩) ln (r.cap b))).run P w.drew = .ok (old.map (ren0 r)).toArray w.drew := by
                refine run_firstCells_some w.drew size ln ⟨r.blk b, 0, none⟩ ln (r.cap b) _ (by rw [List.length_map, hol]) (fun j v hj => ?_)
                rw [List.getElem?_map] at hj
                cases hq : old[j]? with
                | none => rw [hq] at hj; cases hj
                | some q =>
                  rw [hq] at hj
                  cases hj
                  simpa using hcc j q hq
              obtain ⟨cc, rest, k1, k2, k3⟩ := grow r w x (some ⟨r.blk b, 0, none⟩) (r.cap b) old (by omega) hsmall hol hfirst hsrc
              obtain ⟨z1, z2⟩ := kill_ev hsz hr hb (fun e => by cases e)
              obtain ⟨_, y2⟩ := new_ev (hout := by exact ⟨rfl, rfl, rfl⟩) (x := .row e' true ((ln + m) * size) o (cs.putL (o + ln * size) new)) (c := cc) (w' := w.drew.alloc (.cells (((old ++ new).map (ren0 r)).toArray ++ rest) e')) z1 z2.rep rfl
                (open_row hcells (l := old ++ new) (fun q hq => by
                    rcases List.mem_append.1 hq with hq | hq
                    · exact hcw q hq
                    · exact hwn q hq) (by rw [List.length_append, hol, hnew]; exact hadd) t1 (by rw [hnew]; omega) (fun i hi => by
                    rw [t2]
                    by_cases hin : ln * size ≤ i
                    · rw [if_pos (by omega), List.getElem?_append_right (by omega), hol, show o + i - (o + ln * size) = i - ln * size by omega]
                    · rw [if_neg (by omega), List.getElem?_append_left (by omega)]
                      exact hog i (by omega)) k2 k1 (by show (w.heap.push _)[w.heap.size]? = _; rw [Array.getElem?_push_size]))
              refine ⟨_, _, ?_, ⟨Nat.lt_succ_self n, fun _ hn => absurd rfl hn, fun hn => absurd rfl hn, fun _ => by rw [Nat.sub_self, Ren.set_cap]; exact k1⟩, z2.trans y2⟩
              rw [hren, k3, sl_eval rfl, if_neg (Nat.lt_irrefl _), Nat.sub_self]
              show _ = Result.ok (Value.slice (some ⟨(r.set n w.heap.size cc).blk n, 0, none⟩) (ln + m) ((r.set n w.heap.size cc).cap n - 0)) _
              rw [Ren.set_blk, Ren.set_cap]
              rfl
    · -- a row whose cap is known
      have hcap : cap < OPEN := by
        have : ¬ (OPEN ≤ cap) := fun hh => by rw [Nat.ble_eq_true_of_le hh] at c2; cases c2
        omega
      have h5 := addA_some hE
      rcases storeK_some h5 with ⟨h0, _⟩ | ⟨hne, hsp, e2, op, bl, o, cs, hb, hfit, h9⟩
      · exfalso
        rw [h0, List.length_nil] at hnew
        have := Nat.mul_pos (Nat.pos_of_ne_zero hm) hpos
        omega
      · rw [add_block] at hb h9
        rw [add_off] at hfit h9
        have hbn : p.block < n := (hsz _).1 (by rw [hb]; rfl)
        refine ⟨_, _, n, ?_, h9, fun r w x hw hr hwn hsrc => ?_⟩
        · have := (hsz.put p.block (Nat.le_of_lt hbn) (.row e2 op bl o (cs.putL (o + (p.off + ln * size)) new))).1
          rwa [show max n (p.block + 1) = n by omega] at this
        · have hps : p.spot = none := by
            by_cases e : p.spot = none
            · exact e
            · have := hw.2.1 hcap e
              omega
          obtain ⟨w', g1, g2, g3⟩ := store_ev hsz hr hb (off := p.off + ln * size) (vs := new) hfit hwn
          refine ⟨r, w', ?_, ⟨hbn, fun _ hn => absurd hps hn, fun hn => absurd hps hn, fun ho => by omega⟩, g3⟩
          rw [sl_eval hps, if_pos hcap, sl_eval hps, if_pos hcap]
          exact hsrc.room _ _ _ _ _ hle g1
  · -- need > cap
    obtain ⟨c2, hB⟩ := boolK' hB
    have hsmall : ln + m ≤ 1048576 := Nat.le_of_ble_eq_true c2
    have hlt : cap < ln + m := by
      have : ¬ (ln + m ≤ cap) := fun hh => by rw [Nat.ble_eq_true_of_le hh] at c1; cases c1
      omega
    have hcap : cap < OPEN := by have := open_max; unfold MAX at this; omega
    -- the elders
    have key : ∃ old : List Value, old.length = ln * size ∧ k (.slice (some ⟨n, 0, none⟩) (ln + m) OPEN) (h.put n (.row e true ((ln + m) * size) 0 (ofL (old ++ new)))) (n + 1) = some res ∧
        ∀ (r : Ren) (w : World), wf n r (.slice a ln cap) → Rep P r h.at n w → (∀ y ∈ old, wf0 n r y) ∧ ∃ base, ren r (.slice a ln cap) = .slice base ln cap ∧ (Builtin.firstCells size ln (.slice base ln cap)).run P w.drew = .ok (old.map (ren0 r)).toArray w.drew := by
      cases a with
      | none =>
        cases ln with
        | succ ln => cases hB
        | zero =>
          have h8 := (show forceN (Nat.mul (0 + m) size) (fun c => newB h n (.row e true c 0 (ofL ([] ++ new))) fun h n' => k (.slice (some ⟨n, 0, none⟩) (0 + m) OPEN) h n') = some res from hB)
          rw [forceN_eq] at h8
          exact ⟨[], by simp, newB_some h8, fun r w _ _ => ⟨fun y hy => by simp at hy, none, rfl, run_firstCells_none w.drew size 0 0 cap⟩⟩
      | some p =>
        obtain ⟨hsp, old, hol, hcl, h7⟩ := loadK_some (show loadK h p (ln * size) _ = some res from hB)
        rw [forceN_eq] at h7
        refine ⟨old, hol, newB_some h7, fun r w hw hr => ?_⟩
        obtain ⟨g1, g2⟩ := hcl.rep hr
        refine ⟨g1, some (ra r p), by rw [sl_eval hsp, if_pos hcap], run_firstCells_some w.drew size ln (ra r p) ln cap _ (by rw [List.length_map, hol]) (fun j v hj => ?_)⟩
        rw [List.getElem?_map] at hj
        cases hq : old[j]? with
        | none => rw [hq] at hj; cases hj
        | some q =>
          rw [hq] at hj
          cases hj
          exact g2 j q hq
    obtain ⟨old, hol, h9, hrep⟩ := key
    have s2 := (hsz.put n (Nat.le_refl _) (.row e true ((ln + m) * size) 0 (ofL (old ++ new)))).1
    rw [show max n (n + 1) = n + 1 by omega] at s2
    refine ⟨_, _, n + 1, s2, h9, fun r w x hw hr hwn hsrc => ?_⟩
    obtain ⟨ho, base, hb, hfirst⟩ := hrep r w hw hr
    obtain ⟨cc, rest, k1, k2, k3⟩ := grow r w x base cap old hlt hsmall hol hfirst hsrc
    obtain ⟨t1, t2⟩ := ofL_sz (old ++ new)
    have hlen : (old ++ new).length = (ln + m) * size := by rw [List.length_append, hol, hnew]; exact (Nat.add_mul ..).symm
    obtain ⟨_, y2⟩ := new_ev (hout := by exact ⟨rfl, rfl, rfl⟩) (x := .row e true ((ln + m) * size) 0 (ofL (old ++ new))) (c := cc) (w' := w.drew.alloc (.cells (((old ++ new).map (ren0 r)).toArray ++ rest) e)) hsz hr rfl
      (open_row hcells (l := old ++ new) (fun q hq => by
          rcases List.mem_append.1 hq with hq | hq
          · exact ho q hq
          · exact hwn q hq) hlen t1 (by omega) (fun i hi => by rw [Nat.zero_add]; exact t2 i (by omega)) k2 k1 (by show (w.heap.push _)[w.heap.size]? = _; rw [Array.getElem?_push_size]))
    refine ⟨_, _, ?_, ⟨Nat.lt_succ_self n, fun _ hn => absurd rfl hn, fun hn => absurd rfl hn, fun _ => by rw [Nat.sub_self, Ren.set_cap]; exact k1⟩, y2⟩
    rw [hb, k3, sl_eval rfl, if_neg (Nat.lt_irrefl _), Nat.sub_self]
    show _ = Result.ok (Value.slice (some ⟨(r.set n w.heap.size cc).blk n, 0, none⟩) (ln + m) ((r.set n w.heap.size cc).cap n - 0)) _
    rw [Ren.set_blk, Ren.set_cap]
    rfl
end
end Go.Proofs.YtccbdaffjkdpgaaGreatDoor.Vw
namespace Go.Proofs.YtccbdaffjkdpgaaGreatDoor.Vw

section
variable [Val] {P : Program} {ty : Ty} {live : List Nat} {cx : Cx} {len : Nat} {res : Value × H × Nat}

omit [Val] in
theorem lenV_some {v : Value} {k : Nat → R} (h : Vw.lenV v k = some res) : ∃ m, k m = some res ∧ ∀ q : Nat → R, Vw.lenV v q = q m := by
  cases v with
  | slice a n c => exact ⟨n, h, fun _ => rfl⟩
  | string s => exact ⟨s.size, h, fun _ => rfl⟩
  | _ => cases h

/-- nothing is appended -/
theorem src0 {t : TypeId} {size _n : Nat} {u : Value} {r : Ren} {w : World} (hk : (∃ e', P.underlying t = some (.slice e')) ∨ P.underlying t = some .string) (hl : ∀ q : Nat → R, Vw.lenV u q = q 0) (hu : ∃ k : Nat → R, Vw.lenV u k = some res) : Go.Src P size t (ren r u) 0 [] w := by
  obtain ⟨k, hu⟩ := hu
  have h0 := hl (fun j => if j = 0 then some (Value.nilFunc, (Tr.e : Tr Blk), 0) else none)
  cases u with
  | slice p ln c =>
    have hln : ln = 0 := by
      have h1 : (if ln = 0 then some (Value.nilFunc, (Tr.e : Tr Blk), 0) else none) = some (Value.nilFunc, Tr.e, 0) := h0
      split at h1
      · assumption
      · cases h1
    subst hln
    cases p with
    | none => exact ⟨hk, fun _ => rfl, run_firstCells_none w size 0 0 c, run_firstCells_none w.drew size 0 0 c, by simp, fun v hv => by simp at hv⟩
    | some p =>
      obtain ⟨a', c', e2⟩ := sl_len (r := r) (a := some p) (l := 0) (c := c)
      rw [e2]
      cases a' with
      | none => exact ⟨hk, fun _ => rfl, run_firstCells_none w size 0 0 c', run_firstCells_none w.drew size 0 0 c', by simp, fun v hv => by simp at hv⟩
      | some a' => exact ⟨hk, fun _ => rfl, run_firstCells_some w size 0 a' 0 c' [] (by simp) (fun j v hj => by simp at hj), run_firstCells_some w.drew size 0 a' 0 c' [] (by simp) (fun j v hj => by simp at hj), by simp, fun v hv => by simp at hv⟩
  | string s =>
    have hln : s.size = 0 := by
      have h1 : (if s.size = 0 then some (Value.nilFunc, (Tr.e : Tr Blk), 0) else none) = some (Value.nilFunc, Tr.e, 0) := h0
      split at h1
      · assumption
      · cases h1
    have hrun : ∀ w : World, (Builtin.firstCells size 0 (.string s)).run P w = .ok (([] : List Value).toArray) w := fun w => by
      simp [Builtin.firstCells]
    exact ⟨hk, fun _ => by show Result.ok s.size _ = _; rw [hln], hrun w, hrun w.drew, by simp, fun v hv => by simp at hv⟩
  | _ => cases hu

omit [Val] in
theorem app_none {t tx ty' e : TypeId} {i : TypeInfo} (ht : P.underlying t = some (.slice e)) (hi : P.info? e = some i) {base : Option Addr} {sLen sCap : Nat} {x : Value} {w : World} (hs : Go.Src P i.size tx x 0 [] w)
    (hroom : sLen ≤ sCap) : (Builtin.append_ #[t, tx] ty' #[.slice base sLen sCap, x]).run P w = .ok (.slice base sLen sCap) w := by
  have h0 : ∀ a : Addr, (storeCells a []).run P w = .ok () w := fun _ => rfl
  cases base <;> rcases hs.kind with ⟨e', hk⟩ | hk <;> simp [Builtin.append_, run_underlying ht, run_underlying hk, sizeOf, typeInfo, hi, hs.len, hroom, hs.cells, h0]

theorem app_s (ht : TyOk P ty) {c : Go.Call} {t u e : TypeId} {size : Nat} {z : List Value} {x y : Operand} {x' y' : Opd} (hc : c.callee = .builtin .append) (ht1 : c.argTypes.toList = [t, u]) (ha : c.args.toList = [x, y])
    (hd : und ty t = some (.slice e)) (hu : (∃ e', und ty u = some (.slice e')) ∨ und ty u = some .string) (hs : tsize ty e = some size) (hpos : 0 < size) (hz : tzero ty e = some z) (hzl : z.length = size) (hsm : small ty e = true)
    (hx : copd live cx len x = some x') (hy : copd live cx len y = some y') : EfS P live cx len (.call c) (appE e size x' y') := fun call _ L f h n k res hh hsz => by
  have hargs : c.args = #[x, y] := Array.ext' (by simpa using ha)
  have htys : c.argTypes = #[t, u] := Array.ext' (by simpa using ht1)
  have hk : (∃ e', P.underlying u = some (.slice e')) ∨ P.underlying u = some .string := by
    rcases hu with ⟨e', hu⟩ | hu
    · exact .inl ⟨e', und_ok ht hu⟩
    · exact .inr (und_ok ht hu)
  obtain ⟨ie, hie, hisz, hcells⟩ := tsize_ok ht hs
  obtain ⟨v1, g1, g2⟩ := ev_EvV hh
  obtain ⟨v2, g3, g4⟩ := ev_EvV g2
  obtain ⟨a, ln, cap, rfl, g5⟩ := asSl_some g4
  obtain ⟨m, g6, g7⟩ := lenV_some g5
  have fin : ∀ (r : Ren) (ac : Act) (w : World), EnvR live cx len L f n r ac → ∀ (op : Oper), op.op = .call c → ∀ (v' : Value) (w' : World), (Builtin.append_ #[t, u] op.type #[ren r (.slice a ln cap), ren r v2]).run P w = .ok v' w' → (execOp ac.eval op).run P w = .ok (.value v') w' := fun r ac w he op ho v' w' hrun => by
    obtain ⟨_, e1⟩ := copd_eval hx g1 he
    obtain ⟨_, e2⟩ := copd_eval hy g3 he
    simp [execOp, ho, resolve, hc, hargs, htys, e1, e2, invoke, builtin, hrun]
  cases m with
  | zero =>
    obtain ⟨q1, q2⟩ := boolK' (show @Bool.rec (fun _ => R) none (k (.slice a ln cap) h n) (Nat.ble ln cap) = some res from g6)
    refine ⟨_, h, n, hsz, q2, fun r ac w he hr op ho K Q hK => ?_⟩
    obtain ⟨hw, _⟩ := copd_eval hx g1 he
    have hle : ln ≤ cap := Nat.le_of_ble_eq_true q1
    refine wp_value (fin r ac w he op ho _ w ?_) (hK r w hw (Ev.refl hr))
    have hsrc := src0 (P := P) (t := u) (size := size) (_n := n) (u := v2) (r := r) (w := w) hk g7 ⟨_, g5⟩
    cases a with
    | none => exact app_none (und_ok ht hd) hie (by rw [hisz]; exact hsrc) hle
    | some p =>
      by_cases hcap : cap < OPEN
      · have hsl : ∃ q, ren r (.slice (some p) ln cap) = .slice q ln cap := by
          show ∃ q, rsl r p ln cap = _
          unfold rsl
          rw [if_pos hcap]
          exact ⟨_, rfl⟩
        obtain ⟨q, hq⟩ := hsl
        rw [hq]
        exact app_none (und_ok ht hd) hie (by rw [hisz]; exact hsrc) hle
      · have hle2 : ln ≤ r.cap p.block - (cap - OPEN) := by
          have := hw.2.2.2 (Nat.le_of_not_lt hcap)
          exact Nat.le_sub_of_add_le this
        have hsl : ∃ q, ren r (.slice (some p) ln cap) = .slice q ln (r.cap p.block - (cap - OPEN)) := by
          show ∃ q, rsl r p ln cap = _
          unfold rsl
          rw [if_neg hcap]
          cases p.spot with
          | none => exact ⟨_, rfl⟩
          | some s => exact ⟨_, rfl⟩
        obtain ⟨q, hq⟩ := hsl
        rw [hq]
        exact app_none (und_ok ht hd) hie (by rw [hisz]; exact hsrc) hle2
  | succ m' =>
    have hf : firstC h size (m' + 1) v2 (fun new => appV h n e size a ln cap (m' + 1) new k) = some res := g6
    have hlen : Vw.lenV v2 (fun j => if j = m' + 1 then some (Value.nilFunc, (Tr.e : Tr Blk), 0) else none) = some (Value.nilFunc, Tr.e, 0) := by
      rw [g7, if_pos rfl]
    obtain ⟨new, n1, n2, n3⟩ : ∃ new, appV h n e size a ln cap (m' + 1) new k = some res ∧ new.length = (m' + 1) * size ∧ ∀ (r : Ren) (w : World), wf n r v2 → Rep P r h.at n w → (∀ x ∈ new, wf0 n r x) ∧ Go.Src P size u (ren r v2) (m' + 1) (new.map (ren0 r)) w := by
      exact src_s (P := P) (n := n) hk hlen hf (Nat.succ_ne_zero m')
    obtain ⟨v', h', n', s1, s2, s3⟩ := appV_s (P := P) (tx := u) (ty' := t) ht hd hs hpos hz hzl hsm (Nat.succ_ne_zero m') n2 n1 hsz
    refine ⟨v', h', n', s1, s2, fun r ac w he hr op ho K Q hK => ?_⟩
    obtain ⟨hw, _⟩ := copd_eval hx g1 he
    obtain ⟨hw2, _⟩ := copd_eval hy g3 he
    obtain ⟨m1, m2⟩ := n3 r w hw2 hr
    obtain ⟨r', w', x1, x2, x3⟩ := s3 r w _ hw hr m1 (appS_src ht hd hs hz hzl hsm m2)
    have x1' : (Builtin.append_ #[t, u] op.type #[ren r (.slice a ln cap), ren r v2]).run P w = .ok (ren r' v') w' := x1
    exact wp_value (fin r ac w he op ho _ w' x1') (hK r' w' x2 x3)
end
end Go.Proofs.YtccbdaffjkdpgaaGreatDoor.Vw
namespace Go.Proofs.YtccbdaffjkdpgaaGreatDoor.Vw

section
variable [Val] {P : Program} {ty : Ty} {live : List Nat} {cx : Cx} {len : Nat} {res : Value × H × Nat}

theorem stK_s {h : H} {n : Nat} {p : Addr} {vs : List Value} {k : H → R} (hh : storeK h p vs k = some res) (hsz : Sz h n) : (vs ≠ [] → p.spot = none) ∧ ∃ h', Sz h' n ∧ k h' = some res ∧ ∀ (r : Ren) (w : World), Rep P r h.at n w → (∀ x ∈ vs, wf0 n r x) →
    ∃ w', (storeCells (ra r p) (vs.map (ren0 r))).run P w = .ok () w' ∧ Ev P r h.at n w r h'.at n w' := by
  rcases storeK_some hh with ⟨hnil, h9⟩ | ⟨hne, hsp, e, op, ln, o, cs, hb, hl, h9⟩
  · subst hnil
    exact ⟨fun h0 => absurd rfl h0, h, hsz, h9, fun r w hr _ => ⟨w, rfl, Ev.refl hr⟩⟩
  · have s := (hsz.put p.block (Nat.le_of_lt ((hsz p.block).1 (by rw [hb]; rfl))) (.row e op ln o (cs.putL (o + p.off) vs))).1
    rw [show max n (p.block + 1) = n by have := (hsz p.block).1 (by rw [hb]; rfl); omega] at s
    refine ⟨fun _ => hsp, _, s, h9, fun r w hr hw => ?_⟩
    obtain ⟨w', g1, _, g3⟩ := store_ev hsz hr hb hl hw
    exact ⟨w', g1, g3⟩

omit [Val] in
theorem zero_cells (z : Array Value) (n : Nat) : Builtin.zeroCells z n = (repl z.toList n).toArray := zeros_eq z n

theorem clr_s (ht : TyOk P ty) {c : Go.Call} {t e : TypeId} {z : List Value} {x : Operand} {x' : Opd} (hc : c.callee = .builtin .clear) (ht1 : c.argTypes.toList = [t]) (ha : c.args.toList = [x])
    (hd : und ty t = some (.slice e)) (hz : tzero ty e = some z) (hx : copd live cx len x = some x') : EfS P live cx len (.call c) (clrE z x') := fun call _ L f h n k res hh hsz => by
  have hargs : c.args = #[x] := Array.ext' (by simpa using ha)
  have htys : c.argTypes = #[t] := Array.ext' (by simpa using ht1)
  obtain ⟨ie, zv, hie, hzv, hzc, hzk, _⟩ := tzero_ok ht hz
  obtain ⟨v1, g1, g2⟩ := ev_EvV hh
  obtain ⟨a, m, cap, rfl, g5⟩ := asSl_some g2
  have fin : ∀ (r : Ren) (ac : Act) (w : World), EnvR live cx len L f n r ac → ∀ (op : Oper), op.op = .call c → ∀ (w' : World), (Builtin.clear_ #[t] op.type #[ren r (.slice a m cap)]).run P w = .ok (.tuple #[]) w' → (execOp ac.eval op).run P w = .ok (.value (.tuple #[])) w' := fun r ac w he op ho w' hrun => by
    obtain ⟨_, e1⟩ := copd_eval hx g1 he
    simp [execOp, ho, resolve, hc, hargs, htys, e1, invoke, builtin, hrun]
  have skip : ∀ (q : Option Addr) (ln c' : Nat) (w : World), q = none ∨ ln = 0 → (Builtin.clear_ #[t] 0 #[.slice q ln c']).run P w = .ok (.tuple #[]) w := fun q ln c' w hq => by
    rcases hq with rfl | rfl
    · simp [Builtin.clear_, run_und ht hd]
    · cases q <;> simp [Builtin.clear_, run_und ht hd]
  have done : ∀ (r : Ren) (ac : Act) (w : World), EnvR live cx len L f n r ac → Rep P r h.at n w → ∀ (op : Oper), op.op = .call c → ∀ (K : Act → World → Prop) (Q : Exit → Act → World → Prop),
      (∀ r' w', wf n r' (.tuple #[]) → Ev P r h.at n w r' h.at n w' → K (ac.put op.dst (ren r' (.tuple #[]))) w') → (∃ q ln c', ren r (.slice a m cap) = .slice q ln c' ∧ (q = none ∨ ln = 0)) → op.wp P ac w K Q := fun r ac w he hr op ho K Q hK hs => by
    obtain ⟨q, ln, c', e1, e2⟩ := hs
    refine wp_value (fin r ac w he op ho w (by rw [e1]; exact skip q ln c' w e2)) ?_
    have := hK r w (wf_undef _ _) (Ev.refl hr)
    rwa [ren_undef] at this
  cases m with
  | zero =>
    refine ⟨_, h, n, hsz, g5, fun r ac w he hr op ho K Q hK => done r ac w he hr op ho K Q hK ?_⟩
    obtain ⟨a', c', e2⟩ := sl_len (r := r) (a := a) (l := 0) (c := cap)
    exact ⟨_, _, _, e2, .inr rfl⟩
  | succ m' =>
    cases a with
    | none => exact ⟨_, h, n, hsz, g5, fun r ac w he hr op ho K Q hK => done r ac w he hr op ho K Q hK ⟨_, _, _, rfl, .inl rfl⟩⟩
    | some p =>
      obtain ⟨hsp, h', s1, s2, s3⟩ := stK_s (P := P) (show storeK h p (repl z (m' + 1)) (fun h => k (.tuple #[]) h n) = some res from g5) hsz
      refine ⟨_, h', n, s1, s2, fun r ac w he hr op ho K Q hK => ?_⟩
      obtain ⟨w', x1, x2⟩ := s3 r w hr (fun x hx => (constOk_wf (hzk x (repl_mem z _ x hx)) n r).1)
      have hmap : (repl z (m' + 1)).map (ren0 r) = repl z (m' + 1) := by
        rw [List.map_congr_left (g := id) (fun x hx => (constOk_wf (hzk x (repl_mem z _ x hx)) n r).2.2), List.map_id]
      rw [hmap] at x1
      have hrun : (Builtin.clear_ #[t] op.type #[ren r (.slice (some p) (m' + 1) cap)]).run P w = .ok (.tuple #[]) w' := by
        by_cases hnil : repl z (m' + 1) = []
        · obtain ⟨a', c', e2⟩ := sl_len (r := r) (a := some p) (l := m' + 1) (c := cap)
          have hw : w' = w := by
            rw [hnil] at x1
            have : Result.ok () w = Result.ok () w' := x1
            cases this
            rfl
          subst hw
          rw [e2]
          cases a' with
          | none => exact skip none (m' + 1) c' w' (.inl rfl)
          | some a' =>
            have h0 : (storeCells a' []).run P w' = .ok () w' := rfl
            simp [Builtin.clear_, run_und ht hd, zeroValue, typeInfo, hie, hzv, zero_cells, hzc, hnil, h0]
        · rw [sl_eval (hsp hnil)]
          simp [Builtin.clear_, run_und ht hd, zeroValue, typeInfo, hie, hzv, zero_cells, hzc, x1]
      refine wp_value (fin r ac w he op ho w' hrun) ?_
      have := hK r w' (wf_undef _ _) x2
      rwa [ren_undef] at this

/-- what is copied -/
theorem first_s {size : Nat} {h : H} {n m : Nat} {u : Value} {k : List Value → R} (hf : firstC h size m u k = some res) : ∃ l, k l = some res ∧ ∀ (r : Ren) (w : World), wf n r u → Rep P r h.at n w → (∀ x ∈ l, wf0 n r x) ∧ (Builtin.firstCells size m (ren r u)).run P w = .ok (l.map (ren0 r)).toArray w := by
  cases u with
  | slice p ln c =>
    cases p with
    | none =>
      cases m with
      | zero => exact ⟨[], hf, fun r w _ _ => ⟨by simp, run_firstCells_none w size 0 ln c⟩⟩
      | succ m => cases hf
    | some p =>
      obtain ⟨hsp, l, hl, hc, h1⟩ := loadK_some (show loadK h p (m * size) k = some res from hf)
      refine ⟨l, h1, fun r w _ hr => ?_⟩
      obtain ⟨g1, g2⟩ := hc.rep hr
      refine ⟨g1, ?_⟩
      rw [sl_eval hsp]
      refine run_firstCells_some w size m (ra r p) ln _ _ (by rw [List.length_map, hl]) (fun j v hj => ?_)
      rw [List.getElem?_map] at hj
      cases hq : l[j]? with
      | none => rw [hq] at hj; cases hj
      | some q =>
        rw [hq] at hj
        cases hj
        exact g2 j q hq
  | string s =>
    obtain ⟨_, q2⟩ := boolK' (show @Bool.rec (fun _ => R) none (k ((s.data.toList.take m).map fun b => .int .u8 b.toNat)) (Nat.beq size 1) = some res from hf)
    refine ⟨_, q2, fun r w _ _ => ⟨fun x hx => ?_, ?_⟩⟩
    · obtain ⟨b, _, rfl⟩ := List.mem_map.1 hx
      trivial
    · have e1 : ((s.data.toList.take m).map fun b => Value.int .u8 b.toNat).map (ren0 r) = (s.data.toList.take m).map fun b => Value.int .u8 b.toNat := by
        rw [List.map_map]
        exact List.map_congr_left fun b _ => ren_byte r b
      rw [e1]
      show (Builtin.firstCells size m (.string s)).run P w = _
      simp [Builtin.firstCells]
      apply Array.ext'
      simp
  | _ => cases hf

theorem cpy_s (ht : TyOk P ty) {c : Go.Call} {t u e : TypeId} {size : Nat} {x y : Operand} {x' y' : Opd} (hc : c.callee = .builtin .copy) (ht1 : c.argTypes.toList = [t, u]) (ha : c.args.toList = [x, y])
    (hd : und ty t = some (.slice e)) (hs : tsize ty e = some size) (hx : copd live cx len x = some x') (hy : copd live cx len y = some y') : EfS P live cx len (.call c) (cpyE size x' y') := fun call _ L f h n k res hh hsz => by
  have hargs : c.args = #[x, y] := Array.ext' (by simpa using ha)
  have htys : c.argTypes = #[t, u] := Array.ext' (by simpa using ht1)
  obtain ⟨ie, hie, hisz, _⟩ := tsize_ok ht hs
  obtain ⟨v1, g1, g2⟩ := ev_EvV hh
  obtain ⟨v2, g3, g4⟩ := ev_EvV g2
  obtain ⟨a, dl, cap, rfl, g5⟩ := asSl_some g4
  obtain ⟨sl, g6, g7⟩ := lenV_some g5
  rw [forceN_eq] at g6
  obtain ⟨l, g8, g9⟩ := first_s (P := P) (n := n) g6
  have fin : ∀ (r : Ren) (ac : Act) (w : World), EnvR live cx len L f n r ac → ∀ (op : Oper), op.op = .call c → ∀ (v' : Value) (w' : World), (Builtin.copy_ #[t, u] op.type #[ren r (.slice a dl cap), ren r v2]).run P w = .ok v' w' → (execOp ac.eval op).run P w = .ok (.value v') w' := fun r ac w he op ho v' w' hrun => by
    obtain ⟨_, e1⟩ := copd_eval hx g1 he
    obtain ⟨_, e2⟩ := copd_eval hy g3 he
    simp [execOp, ho, resolve, hc, hargs, htys, e1, e2, invoke, builtin, hrun]
  have hlen : ∀ (r : Ren) (w : World), (Builtin.lenOf (ren r v2)).run P w = .ok sl w := fun r w => by
    have h0 := g7 (fun j => if j = sl then some (Value.nilFunc, (Tr.e : Tr Blk), 0) else none)
    rw [if_pos rfl] at h0
    cases v2 with
    | slice p ln c =>
      have hln : ln = sl := by
        have h1 : (if ln = sl then some (Value.nilFunc, (Tr.e : Tr Blk), 0) else none) = some (Value.nilFunc, Tr.e, 0) := h0
        split at h1
        · assumption
        · cases h1
      obtain ⟨a', c', e2⟩ := sl_len (r := r) (a := p) (l := ln) (c := c)
      rw [e2, hln]
      rfl
    | string s =>
      have hln : s.size = sl := by
        have h1 : (if s.size = sl then some (Value.nilFunc, (Tr.e : Tr Blk), 0) else none) = some (Value.nilFunc, Tr.e, 0) := h0
        split at h1
        · assumption
        · cases h1
      rw [← hln]
      rfl
    | _ => cases h0
  obtain ⟨hmm, g8⟩ := natV_some (show natV (min sl dl) (fun q => @Option.rec Addr (fun _ => R) (k q h n) (fun a => storeK h a l fun h => k q h n) a) = some res from g8)
  have hnum : ∀ r : Ren, ren r (.int .i64 (.ofNat (min sl dl))) = goInt (min sl dl : Nat) := fun r => ren_nat hmm
  cases a with
  | none =>
    refine ⟨_, h, n, hsz, g8, fun r ac w he hr op ho K Q hK => ?_⟩
    obtain ⟨hw2, _⟩ := copd_eval hy g3 he
    obtain ⟨_, y2⟩ := g9 r w hw2 hr
    refine wp_value (fin r ac w he op ho _ w ?_) (hK r w trivial (Ev.refl hr))
    show (Builtin.copy_ #[t, u] op.type #[.slice none dl cap, ren r v2]).run P w = _
    rw [hnum]
    have y2' : (Builtin.firstCells ie.size (min sl dl) (ren r v2)).run P w = .ok (l.map (ren0 r)).toArray w := by rw [hisz]; exact y2
    simp [Builtin.copy_, run_und ht hd, sizeOf, typeInfo, hie, hlen, y2']
  | some p =>
    obtain ⟨hsp, h', s1, s2, s3⟩ := stK_s (P := P) (show storeK h p l (fun h => k (.int .i64 (.ofNat (min sl dl))) h n) = some res from g8) hsz
    refine ⟨_, h', n, s1, s2, fun r ac w he hr op ho K Q hK => ?_⟩
    obtain ⟨hw2, _⟩ := copd_eval hy g3 he
    obtain ⟨y1, y2⟩ := g9 r w hw2 hr
    obtain ⟨w', x1, x2⟩ := s3 r w hr y1
    refine wp_value (fin r ac w he op ho _ w' ?_) (hK r w' trivial x2)
    rw [hnum]
    have y2' : (Builtin.firstCells ie.size (min sl dl) (ren r v2)).run P w = .ok (l.map (ren0 r)).toArray w := by rw [hisz]; exact y2
    by_cases hnil : l = []
    · obtain ⟨a', c', e2⟩ := sl_len (r := r) (a := some p) (l := dl) (c := cap)
      have hw : w' = w := by
        rw [hnil] at x1
        have : Result.ok () w = Result.ok () w' := x1
        cases this
        rfl
      subst hw
      rw [e2]
      have h0 : ∀ a : Addr, (storeCells a []).run P w' = .ok () w' := fun _ => rfl
      cases a' <;> simp [Builtin.copy_, run_und ht hd, sizeOf, typeInfo, hie, hlen, y2', hnil, h0]
    · rw [sl_eval (hsp hnil)]
      simp only [Builtin.copy_, List.getElem?_toArray, List.getElem?_cons_zero, List.getElem?_cons_succ]
      simp [run_und ht hd, sizeOf, typeInfo, hie, hlen, y2', x1]
end
end Go.Proofs.YtccbdaffjkdpgaaGreatDoor.Vw
namespace Go.Proofs.YtccbdaffjkdpgaaGreatDoor.Vw

section
variable [Val] {P : Program} {ty : Ty} {live : List Nat} {cx : Cx} {len : Nat} {res : Value × H × Nat}

theorem wfP_wf {n : Nat} {r : Ren} {x : Value} (h : wfP n r x) : wf n r x ∧ ren r x = renP r x := by
  cases x with
  | agg cs => exact h.elim
  | tuple cs => exact h.elim
  | func f a b => exact h.elim
  | pointer a => cases a <;> exact ⟨h, rfl⟩
  | slice a l c => cases a <;> exact ⟨h, rfl⟩
  | map b => cases b <;> exact ⟨h, rfl⟩
  | _ => exact ⟨h, rfl⟩

theorem call_s {c : Go.Call} {g : Operand} {g' : Opd} {args' : List Opd} (hc : c.callee = .value g) (hg : copd live cx len g = some g') (ha : optM (copd live cx len) c.args.toList = some args') : EfS P live cx len (.call c) (callE g' args') := fun call hcall L f h n k res hh hsz => by
  obtain ⟨v1, g1, g2⟩ := ev_EvV hh
  cases v1 with
  | func fn first cap =>
    cases fn with
    | func id =>
      obtain ⟨l, l1, l2, l3⟩ := evL_some (show evL args' L f (fun l => call id (first.toList ++ (l ++ cap.toList)) h n k) = some res from g2)
      obtain ⟨⟨fn, f1, f2, f3⟩, v, h', n', s1, s2, s3⟩ := hcall id _ h n k res l3 hsz
      refine ⟨v, h', n', s1, s2, fun r ac w he hr op ho K Q hK => ?_⟩
      obtain ⟨hw, e1⟩ := copd_eval hg g1 he
      obtain ⟨hwl, e2⟩ := evL_eval ha l1 l2 he
      have hwf : (∀ x ∈ first.toList, wfP n r x) ∧ ∀ x ∈ cap.toList, wfP n r x := hw
      have hargs : (first.map (renP r) ++ c.args.map ac.eval) ++ cap.map (renP r) = ((first.toList ++ (l ++ cap.toList)).map (ren r)).toArray := by
        refine Array.ext' ?_
        simp only [Array.toList_append, Array.toList_map, List.map_append, List.append_assoc]
        rw [e2, List.map_congr_left (fun x hx => (wfP_wf (hwf.1 x hx)).2), List.map_congr_left (l := cap.toList) (fun x hx => (wfP_wf (hwf.2 x hx)).2)]
      have hex : (execOp ac.eval op).run P w = .ok (.enter id ((first.toList ++ (l ++ cap.toList)).map (ren r)).toArray) w := by
        have e1' : ac.eval g = .func (.func id) (first.map (renP r)) (cap.map (renP r)) := e1
        have hcf : ∀ args : Array Value, (callFunc id args).run P w = .ok (.enter id args) w := fun args => by
          have hp : (program : Sem Program).run P w = .ok P w := rfl
          unfold callFunc
          simp only [bind, Sem.run_bind', hp, Result.andThen_ok, f1, f2, f3, Bool.false_eq_true, if_false]
          rfl
        simp only [execOp, ho, resolve, hc, e1']
        simp [Deferred.ofValue, invoke, hcf]
        simpa using hargs
      unfold Oper.wp
      rw [hex, Oper.upon_enter]
      have hall : ∀ x ∈ first.toList ++ (l ++ cap.toList), wf n r x := fun x hx => by
        rcases List.mem_append.1 hx with hx | hx
        · exact (wfP_wf (hwf.1 x hx)).1
        · rcases List.mem_append.1 hx with hx | hx
          · exact hwl x hx
          · exact (wfP_wf (hwf.2 x hx)).1
      exact s3 r w hall hr _ (fun r' w' x1 x2 => hK r' w' x1 x2)
    | _ => cases g2
  | _ => cases g2
end
end Go.Proofs.YtccbdaffjkdpgaaGreatDoor.Vw
namespace Go.Proofs.YtccbdaffjkdpgaaGreatDoor.Vw

section
variable [Val] {P : Program} {ty : Ty} {live : List Nat} {cx : Cx} {len : Nat} {res : Value × H × Nat}

theorem appS_zeros (ht : TyOk P ty) {t tx ty' e : TypeId} {size : Nat} {z : List Value} {kd kd' : IntKind} (hd : und ty t = some (.slice e)) (hx : und ty tx = some (.int kd')) (hs : tsize ty e = some size) (hpos : 0 < size) (hz : tzero ty e = some z) (hzl : z.length = size) (hsm : small ty e = true)
    {m : Nat} (hm : m ≠ 0) (hmm : m ≤ 1048576) {w : World} : AppS P t tx ty' e size (.int kd (.ofNat m)) m (repl z m) w := by
  obtain ⟨ie, hie, hisz, hcells⟩ := tsize_ok ht hs
  obtain ⟨ie', zv, hie', hzv, hzc, _⟩ := tzero_ok ht hz
  rw [hie] at hie'
  cases hie'
  have hbytes := small_bytes ht hie hsm
  have hu := und_ok ht hd
  have hu2 := und_ok ht hx
  have hzs : zv.cells.size = size := by rw [← Array.length_toList, hzc, hzl]
  have hwrap : IntKind.i64.wrap (m : Int) = m := by
    simp [IntKind.wrap, IntKind.signed, IntKind.bits]
    omega
  have hai : ∀ w : World, (Go.asInt (.int kd (m : Int))).run P w = .ok (m : Int) w := fun _ => rfl
  have hneg : ¬ ((m : Int) < 0) := by omega
  have hbig : ¬ (281474976710656 < (m : Int) * (ie.bytes : Int)) := by
    have : m * ie.bytes ≤ 1048576 * 65536 := Nat.mul_le_mul hmm hbytes
    have h2 : ((m * ie.bytes : Nat) : Int) ≤ 281474976710656 := by omega
    rw [Int.natCast_mul] at h2
    omega
  have hne : ¬ (m = 0 ∨ size = 0) := by omega
  have hne2 : m * ie.size ≠ 0 := by rw [hisz]; exact Nat.ne_of_gt (Nat.mul_pos (Nat.pos_of_ne_zero hm) hpos)
  refine ⟨fun b off sLen sCap w' hle g1 => ?_, fun base ln cap' old hc hsmall hol hold => ?_⟩
  · rw [← hisz] at g1
    simp [Builtin.append_, run_underlying hu, run_underlying hu2, sizeOf, typeInfo, zeroValue, hie, hzv, hai, hwrap, hneg, hbig, hne2, hle, zero_cells, hzc, Addr.add_lit, g1]
  · have hfit : Builtin.nextslicecap (ln + m) cap' * ie.bytes ≤ 281474976710656 := by
      have h1 := nextcap_le hc
      calc Builtin.nextslicecap (ln + m) cap' * ie.bytes ≤ (2 * (ln + m) + 512) * 65536 := Nat.mul_le_mul h1 hbytes
        _ ≤ 281474976710656 := by omega
    have hn : ¬ (ln + m ≤ cap') := by omega
    have h63' : ¬ (9223372036854775807 < ((ln : Int) + (m : Int))) := by omega
    have h48' : ¬ (281474976710656 < Builtin.nextslicecap (ln + m) cap' * ie.bytes) := by omega
    rw [← hisz] at hold
    refine ⟨grownCap w (ln + m) cap' e, Builtin.zeroCells zv.cells (grownCap w (ln + m) cap' e - (ln + m)), grownCap_ge w _ _ _, by rw [size_zeros, hzs], ?_⟩
    simp [Builtin.append_, run_underlying hu, run_underlying hu2, sizeOf, typeInfo, zeroValue, hie, hzv, hai, hwrap, hneg, hbig, hne2, hn, h63', h48', Question.forced, zero_cells, hzc, hold, newRow, grownCap]

omit [Val] in
theorem appZ_none {t tx ty' e : TypeId} {i : TypeInfo} {kd kd' : IntKind} (ht : P.underlying t = some (.slice e)) (hx : P.underlying tx = some (.int kd')) (hi : P.info? e = some i) {base : Option Addr} {sLen sCap : Nat} {w : World}
    (hroom : sLen ≤ sCap) : (Builtin.append_ #[t, tx] ty' #[.slice base sLen sCap, .int kd (.ofNat 0)]).run P w = .ok (.slice base sLen sCap) w := by
  have h0 : ∀ a : Addr, (storeCells a []).run P w = .ok () w := fun _ => rfl
  have hai : ∀ w : World, (Go.asInt (.int kd 0)).run P w = .ok (0 : Int) w := fun _ => rfl
  have hwrap : IntKind.i64.wrap 0 = 0 := by decide
  cases base <;> simp [Builtin.append_, run_underlying ht, run_underlying hx, sizeOf, typeInfo, hi, hai, hwrap, hroom, h0]

theorem appZ_s (ht : TyOk P ty) {c : Go.Call} {t u e : TypeId} {kd' : IntKind} {size : Nat} {z : List Value} {x y : Operand} {x' y' : Opd} (hc : c.callee = .builtin .append) (ht1 : c.argTypes.toList = [t, u]) (ha : c.args.toList = [x, y])
    (hd : und ty t = some (.slice e)) (hu : und ty u = some (.int kd')) (hs : tsize ty e = some size) (hpos : 0 < size) (hz : tzero ty e = some z) (hzl : z.length = size) (hsm : small ty e = true)
    (hx : copd live cx len x = some x') (hy : copd live cx len y = some y') : EfS P live cx len (.call c) (appZE e size z x' y') := fun call _ L f h n k res hh hsz => by
  have hargs : c.args = #[x, y] := Array.ext' (by simpa using ha)
  have htys : c.argTypes = #[t, u] := Array.ext' (by simpa using ht1)
  obtain ⟨ie, zv, hie, hzv, hzc, hzk, _⟩ := tzero_ok ht hz
  obtain ⟨v1, g1, g2⟩ := ev_EvV hh
  obtain ⟨v2, g3, g4⟩ := ev_EvV g2
  obtain ⟨a, ln, cap, rfl, g5⟩ := asSl_some g4
  obtain ⟨kd, m, rfl, hmm, g6⟩ := asNat_some g5
  have fin : ∀ (r : Ren) (ac : Act) (w : World), EnvR live cx len L f n r ac → ∀ (op : Oper), op.op = .call c → ∀ (v' : Value) (w' : World), (Builtin.append_ #[t, u] op.type #[ren r (.slice a ln cap), .int kd (.ofNat m)]).run P w = .ok v' w' → (execOp ac.eval op).run P w = .ok (.value v') w' := fun r ac w he op ho v' w' hrun => by
    obtain ⟨_, e1⟩ := copd_eval hx g1 he
    obtain ⟨_, e2⟩ := copd_eval hy g3 he
    have e2' : ac.eval y = .int kd (.ofNat m) := e2.trans (ren_nat hmm)
    simp only [execOp, ho, resolve, hc, hargs, htys]
    have hrun' : (Builtin.append_ #[t, u] op.type #[ren r (.slice a ln cap), .int kd (m : Int)]).run P w = .ok v' w' := hrun
    simp [e1, e2', invoke, builtin, hrun']
  cases m with
  | zero =>
    obtain ⟨q1, q2⟩ := boolK' (show @Bool.rec (fun _ => R) none (k (.slice a ln cap) h n) (Nat.ble ln cap) = some res from g6)
    refine ⟨_, h, n, hsz, q2, fun r ac w he hr op ho K Q hK => ?_⟩
    obtain ⟨hw, _⟩ := copd_eval hx g1 he
    have hle : ln ≤ cap := Nat.le_of_ble_eq_true q1
    refine wp_value (fin r ac w he op ho _ w ?_) (hK r w hw (Ev.refl hr))
    cases a with
    | none => exact appZ_none (und_ok ht hd) (und_ok ht hu) hie hle
    | some p =>
      by_cases hcap : cap < OPEN
      · have hsl : ∃ q, ren r (.slice (some p) ln cap) = .slice q ln cap := by
          show ∃ q, rsl r p ln cap = _
          unfold rsl
          rw [if_pos hcap]
          exact ⟨_, rfl⟩
        obtain ⟨q, hq⟩ := hsl
        rw [hq]
        exact appZ_none (und_ok ht hd) (und_ok ht hu) hie hle
      · have hle2 : ln ≤ r.cap p.block - (cap - OPEN) := Nat.le_sub_of_add_le (hw.2.2.2 (Nat.le_of_not_lt hcap))
        have hsl : ∃ q, ren r (.slice (some p) ln cap) = .slice q ln (r.cap p.block - (cap - OPEN)) := by
          show ∃ q, rsl r p ln cap = _
          unfold rsl
          rw [if_neg hcap]
          cases p.spot with
          | none => exact ⟨_, rfl⟩
          | some s => exact ⟨_, rfl⟩
        obtain ⟨q, hq⟩ := hsl
        rw [hq]
        exact appZ_none (und_ok ht hd) (und_ok ht hu) hie hle2
  | succ m' =>
    obtain ⟨q1, q2⟩ := boolK' (show @Bool.rec (fun _ => R) none (appV h n e size a ln cap (m' + 1) (repl z (m' + 1)) k) (Nat.ble (m' + 1) 1048576) = some res from g6)
    obtain ⟨v', h', n', s1, s2, s3⟩ := appV_s (P := P) (tx := u) (ty' := t) ht hd hs hpos hz hzl hsm (Nat.succ_ne_zero m') (by rw [repl_len, hzl]) q2 hsz
    refine ⟨v', h', n', s1, s2, fun r ac w he hr op ho K Q hK => ?_⟩
    obtain ⟨hw, _⟩ := copd_eval hx g1 he
    have hmap : (repl z (m' + 1)).map (ren0 r) = repl z (m' + 1) := by
      rw [List.map_congr_left (g := id) (fun x hx => (constOk_wf (hzk x (repl_mem z _ x hx)) n r).2.2), List.map_id]
    obtain ⟨r', w', x1, x2, x3⟩ := s3 r w (.int kd (.ofNat (m' + 1))) hw hr (fun x hx => (constOk_wf (hzk x (repl_mem z _ x hx)) n r).1) (by rw [hmap]; exact appS_zeros ht hd hu hs hpos hz hzl hsm (Nat.succ_ne_zero m') (Nat.le_of_ble_eq_true q1))
    have x1' : (Builtin.append_ #[t, u] op.type #[ren r (.slice a ln cap), .int kd (.ofNat (m' + 1))]).run P w = .ok (ren r' v') w' := x1
    exact wp_value (fin r ac w he op ho _ w' x1') (hK r' w' x2 x3)

theorem cE_s (ht : TyOk P ty) {op : Op} {g : Ef} (h : cE ty live cx len op = some g) : EfS P live cx len op g := by
  cases op with
  | store t x v =>
    simp only [cE, cE_store] at h
    split at h
    · rename_i e1 e2 e3
      cases h
      exact st_s ht e1 e2 e3
    · cases h
  | call c =>
    simp only [cE, cE_call] at h
    split at h
    · rename_i hc
      split at h
      · rename_i e1 e2
        cases h
        exact call_s hc e1 e2
      · cases h
    · rename_i b hc
      split at h
      · rename_i t x ht1 ha
        split at h
        · rename_i e1 e2
          split at h
          · rename_i e3
            cases h
            exact clr_s ht hc ht1 ha e1 e3 e2
          · cases h
        · cases h
      · rename_i t u x y ht1 ha
        split at h
        · rename_i e1 e2 e3 e4
          split at h
          · rename_i f1 f2
            split at h
            · rename_i q1 q2
              cases h
              exact app_s ht hc ht1 ha e1 (.inl ⟨_, e2⟩) f1 (Nat.succ_pos _) f2 (Nat.eq_of_beq_eq_true q1) q2 e3 e4
            · cases h
          · rename_i f1 f2
            split at h
            · rename_i q1 q2
              cases h
              exact app_s ht hc ht1 ha e1 (.inr e2) f1 (Nat.succ_pos _) f2 (Nat.eq_of_beq_eq_true q1) q2 e3 e4
            · cases h
          · rename_i f1 f2
            split at h
            · rename_i q1 q2
              cases h
              exact appZ_s ht hc ht1 ha e1 e2 f1 (Nat.succ_pos _) f2 (Nat.eq_of_beq_eq_true q1) q2 e3 e4
            · cases h
          · rename_i f1
            cases h
            exact cpy_s ht hc ht1 ha e1 f1 e3 e4
          · rename_i f1
            cases h
            exact cpy_s ht hc ht1 ha e1 f1 e3 e4
          · cases h
        · cases h
      · cases h
    · cases h
  | _ => cases h
end
end Go.Proofs.YtccbdaffjkdpgaaGreatDoor.Vw
namespace Go.Proofs.YtccbdaffjkdpgaaGreatDoor.Vw
variable [Val]

/-- an operation of a region leaves 'u'; passed over, it leaves nothing -/
def OpV (P : Program) (ops : Array Oper) (o : Oper) (a : Act) (w : World) (u : Value) (w' : World) : Prop :=
  (Region.wanted o (yielded ops a.tmps) = true ∧ (execOp a.eval o).run P w = .ok (.value u) w') ∨ (Region.wanted o (yielded ops a.tmps) = false ∧ u = undef ∧ w' = w)
/-- an operation that is run, or passed over -/
def OpW (P : Program) (ops : Array Oper) (o : Oper) (a : Act) (w : World) (K : Act → World → Prop) (Q : Exit → Act → World → Prop) : Prop :=
  if Region.wanted o (yielded ops a.tmps) = true then o.wp P a w K Q else K (a.put o.dst undef) w

omit [Val] in
theorem OpV.wp {P : Program} {ops : Array Oper} {o : Oper} {a : Act} {w w' : World} {u : Value} (h : OpV P ops o a w u w') {K : Act → World → Prop} {Q : Exit → Act → World → Prop} (hK : K (a.put o.dst u) w') : OpW P ops o a w K Q := by
  unfold OpW
  rcases h with ⟨h1, h2⟩ | ⟨h1, rfl, rfl⟩
  · rw [if_pos h1]; exact wp_value h2 hK
  · rw [if_neg (by rw [h1]; decide)]; exact hK
omit [Val] in
theorem OpV.same {P : Program} {ops : Array Oper} {o : Oper} {a : Act} {w w' w'' : World} {u u' : Value} (h : OpV P ops o a w u w') (h' : OpV P ops o a w u' w'') : u' = u ∧ w'' = w' := by
  rcases h with ⟨h1, h2⟩ | ⟨h1, rfl, rfl⟩
  · rcases h' with ⟨_, h3⟩ | ⟨h3, _⟩
    · rw [h2] at h3
      injection h3 with h4 h5
      injection h4 with h4
      exact ⟨h4.symm, h5.symm⟩
    · rw [h1] at h3; cases h3
  · rcases h' with ⟨h3, _⟩ | ⟨_, rfl, rfl⟩
    · rw [h1] at h3; cases h3
    · exact ⟨rfl, rfl⟩

section
variable (P : Program) (live : List Nat) (cx : Cx) (len : Nat) (ops : Array Oper) (o : Oper)
def GPuS (g : Pu) : Prop := ∀ L f k res, g L f k = some res → ∃ v, k v = some res ∧ ∀ r n a, EnvR live cx len L f n r a → wf n r v ∧ ∀ w, OpV P ops o a w (ren r v) w
def GLdS (g : Ld) : Prop := ∀ L f h k res, g L f h k = some res → ∃ v, k v = some res ∧
  ∀ (r : Ren) (n : Nat) (a : Act) (w : World), EnvR live cx len L f n r a → Rep P r h.at n w → wf n r v ∧ OpV P ops o a w (ren r v) w
def GAlS (g : Al) : Prop := ∀ L f k kv res, g L f k kv = some res →
  (∃ x mk, k x mk = some res ∧ x.live ∧ ∀ (r : Ren) (n : Nat) (a : Act) (w : World), EnvR live cx len L f n r a → ∃ (obj : Obj) (w' : World), Out w w' ∧ w'.heap = w.heap.push obj ∧ BlkRep P (r.set n w.heap.size 0) (n + 1) n x w' ∧ wf (n + 1) (r.set n w.heap.size 0) (mk n) ∧
    OpV P ops o a w (ren (r.set n w.heap.size 0) (mk n)) w') ∨
  (∃ v, kv v = some res ∧ ∀ (r : Ren) (n : Nat) (a : Act) (w : World), EnvR live cx len L f n r a → wf n r v ∧ ∃ w' : World, Still n r w w' ∧
    OpV P ops o a w (ren r v) w')
def GEfS (g : Ef) : Prop := ∀ call, CallS P call → ∀ L f h n k res, g call L f h n k = some res → Sz h n → ∃ v h' n', Sz h' n' ∧ k v h' n' = some res ∧
  ∀ (r : Ren) (a : Act) (w : World), EnvR live cx len L f n r a → Rep P r h.at n w → ∀ (K : Act → World → Prop) (Q : Exit → Act → World → Prop),
    (∀ r' w', wf n' r' v → Ev P r h.at n w r' h'.at n' w' → K (a.put o.dst (ren r' v)) w') → OpW P ops o a w K Q
/-- what a compiled operation is -/
def IS (i : I) : Prop := match i with
  | .pu _ g => GPuS P live cx len ops o g
  | .ld _ g _ => GLdS P live cx len ops o g
  | .al _ g => GAlS P live cx len ops o g
  | .ef _ g _ => GEfS P live cx len ops o g
end

section
variable {P : Program} {ty : Ty} {live : List Nat} {cx : Cx} {len : Nat} {ops : Array Oper} {o : Oper} {res : Value × H × Nat}

omit [Val] in
theorem gdK_some {x : Opd} {b : Bool} {L : Loc} {f : Fr} {t e : R} (h : gdK x b L f t e = some res) : ∃ v, EvV x L f v ∧ ((v = .bool b ∧ t = some res) ∨ (v ≠ .bool b ∧ e = some res)) := by
  obtain ⟨v, h1, h2⟩ := ev_EvV h
  refine ⟨v, h1, ?_⟩
  cases v with
  | bool q => cases q <;> cases b <;> first | exact .inl ⟨rfl, h2⟩ | exact .inr ⟨by simp, h2⟩
  | _ => exact .inr ⟨by simp, h2⟩

theorem ren_bool {r : Ren} {v : Value} {b : Bool} : ren r v = .bool b ↔ v = .bool b := by
  constructor
  · intro h
    cases v with
    | bool q => exact h
    | agg cs => cases h
    | tuple cs => cases h
    | pointer a => cases a <;> cases h
    | slice a l c =>
      obtain ⟨a', c', e⟩ := sl_len (r := r) (a := a) (l := l) (c := c)
      rw [e] at h; cases h
    | map a => cases a <;> cases h
    | func _ _ _ => cases h
    | _ => cases h
  · rintro rfl; rfl

/-- the guard, here and in the model -/
theorem guard_s {j : Nat} {b : Bool} {x : Opd} (hg : o.guard = some (j, b)) (hc : cgd live cx len ops.toList o.guard = some (some (x, b))) {L : Loc} {f : Fr} {v : Value} (hv : EvV x L f v) {n : Nat} {r : Ren} {a : Act} (he : EnvR live cx len L f n r a) :
    (Region.wanted o (yielded ops a.tmps) = true ↔ v = .bool b) := by
  unfold cgd at hc
  rw [hg] at hc
  simp only at hc
  cases ho : ops.toList[j]? with
  | none => rw [ho] at hc; cases hc
  | some oj =>
    rw [ho] at hc
    simp only at hc
    cases hd : oj.dst with
    | none => simp only [hd] at hc; cases hc
    | some t =>
      simp only [hd] at hc
      cases hx : copd live cx len (.tmp t) with
      | none => simp only [hx] at hc; cases hc
      | some y =>
        simp only [hx] at hc
        cases hc
        have ⟨_, e⟩ := copd_eval hx hv he
        have e' : a.tmps.getD t undef = ren r v := e
        have hoj : ops[j]? = some oj := by rw [← Array.getElem?_toList]; exact ho
        unfold Region.wanted yielded
        simp only [hg, hoj, Option.bind_some, hd]
        rw [Array.getD_eq_getD_getElem?] at e'
        rw [← ren_bool (r := r), ← e']
        cases ht : a.tmps[t]? with
        | none => simp [undef]
        | some u =>
          simp only [Option.getD_some]
          cases u <;> simp
omit [Val] in
theorem cgd_pair {g : Option (Nat × Bool)} {x : Opd} {b : Bool} {l : List Oper} (hc : cgd live cx len l g = some (some (x, b))) : ∃ j, g = some (j, b) := by
  cases g with
  | none => cases hc
  | some p =>
    obtain ⟨j, c⟩ := p
    unfold cgd at hc
    simp only at hc
    split at hc
    · split at hc
      · split at hc
        · cases hc; exact ⟨j, rfl⟩
        · cases hc
      · cases hc
    · cases hc
omit [Val] in
theorem cgd_none {g : Option (Nat × Bool)} {l : List Oper} (hc : cgd live cx len l g = some none) : g = none := by
  cases g with
  | none => rfl
  | some p =>
    obtain ⟨j, c⟩ := p
    unfold cgd at hc
    simp only at hc
    split at hc
    · split at hc
      · split at hc
        · cases hc
        · cases hc
      · cases hc
    · cases hc
omit [Val] in
theorem wanted_none (hg : o.guard = none) (y : Nat → Option Bool) : Region.wanted o y = true := by
  unfold Region.wanted
  rw [hg]

theorem cI_s (ht : TyOk P ty) (he : EqT P ty) (d : Option Nat) (anc ix : Nat) : IS P live cx len ops o (cI ty live cx len ops.toList o d anc ix) := by
  have bad : IS P live cx len ops o badI := fun L f k res h => by cases h
  unfold cI cI_p cI_l cI_a cI_e
  split
  · exact bad
  · rename_i g hg
    cases g with
    | none =>
      have hgn := cgd_none hg
      have hw : ∀ a : Act, Region.wanted o (yielded ops a.tmps) = true := fun a => wanted_none hgn _
      split
      · split
        · rename_i x hx
          intro L f k res h
          obtain ⟨v, h1, h2⟩ := cP_s ht he hx L f k res h
          exact ⟨v, h1, fun r n a henv => ⟨(h2 r n a henv).1, fun w => .inl ⟨hw a, (h2 r n a henv).2 o rfl w⟩⟩⟩
        · exact bad
      · split
        · rename_i x hx
          intro L f h k res hh
          obtain ⟨v, h1, h2⟩ := cL_s ht he hx L f h k res hh
          exact ⟨v, h1, fun r n a w henv hr => ⟨(h2 r n a w henv hr).1, .inl ⟨hw a, (h2 r n a w henv hr).2 o rfl⟩⟩⟩
        · exact bad
      · split
        · rename_i x hx
          intro L f k kv res hh
          rcases cA_s ht hx L f k kv res hh with ⟨b, mk, h1, h2, h3⟩ | ⟨v, h1, h2⟩
          · refine .inl ⟨b, mk, h1, h2, fun r n a w henv => ?_⟩
            obtain ⟨obj, w', g0, g1, g2, g3, g4⟩ := h3 r n a w henv
            exact ⟨obj, w', g0, g1, g2, g3, .inl ⟨hw a, g4 o rfl⟩⟩
          · refine .inr ⟨v, h1, fun r n a w henv => ?_⟩
            obtain ⟨g1, w', g2, g4⟩ := h2 r n a w henv
            exact ⟨g1, w', g2, .inl ⟨hw a, g4 o rfl⟩⟩
        · exact bad
      · split
        · rename_i x hx
          intro call hcall L f h n k res hh hsz
          obtain ⟨v, h', n', h1, h2, h3⟩ := cE_s ht hx call hcall L f h n k res hh hsz
          refine ⟨v, h', n', h1, h2, fun r a w henv hr K Q hK => ?_⟩
          unfold OpW
          rw [if_pos (hw a)]
          exact h3 r a w henv hr o rfl K Q hK
        · exact bad
    | some p =>
      obtain ⟨y, b⟩ := p
      obtain ⟨j, hgj⟩ := cgd_pair hg
      have hgd := fun {L f v n r a} (hv : EvV y L f v) (henv : EnvR live cx len L f n r a) => guard_s hgj hg hv henv
      have hno : ∀ {L f v n r} {a : Act}, EvV y L f v → EnvR live cx len L f n r a → v ≠ .bool b → Region.wanted o (yielded ops a.tmps) = false := fun hv henv hne => by
        cases hq : Region.wanted o (yielded ops _) with
        | false => rfl
        | true => exact absurd ((hgd hv henv).1 hq) hne
      split
      · split
        · rename_i x hx
          intro L f k res h
          obtain ⟨vg, hvg, ⟨rfl, h⟩ | ⟨hne, h⟩⟩ := gdK_some h
          · obtain ⟨v, h1, h2⟩ := cP_s ht he hx L f k res h
            exact ⟨v, h1, fun r n a henv => ⟨(h2 r n a henv).1, fun w => .inl ⟨(hgd hvg henv).2 rfl, (h2 r n a henv).2 o rfl w⟩⟩⟩
          · exact ⟨_, h, fun r n a henv => ⟨wf_undef _ _, fun w => .inr ⟨hno hvg henv hne, ren_undef r, rfl⟩⟩⟩
        · exact bad
      · split
        · rename_i x hx
          intro L f h k res hh
          obtain ⟨vg, hvg, ⟨rfl, hh⟩ | ⟨hne, hh⟩⟩ := gdK_some hh
          · obtain ⟨v, h1, h2⟩ := cL_s ht he hx L f h k res hh
            exact ⟨v, h1, fun r n a w henv hr => ⟨(h2 r n a w henv hr).1, .inl ⟨(hgd hvg henv).2 rfl, (h2 r n a w henv hr).2 o rfl⟩⟩⟩
          · exact ⟨_, hh, fun r n a w henv hr => ⟨wf_undef _ _, .inr ⟨hno hvg henv hne, ren_undef r, rfl⟩⟩⟩
        · exact bad
      · split
        · rename_i x hx
          intro L f k kv res hh
          obtain ⟨vg, hvg, ⟨rfl, hh⟩ | ⟨hne, hh⟩⟩ := gdK_some hh
          · rcases cA_s ht hx L f k kv res hh with ⟨b, mk, h1, h2, h3⟩ | ⟨v, h1, h2⟩
            · refine .inl ⟨b, mk, h1, h2, fun r n a w henv => ?_⟩
              obtain ⟨obj, w', g0, g1, g2, g3, g4⟩ := h3 r n a w henv
              exact ⟨obj, w', g0, g1, g2, g3, .inl ⟨(hgd hvg henv).2 rfl, g4 o rfl⟩⟩
            · refine .inr ⟨v, h1, fun r n a w henv => ?_⟩
              obtain ⟨g1, w', g2, g4⟩ := h2 r n a w henv
              exact ⟨g1, w', g2, .inl ⟨(hgd hvg henv).2 rfl, g4 o rfl⟩⟩
          · exact .inr ⟨_, hh, fun r n a w henv => ⟨wf_undef _ _, w, .refl n r w, .inr ⟨hno hvg henv hne, ren_undef r, rfl⟩⟩⟩
        · exact bad
      · split
        · rename_i x hx
          intro call hcall L f h n k res hh hsz
          obtain ⟨vg, hvg, ⟨rfl, hh⟩ | ⟨hne, hh⟩⟩ := gdK_some hh
          · obtain ⟨v, h', n', h1, h2, h3⟩ := cE_s ht hx call hcall L f h n k res hh hsz
            refine ⟨v, h', n', h1, h2, fun r a w henv hr K Q hK => ?_⟩
            unfold OpW
            rw [if_pos ((hgd hvg henv).2 rfl)]
            exact h3 r a w henv hr o rfl K Q hK
          · refine ⟨_, h, n, hsz, hh, fun r a w henv hr K Q hK => ?_⟩
            unfold OpW
            rw [if_neg (by rw [hno hvg henv hne]; decide), ← ren_undef r]
            exact hK r w (wf_undef _ _) (Ev.refl hr)
        · exact bad
omit [Val] in
/-- its kind -/
theorem cI_d (d : Option Nat) (anc ix : Nat) : cI ty live cx len ops.toList o d anc ix = badI ∨ (∃ g, cI ty live cx len ops.toList o d anc ix = .pu d g) ∨ (∃ g, cI ty live cx len ops.toList o d anc ix = .ld d g anc) ∨
    (∃ g, cI ty live cx len ops.toList o d anc ix = .al d g) ∨ ∃ g, cI ty live cx len ops.toList o d anc ix = .ef d g ix ∧ isE (cls ty o.op) = true := by
  unfold cI cI_p cI_l cI_a cI_e
  cases cgd live cx len ops.toList o.guard with
  | none => exact .inl rfl
  | some g =>
    simp only
    cases hc : cls ty o.op with
    | p => cases cP ty live cx len o.op with
      | none => exact .inl rfl
      | some x => rcases g with _ | ⟨c, b⟩ <;> exact .inr (.inl ⟨_, rfl⟩)
    | l => cases cL ty live cx len o.op with
      | none => exact .inl rfl
      | some x => rcases g with _ | ⟨c, b⟩ <;> exact .inr (.inr (.inl ⟨_, rfl⟩))
    | a => cases cA ty live cx len o.op with
      | none => exact .inl rfl
      | some x => rcases g with _ | ⟨c, b⟩ <;> exact .inr (.inr (.inr (.inl ⟨_, rfl⟩)))
    | e => cases cE ty live cx len o.op with
      | none => exact .inl rfl
      | some x => rcases g with _ | ⟨c, b⟩ <;> exact .inr (.inr (.inr (.inr ⟨_, rfl, rfl⟩)))
end
end Go.Proofs.YtccbdaffjkdpgaaGreatDoor.Vw
namespace Go.Proofs.YtccbdaffjkdpgaaGreatDoor.Vw
variable [Val]

/-- the slots hold what the frame's temporaries hold -/
def EnvS (live : List Nat) (f : Fr) (n : Nat) (r : Ren) (a : Act) : Prop := ∀ t i v, idxOf t live 0 = some i → f.at i = some v → wf n r v ∧ a.tmps[t]? = some (ren r v)

section
variable {P : Program} {ty : Ty} {live : List Nat} {res : Value × H × Nat}

omit [Val] in
theorem idxOf_some (t : Nat) : ∀ (l : List Nat) (i j : Nat), idxOf t l i = some j → i ≤ j ∧ l[j - i]? = some t
  | [], i, j, h => by cases h
  | a :: l, i, j, h => by
    have h' : @Bool.rec (fun _ => Option Nat) (idxOf t l (i + 1)) (some i) (Nat.beq a t) = some j := h
    cases hb : Nat.beq a t with
    | true =>
      rw [hb] at h'
      have e : i = j := Option.some.inj h'
      subst e
      exact ⟨Nat.le_refl _, by rw [Nat.sub_self]; exact congrArg some (Nat.eq_of_beq_eq_true hb)⟩
    | false =>
      rw [hb] at h'
      obtain ⟨h1, h2⟩ := idxOf_some t l (i + 1) j h'
      exact ⟨by omega, by rw [show j - i = (j - (i + 1)) + 1 by omega]; exact h2⟩
omit [Val] in
theorem idxOf_inj {t u : Nat} {l : List Nat} {i : Nat} (h : idxOf t l 0 = some i) (h' : idxOf u l 0 = some i) : t = u := by
  have h1 := (idxOf_some t l 0 i h).2
  have h2 := (idxOf_some u l 0 i h').2
  rw [h1] at h2
  exact Option.some.inj h2
omit [Val] in
theorem idxOf_lt {t : Nat} {l : List Nat} {i : Nat} (h : idxOf t l 0 = some i) : i < l.length := by
  have h1 := (idxOf_some t l 0 i h).2
  exact (List.getElem?_eq_some_iff.1 h1).1
omit [Val] in
theorem idxOf_none (t : Nat) : ∀ (l : List Nat) (i : Nat), idxOf t l i = none ↔ t ∉ l
  | [], i => by simp [idxOf]
  | a :: l, i => by
    have ih := idxOf_none t l (i + 1)
    show @Bool.rec (fun _ => Option Nat) (idxOf t l (i + 1)) (some i) (Nat.beq a t) = none ↔ _
    cases hb : Nat.beq a t with
    | true =>
      have := Nat.eq_of_beq_eq_true hb
      subst this
      simp
    | false =>
      have hne : a ≠ t := fun e => by rw [e, Nat.beq_refl] at hb; cases hb
      show idxOf t l (i + 1) = none ↔ _
      rw [ih]
      simp
      exact fun _ e => hne e.symm

noncomputable def fput (d : Option Nat) (v : Value) (f : Fr) : Fr := match d with
  | some i => f.put i v
  | none => f
omit [Val] in
theorem putF_some {d : Option Nat} {v : Value} {f : Fr} {k : Fr → R} (h : putF d v f k = some res) : k (fput d v f) = some res := by
  cases d with
  | none => exact h
  | some i =>
    obtain ⟨a, b, c, e⟩ := Tr.put_ne f i v
    have h' : @Tr.rec Value (fun _ => R) none (fun a b c _ _ => k (.nd a b c)) (f.put i v) = some res := h
    rw [e] at h'
    show k (f.put i v) = _
    rw [e]
    exact h'
omit [Val] in
theorem fput_sz {f : Fr} {d : Option Nat} {v : Value} (hf : Sz f live.length) : Sz (fput (dslot live d) v f) live.length ∧ ∀ j, (fput (dslot live d) v f).at j = if dslot live d = some j then some v else f.at j := by
  cases hd : dslot live d with
  | none => exact ⟨hf, fun j => by rw [if_neg (by simp)]; rfl⟩
  | some i =>
    have hi : i < live.length := by
      unfold dslot at hd
      cases d with
      | none => cases hd
      | some t => exact idxOf_lt hd
    obtain ⟨h1, h2⟩ := hf.put i (Nat.le_of_lt hi) v
    rw [show max live.length (i + 1) = live.length by omega] at h1
    refine ⟨h1, fun j => ?_⟩
    show (f.put i v).at j = _
    rw [h2]
    by_cases e : j = i
    · subst e; simp
    · rw [if_neg e, if_neg (fun h => e (Option.some.inj h).symm)]

omit [Val] in
theorem put_tmps (a : Act) (d : Option Nat) (v : Value) (t : Nat) : (a.put d v).tmps[t]? = if d = some t ∧ t < a.tmps.size then some v else a.tmps[t]? := by
  cases d with
  | none => simp [Act.put]
  | some i =>
    show (a.tmps.setIfInBounds i v)[t]? = _
    rw [Array.getElem?_setIfInBounds]
    by_cases e : i = t
    · subst e
      by_cases h : i < a.tmps.size
      · rw [if_pos rfl, if_pos h, if_pos ⟨rfl, h⟩]
      · rw [if_pos rfl, if_neg h, if_neg (fun hh => h hh.2), Array.getElem?_eq_none (by omega)]
    · rw [if_neg e, if_neg (fun hh => e (Option.some.inj hh.1))]
omit [Val] in
theorem put_size (a : Act) (d : Option Nat) (v : Value) : (a.put d v).tmps.size = a.tmps.size := by cases d <;> simp [Act.put]
omit [Val] in
theorem put_defers (a : Act) (d : Option Nat) (v : Value) : (a.put d v).defers = a.defers := by cases d <;> rfl

/-- the slots behind an operation that left 'v' -/
theorem EnvS.put {f : Fr} {n n' : Nat} {r r' : Ren} {a : Act} {d : Option Nat} {v : Value} (he : EnvS live f n r a) (hf : Sz f live.length) (hn : n ≤ n') (ha : Ag n r r') (hv : wf n' r' v) (hd : ∀ t, d = some t → t < a.tmps.size) :
    EnvS live (fput (dslot live d) v f) n' r' (a.put d (ren r' v)) := fun t i u hi hu => by
  rw [(fput_sz hf).2] at hu
  rw [put_tmps]
  by_cases e : dslot live d = some i
  · rw [if_pos e] at hu
    cases hu
    cases d with
    | none => cases e
    | some t' =>
      have : t' = t := idxOf_inj e hi
      subst this
      exact ⟨hv, if_pos ⟨rfl, hd _ rfl⟩⟩
  · rw [if_neg e] at hu
    obtain ⟨h1, h2⟩ := he t i u hi hu
    refine ⟨h1.mono hn ha, ?_⟩
    rw [if_neg (fun hh => e (by rw [hh.1]; exact hi)), h2, ren_ag ha h1]
theorem EnvS.mono {f : Fr} {n n' : Nat} {r r' : Ren} {a : Act} (he : EnvS live f n r a) (hn : n ≤ n') (ha : Ag n r r') : EnvS live f n' r' a := fun t i u hi hu => by
  obtain ⟨h1, h2⟩ := he t i u hi hu
  exact ⟨h1.mono hn ha, by rw [h2, ren_ag ha h1]⟩

omit [Val] in
theorem find_cons (t u : Nat) (s : Src) (cx : Cx) : Cx.find ((u, s) :: cx) t = if u = t then some s else cx.find t := by
  show @Bool.rec (fun _ => Option Src) (cx.find t) (some s) (Nat.beq u t) = _
  cases hb : Nat.beq u t with
  | true => rw [if_pos (Nat.eq_of_beq_eq_true hb)]
  | false => rw [if_neg (fun e => by rw [e, Nat.beq_refl] at hb; cases hb)]

/-- what the compiler knows of a plain region's temporaries -/
structure CxOk (live : List Nat) (cx : Cx) (len : Nat) (rest : List Oper) : Prop where
  pos : ∀ t p, cx.find t = some (.p p) → p < len
  slot : ∀ t i, cx.find t = some (.s i) → written live i rest = false
/-- the temporaries of a plain region -/
def EnvL (cx : Cx) (len : Nat) (L : Loc) (f : Fr) (n : Nat) (r : Ren) (a : Act) : Prop := ∀ t s v, cx.find t = some s → SrcV len L f s v → wf n r v ∧ a.tmps[t]? = some (ren r v)

theorem EnvR.of {cx : Cx} {len : Nat} {L : Loc} {f : Fr} {n : Nat} {r : Ren} {a : Act} (hl : EnvL cx len L f n r a) (hs : EnvS live f n r a) : EnvR live cx len L f n r a :=
  ⟨hl, fun t i v _ hi hv => hs t i v hi hv⟩

omit [Val] in
theorem written_cons {i : Nat} {o : Oper} {r : List Oper} (h : written live i (o :: r) = false) : written live i r = false ∧ dslot live o.dst ≠ some i := by
  rw [written] at h
  unfold dslot
  cases hd : o.dst with
  | none => rw [hd] at h; exact ⟨h, by simp⟩
  | some t =>
    rw [hd] at h
    simp only at h
    cases hj : idxOf t live 0 with
    | none => rw [hj] at h; exact ⟨h, by simp [hj]⟩
    | some j =>
      rw [hj] at h
      simp only at h
      cases hb : Nat.beq i j with
      | true => rw [hb] at h; cases h
      | false =>
        rw [hb] at h
        refine ⟨h, ?_⟩
        simp only [hj]
        intro e
        cases e
        rw [Nat.beq_refl] at hb
        cases hb

/-- behind an operation that is run -/
theorem EnvL.put {cx : Cx} {len : Nat} {L : Loc} {f : Fr} {n n' : Nat} {r r' : Ren} {a : Act} {o : Oper} {rest : List Oper} {v : Value} (hl : EnvL cx len L f n r a) (hc : CxOk live cx len (o :: rest)) (_hL : L.length = len) (hf : Sz f live.length) (hn : n ≤ n') (ha : Ag n r r') (hv : wf n' r' v) (hd : ∀ t, o.dst = some t → t < a.tmps.size) :
    EnvL (ext cx o.dst len) (len + 1) (v :: L) (fput (dslot live o.dst) v f) n' r' (a.put o.dst (ren r' v)) := fun t s u hs hu => by
  have old : cx.find t = some s → o.dst ≠ some t → wf n' r' u ∧ (a.put o.dst (ren r' v)).tmps[t]? = some (ren r' u) := fun hs' hne => by
    have hu' : SrcV len L f s u := by
      cases s with
      | p p =>
        have hp := hc.pos t p hs'
        have : (v :: L)[len + 1 - 1 - p]? = some u := hu
        rw [show len + 1 - 1 - p = (len - 1 - p) + 1 by omega, List.getElem?_cons_succ] at this
        exact this
      | s i =>
        have : (fput (dslot live o.dst) v f).at i = some u := hu
        rw [(fput_sz hf).2, if_neg (written_cons (hc.slot t i hs')).2] at this
        exact this
      | c c => exact hu
      | no => exact hu
    obtain ⟨h1, h2⟩ := hl t s u hs' hu'
    refine ⟨h1.mono hn ha, ?_⟩
    rw [put_tmps, if_neg (fun hh => hne hh.1), h2, ren_ag ha h1]
  cases hd' : o.dst with
  | none =>
    rw [hd'] at hs
    rw [← hd']
    exact old hs (by rw [hd']; simp)
  | some t' =>
    rw [hd'] at hs
    have hs2 : Cx.find ((t', .p len) :: cx) t = some s := hs
    rw [find_cons] at hs2
    by_cases e : t' = t
    · subst e
      rw [if_pos rfl] at hs2
      cases hs2
      have : (v :: L)[len + 1 - 1 - len]? = some u := hu
      rw [show len + 1 - 1 - len = 0 by omega] at this
      cases this
      refine ⟨hv, ?_⟩
      rw [put_tmps, if_pos ⟨rfl, hd t' hd'⟩]
    · rw [if_neg e] at hs2
      rw [← hd']
      exact old hs2 (by rw [hd']; exact fun h => e (Option.some.inj h))
omit [Val] in
theorem CxOk.put {cx : Cx} {len : Nat} {o : Oper} {rest : List Oper} (hc : CxOk live cx len (o :: rest)) : CxOk live (ext cx o.dst len) (len + 1) rest := by
  have key : ∀ t s, (ext cx o.dst len).find t = some s → s = .p len ∨ cx.find t = some s := fun t s h => by
    cases hd : o.dst with
    | none => rw [hd] at h; exact .inr h
    | some u =>
      rw [hd] at h
      have h' : Cx.find ((u, .p len) :: cx) t = some s := h
      rw [find_cons] at h'
      by_cases e : u = t
      · rw [if_pos e] at h'; exact .inl (Option.some.inj h').symm
      · rw [if_neg e] at h'; exact .inr h'
  refine ⟨fun t p h => ?_, fun t i h => ?_⟩
  · rcases key t _ h with h | h
    · cases h; omega
    · have := hc.pos t p h; omega
  · rcases key t _ h with h | h
    · cases h
    · exact (written_cons (hc.slot t i h)).1

omit [Val] in
/-- a move that is none here -/
theorem alias_s {cx : Cx} {len : Nat} {o : Oper} {rest : List Oper} {p : Nat × Src} (h : alias live cx len o rest = some p) (hc : CxOk live cx len (o :: rest)) :
    ∃ x t y, o.op = .move x ∧ o.guard = none ∧ o.dst = some t ∧ idxOf t live 0 = none ∧ p.1 = t ∧ copd live cx len x = some y ∧ (∀ L f v, SrcV len L f p.2 v → EvV y L f v) ∧ (∀ q, p.2 = .p q → q < len) ∧ ∀ i, p.2 = .s i → written live i rest = false := by
  unfold alias at h
  split at h
  · rename_i x t ho hg hd
    split at h
    · cases h
    · rename_i hi
      split at h
      · rename_i k hx
        cases h
        have hk : ∃ q, k = len - 1 - q ∧ q < len := by
          unfold copd at hx
          split at hx
          · rename_i u
            split at hx
            · rename_i q hq
              cases hx
              exact ⟨q, rfl, hc.pos _ _ hq⟩
            · cases hx
            · cases hx
            · cases hx
            · split at hx <;> cases hx
          · split at hx <;> cases hx
          · cases hx
          · cases hx
        obtain ⟨q, rfl, hq⟩ := hk
        refine ⟨x, t, _, ho, hg, hd, hi, rfl, hx, fun L f v hv => ?_, fun p hp => ?_, fun i hi => by cases hi⟩
        · have : L[len - 1 - (len - 1 - (len - 1 - q))]? = some v := hv
          rw [show len - 1 - (len - 1 - (len - 1 - q)) = len - 1 - q by omega] at this
          exact this
        · cases hp; omega
      · rename_i i hx
        split at h
        · cases h
        · rename_i hw
          cases h
          exact ⟨x, t, _, ho, hg, hd, hi, rfl, hx, fun L f v hv => hv, (fun p hp => by cases hp), (fun j hj => by cases hj; exact hw)⟩
      · rename_i v hx
        cases h
        exact ⟨x, t, _, ho, hg, hd, hi, rfl, hx, fun L f u hu => (show u = v from hu).symm, (fun p hp => by cases hp), (fun j hj => by cases hj)⟩
      · cases h
  · cases h

omit [Val] in
theorem wpList_opw {ops : Array Oper} {o : Oper} {rest : List Oper} {a : Act} {w : World} {Q : Exit → Act → World → Prop} (h : OpW P ops o a w (wpList P ops Q rest) Q) : wpList P ops Q (o :: rest) a w := by
  unfold OpW at h
  unfold wpList
  split
  · rename_i hw; rw [if_pos hw] at h; exact .inl h
  · rename_i hw; rw [if_neg hw] at h; exact h

/-- a plain region -/
theorem reg_s (ht : TyOk P ty) (he' : EqT P ty) {ops : Array Oper} {call : Call} (hcall : CallS P call) {nt : Nat} {k : KF} : ∀ (l : List Oper) (cx : Cx) (len : Nat) (L : Loc) (f : Fr) (h : H) (n : Nat),
    regR call k (cReg ty live nt ops.toList l cx len) L f h n = some res → Sz h n → Sz f live.length → L.length = len → CxOk live cx len l →
    ∃ f' h' n', Sz h' n' ∧ Sz f' live.length ∧ k f' h' n' = some res ∧ ∀ (r : Ren) (a : Act) (w : World), EnvL cx len L f n r a → EnvS live f n r a → Rep P r h.at n w → (∀ o ∈ l, ∀ t, o.dst = some t → t < a.tmps.size) →
      ∀ Q : Exit → Act → World → Prop, (∀ r' a' w', EnvS live f' n' r' a' → a'.tmps.size = a.tmps.size → a'.defers = a.defers → Ev P r h.at n w r' h'.at n' w' → Q .normal a' w') → wpList P ops Q l a w
  | [], cx, len, L, f, h, n, hh, hsz, hfz, hL, hc => ⟨f, h, n, hsz, hfz, hh, fun r a w _ hs hr _ Q hQ => hQ r a w hs rfl rfl (Ev.refl hr)⟩
  | o :: rest, cx, len, L, f, h, n, hh, hsz, hfz, hL, hc => by
    rw [cReg] at hh
    cases hal : alias live cx len o rest with
    | some p =>
      rw [hal] at hh
      simp only at hh
      obtain ⟨x, t, y, ho, hg, hd, hi, hp, hx, hv, hq, hw⟩ := alias_s hal hc
      have hc' : CxOk live (p :: cx) len rest := by
        obtain ⟨p1, p2⟩ := p
        refine ⟨fun u q hu => ?_, fun u i hu => ?_⟩
        · rw [find_cons] at hu
          split at hu
          · exact hq q (Option.some.inj hu)
          · exact hc.pos u q hu
        · rw [find_cons] at hu
          split at hu
          · exact hw i (Option.some.inj hu)
          · exact (written_cons (hc.slot u i hu)).1
      obtain ⟨f', h', n', g1, g2, g3, g4⟩ := reg_s ht he' hcall rest (p :: cx) len L f h n hh hsz hfz hL hc'
      refine ⟨f', h', n', g1, g2, g3, fun r a w hl hs hr hdst Q hQ => wpList_opw ?_⟩
      have hlt : t < a.tmps.size := hdst o (List.mem_cons_self ..) t hd
      unfold OpW
      rw [if_pos (wanted_none hg _)]
      refine wp_value (w' := w) (v := a.eval x) ?_ ?_
      · simp only [execOp, ho]; rfl
      · have hs' : EnvS live f n r (a.put o.dst (a.eval x)) := fun u i v hu hv => by
          rw [put_tmps]
          have hne : ¬ (o.dst = some u ∧ u < a.tmps.size) := fun hh => by
            rw [hd] at hh
            cases hh.1
            rw [hi] at hu
            cases hu
          rw [if_neg hne]
          exact hs u i v hu hv
        refine g4 r _ w ?_ hs' hr (fun o' ho' t' ht' => by rw [put_size]; exact hdst o' (List.mem_cons_of_mem _ ho') t' ht') Q (fun r' a' w' q1 q2 q3 q4 => hQ r' a' w' q1 (by rw [q2, put_size]) (by rw [q3, put_defers]) q4)
        obtain ⟨p1, p2⟩ := p
        simp only at hp
        subst hp
        intro u s v hu hsv
        rw [find_cons] at hu
        rw [put_tmps, hd]
        by_cases e : p1 = u
        · subst e
          rw [if_pos rfl] at hu
          cases hu
          rw [if_pos ⟨rfl, hlt⟩]
          obtain ⟨w1, w2⟩ := copd_eval hx (hv L f v hsv) (EnvR.of hl hs)
          exact ⟨w1, by rw [w2]⟩
        · rw [if_neg e] at hu
          rw [if_neg (fun hh => e (Option.some.inj hh.1))]
          exact hl u s v hu hsv
    | none =>
      rw [hal] at hh
      simp only at hh
      have hI := cI_s (P := P) (live := live) (cx := cx) (len := len) (ops := ops) (o := o) ht he' (dslot live o.dst) 0 0
      have hdo : ∀ {a : Act}, (∀ o' ∈ o :: rest, ∀ t, o'.dst = some t → t < a.tmps.size) → ∀ t, o.dst = some t → t < a.tmps.size := fun hdst t hd => hdst o (List.mem_cons_self ..) t hd
      have hdr : ∀ {a : Act} {v : Value}, (∀ o' ∈ o :: rest, ∀ t, o'.dst = some t → t < a.tmps.size) → ∀ o' ∈ rest, ∀ t, o'.dst = some t → t < (a.put o.dst v).tmps.size := fun hdst o' ho' t hd => by rw [put_size]; exact hdst o' (List.mem_cons_of_mem _ ho') t hd
      -- what is left to do behind an operation that left 'v'
      have go : ∀ (v : Value) (h1 : H) (n1 : Nat), Sz h1 n1 → regR call k (cReg ty live nt ops.toList rest (ext cx o.dst len) (len + 1)) (v :: L) (fput (dslot live o.dst) v f) h1 n1 = some res →
          ∃ f' h' n', Sz h' n' ∧ Sz f' live.length ∧ k f' h' n' = some res ∧ ∀ (r : Ren) (a : Act) (w : World), EnvL cx len L f n r a → EnvS live f n r a → (∀ o' ∈ o :: rest, ∀ t, o'.dst = some t → t < a.tmps.size) → ∀ (r1 : Ren) (w1 : World), wf n1 r1 v → Ev P r h.at n w r1 h1.at n1 w1 →
            ∀ Q : Exit → Act → World → Prop, (∀ r' a' w', EnvS live f' n' r' a' → a'.tmps.size = a.tmps.size → a'.defers = a.defers → Ev P r h.at n w r' h'.at n' w' → Q .normal a' w') → wpList P ops Q rest (a.put o.dst (ren r1 v)) w1 := fun v h1 n1 hsz1 hh1 => by
        obtain ⟨f', h', n', g1, g2, g3, g4⟩ := reg_s ht he' hcall rest (ext cx o.dst len) (len + 1) (v :: L) _ h1 n1 hh1 hsz1 (fput_sz hfz).1 (by simp [hL]) hc.put
        refine ⟨f', h', n', g1, g2, g3, fun r a w hl hs hdst r1 w1 hv hev Q hQ => ?_⟩
        exact g4 r1 _ w1 (hl.put hc hL hfz hev.le hev.agree hv (hdo hdst)) (hs.put hfz hev.le hev.agree hv (hdo hdst)) hev.rep (hdr hdst) Q
          (fun r' a' w' q1 q2 q3 q4 => hQ r' a' w' q1 (by rw [q2, put_size]) (by rw [q3, put_defers]) (hev.trans q4))
      rcases cI_d (ty := ty) (live := live) (cx := cx) (len := len) (ops := ops) (o := o) (dslot live o.dst) 0 0 with hci | ⟨g, hci⟩ | ⟨g, hci⟩ | ⟨g, hci⟩ | ⟨g, hci, _⟩
      all_goals rw [hci] at hh hI
      · cases hh
      · have hh1 : g L f (fun v => putF (dslot live o.dst) v f fun f => regR call k (cReg ty live nt ops.toList rest (ext cx o.dst len) (len + 1)) (v :: L) f h n) = some res := hh
        obtain ⟨v, g1, g2⟩ := hI L f _ res hh1
        obtain ⟨f', h', n', q1, q2, q3, q4⟩ := go v h n hsz (putF_some g1)
        refine ⟨f', h', n', q1, q2, q3, fun r a w hl hs hr hdst Q hQ => wpList_opw ?_⟩
        obtain ⟨w1, w2⟩ := g2 r n a (EnvR.of hl hs)
        exact (w2 w).wp (q4 r a w hl hs hdst r w w1 (Ev.refl hr) Q hQ)
      · have hh1 : g L f h (fun v => putF (dslot live o.dst) v f fun f => regR call k (cReg ty live nt ops.toList rest (ext cx o.dst len) (len + 1)) (v :: L) f h n) = some res := hh
        obtain ⟨v, g1, g2⟩ := hI L f h _ res hh1
        obtain ⟨f', h', n', q1, q2, q3, q4⟩ := go v h n hsz (putF_some g1)
        refine ⟨f', h', n', q1, q2, q3, fun r a w hl hs hr hdst Q hQ => wpList_opw ?_⟩
        obtain ⟨w1, w2⟩ := g2 r n a w (EnvR.of hl hs) hr
        exact w2.wp (q4 r a w hl hs hdst r w w1 (Ev.refl hr) Q hQ)
      · have hh1 : g L f (fun b mk => newB h n b fun h n' => putF (dslot live o.dst) (mk n) f fun f => regR call k (cReg ty live nt ops.toList rest (ext cx o.dst len) (len + 1)) (mk n :: L) f h n')
          (fun v => putF (dslot live o.dst) v f fun f => regR call k (cReg ty live nt ops.toList rest (ext cx o.dst len) (len + 1)) (v :: L) f h n) = some res := hh
        rcases hI L f _ _ res hh1 with ⟨x, mk, g1, g2, g3⟩ | ⟨v, g1, g2⟩
        · have g4 := newB_some g1
          obtain ⟨s1, s2⟩ := hsz.put n (Nat.le_refl _) x
          rw [show max n (n + 1) = n + 1 by omega] at s1
          obtain ⟨f', h', n', q1, q2, q3, q4⟩ := go (mk n) _ (n + 1) s1 (putF_some g4)
          refine ⟨f', h', n', q1, q2, q3, fun r a w hl hs hr hdst Q hQ => wpList_opw ?_⟩
          obtain ⟨obj, w', e0, e1, e2, e3, e4⟩ := g3 r n a w (EnvR.of hl hs)
          exact e4.wp (q4 r a w hl hs hdst _ w' e3 (new_ev e0 hsz hr e1 e2).2 Q hQ)
        · obtain ⟨f', h', n', q1, q2, q3, q4⟩ := go v h n hsz (putF_some g1)
          refine ⟨f', h', n', q1, q2, q3, fun r a w hl hs hr hdst Q hQ => wpList_opw ?_⟩
          obtain ⟨w1, w', e1, e3⟩ := g2 r n a w (EnvR.of hl hs)
          refine e3.wp (q4 r a w hl hs hdst r w' w1 ?_ Q hQ)
          refine ⟨Nat.le_refl _, fun _ _ => ⟨rfl, rfl⟩, Nat.le_of_eq e1.size.symm, fun k o ho _ => e1.same k o ho, fun b x hb hl => .inr ⟨b, x, hb, hl, rfl⟩, ⟨fun b x hb => ?_, hr.inj, hr.lt⟩, e1.out, fun b h1 h2 => by omega, fun k hk hno => e1.old k hk hno⟩
          by_cases hdd : x = .dead
          · subst hdd; trivial
          · have hold := hr.blk b x hb
            obtain ⟨o1, ho1⟩ := BlkRep.there hdd hold
            obtain ⟨o2, ho2, hs2⟩ := e1.same _ o1 ho1
            exact BlkRep.move (hr.lt b x hb) (Nat.le_refl _) (fun _ _ => ⟨rfl, rfl⟩) ho1 ho2 hs2 hold
      · have hh1 : g call L f h n (fun v h n => putF (dslot live o.dst) v f fun f => regR call k (cReg ty live nt ops.toList rest (ext cx o.dst len) (len + 1)) (v :: L) f h n) = some res := hh
        obtain ⟨v, h1, n1, g1, g2, g3⟩ := hI call hcall L f h n _ res hh1 hsz
        obtain ⟨f', h', n', q1, q2, q3, q4⟩ := go v h1 n1 g1 (putF_some g2)
        refine ⟨f', h', n', q1, q2, q3, fun r a w hl hs hr hdst Q hQ => wpList_opw ?_⟩
        exact g3 r a w (EnvR.of hl hs) hr _ Q (fun r1 w1 e1 e2 => q4 r a w hl hs hdst r1 w1 e1 e2 Q hQ)
end
end Go.Proofs.YtccbdaffjkdpgaaGreatDoor.Vw
namespace Go.Proofs.YtccbdaffjkdpgaaGreatDoor.Vw
variable [Val]

/-- the interpreter's state within such a region: the heaps ahead of the effects so far, the heap behind the last, the heap -/
structure St where
  old : List (Nat × H)
  bs : H
  bn : Nat
  h : H
  n : Nat
/-- what a step was: it left a value; it made a block; it changed the heap -/
inductive Kd where
  | v
  | al (x : Blk)
  | ef

section
variable {P : Program} {ty : Ty} {live : List Nat} {res : Value × H × Nat}

omit [Val] in
theorem veq1_eq {x y : Value} (h : veq1 x y = true) : x = y := by
  have had : ∀ a b : Addr, adEq a b = true → a = b := fun a b h => by
    obtain ⟨b1, o1, s1⟩ := a
    obtain ⟨b2, o2, s2⟩ := b
    unfold adEq at h
    simp only [Bool.and_eq_true] at h
    obtain ⟨h1, h2, h3⟩ := h
    cases Nat.eq_of_beq_eq_true h1
    cases Nat.eq_of_beq_eq_true h2
    cases s1 with
    | none => cases s2 with
      | none => rfl
      | some s => cases h3
    | some s => cases s2 with
      | none => cases h3
      | some s' => cases Nat.eq_of_beq_eq_true h3; rfl
  unfold veq1 at h
  split at h
  · rw [Bool.and_eq_true] at h
    cases kEq_eq h.1
    have := h.2
    rw [eqI_eq] at this
    rw [eq_of_beq this]
  · rw [eq_of_beq h]
  · rename_i a b
    have : a.data.toList = b.data.toList := eq_of_beq h
    congr 1
    obtain ⟨⟨a⟩⟩ := a
    obtain ⟨⟨b⟩⟩ := b
    simp at this
    rw [this]
  · rfl
  · rw [had _ _ h]
  · rw [Bool.and_eq_true] at h
    cases Nat.eq_of_beq_eq_true h.1
    cases Nat.eq_of_beq_eq_true h.2
    rfl
  · simp only [Bool.and_eq_true] at h
    rw [had _ _ h.1]
    cases Nat.eq_of_beq_eq_true h.2.1
    cases Nat.eq_of_beq_eq_true h.2.2
    rfl
  · rfl
  · cases Nat.eq_of_beq_eq_true h; rfl
  · rfl
  · cases h
omit [Val] in
theorem veqL_eq : ∀ {l r : List Value}, veqL l r = true → l = r
  | [], [], _ => rfl
  | [], _ :: _, h => by unfold veqL at h; cases h
  | _ :: _, [], h => by unfold veqL at h; cases h
  | a :: l, b :: r, h => by
    unfold veqL at h
    rw [Bool.and_eq_true] at h
    rw [veq1_eq h.1, veqL_eq h.2]
omit [Val] in
theorem veq_eq {x y : Value} (h : veq x y = true) : x = y := by
  unfold veq at h
  split at h
  · rename_i a b; obtain ⟨a⟩ := a; obtain ⟨b⟩ := b; cases veqL_eq (l := a) (r := b) h; rfl
  · rename_i a b; obtain ⟨a⟩ := a; obtain ⟨b⟩ := b; cases veqL_eq (l := a) (r := b) h; rfl
  · exact veq1_eq h

theorem held_some {cx : Cx} {len : Nat} {ops : Array Oper} {o : Oper} {g : Ld} (hg : GLdS P live cx len ops o g) {L : Loc} {f : Fr} {anc : Nat} {v : Value} {t : R} : ∀ {old : List (Nat × H)}, heldIn g L f anc v t old = some res →
    t = some res ∧ ∀ ix B, (ix, B) ∈ old → anc.testBit ix = false → ∀ (r : Ren) (n : Nat) (a : Act) (w : World), EnvR live cx len L f n r a → Rep P r B.at n w → wf n r v ∧ OpV P ops o a w (ren r v) w
  | [], h => ⟨h, fun ix B hm => by cases hm⟩
  | (j, h0) :: old, h => by
    have h1 : @Bool.rec (fun _ => R) (g L f h0 fun u => @Bool.rec (fun _ => R) none (heldIn g L f anc v t old) (veq u v)) (heldIn g L f anc v t old) (anc.testBit j) = some res := h
    cases ht : anc.testBit j with
    | true =>
      rw [ht] at h1
      obtain ⟨g1, g2⟩ := held_some hg (old := old) h1
      refine ⟨g1, fun ix B hm hb => ?_⟩
      rcases List.mem_cons.1 hm with hm | hm
      · cases hm; rw [ht] at hb; cases hb
      · exact g2 ix B hm hb
    | false =>
      rw [ht] at h1
      have h2 : g L f h0 (fun u => @Bool.rec (fun _ => R) none (heldIn g L f anc v t old) (veq u v)) = some res := h1
      obtain ⟨u, h3, h4⟩ := hg L f h0 _ res h2
      obtain ⟨h5, h6⟩ := boolK' h3
      have e := veq_eq h5
      subst e
      obtain ⟨g1, g2⟩ := held_some hg (old := old) h6
      refine ⟨g1, fun ix B hm hb => ?_⟩
      rcases List.mem_cons.1 hm with hm | hm
      · cases hm; exact h4
      · exact g2 ix B hm hb

/-! what the compiler knows -/
omit [Val] in
theorem cxA_find {ws : List (Nat × Nat)} {ix anc : Nat} : ∀ {cx : List (Nat × Nat × Nat)} {t : Nat}, (∀ s, (cxA ws ix anc cx).find t = some s → s = .no ∨ ∃ jx q, (t, jx, q) ∈ cx ∧ anc.testBit jx = true ∧ s = .p q) ∧ ((cxA ws ix anc cx).find t = none → ∀ a, (t, a) ∈ ws → a.testBit ix = true)
  | [], t => by
    have key : ∀ ws : List (Nat × Nat), (∀ s, (cxA ws ix anc []).find t = some s → s = .no) ∧ ((cxA ws ix anc []).find t = none → ∀ a, (t, a) ∈ ws → a.testBit ix = true) := fun ws => by
      induction ws with
      | nil => exact ⟨(fun s h => by cases h), (fun _ a h => by cases h)⟩
      | cons d ws ih =>
        obtain ⟨u, b⟩ := d
        cases hb : b.testBit ix with
        | true =>
          have e : cxA ((u, b) :: ws) ix anc [] = cxA ws ix anc [] := by
            show @Bool.rec (fun _ => Cx) ((u, .no) :: cxA ws ix anc []) (cxA ws ix anc []) (b.testBit ix) = _
            rw [hb]
          rw [e]
          refine ⟨ih.1, fun h a hm => ?_⟩
          rcases List.mem_cons.1 hm with hm | hm
          · cases hm; exact hb
          · exact ih.2 h a hm
        | false =>
          have e : cxA ((u, b) :: ws) ix anc [] = (u, .no) :: cxA ws ix anc [] := by
            show @Bool.rec (fun _ => Cx) ((u, .no) :: cxA ws ix anc []) (cxA ws ix anc []) (b.testBit ix) = _
            rw [hb]
          rw [e, find_cons]
          by_cases hd : u = t
          · subst hd
            rw [if_pos rfl]
            exact ⟨fun s h => (Option.some.inj h).symm, fun h => by cases h⟩
          · rw [if_neg hd]
            refine ⟨ih.1, fun h a hm => ?_⟩
            rcases List.mem_cons.1 hm with hm | hm
            · cases hm; exact absurd rfl hd
            · exact ih.2 h a hm
    exact ⟨fun s h => .inl ((key ws).1 s h), (key ws).2⟩
  | (u, jx, p) :: cx, t => by
    obtain ⟨h1, h2⟩ := cxA_find (ws := ws) (ix := ix) (anc := anc) (cx := cx) (t := t)
    have e : (cxA ws ix anc ((u, jx, p) :: cx)).find t = if u = t then some (Bool.rec .no (.p p) (anc.testBit jx)) else (cxA ws ix anc cx).find t := find_cons t u _ (cxA ws ix anc cx)
    rw [e]
    by_cases hu : u = t
    · subst hu
      rw [if_pos rfl]
      refine ⟨fun s h => ?_, fun h => by cases h⟩
      cases ha : anc.testBit jx with
      | true => rw [ha] at h; exact .inr ⟨jx, p, List.mem_cons_self .., ha, (Option.some.inj h).symm⟩
      | false => rw [ha] at h; exact .inl (Option.some.inj h).symm
    · rw [if_neg hu]
      refine ⟨fun s h => ?_, h2⟩
      rcases h1 s h with g1 | ⟨ix, q, g1, g2⟩
      · exact .inl g1
      · exact .inr ⟨ix, q, List.mem_cons_of_mem _ g1, g2⟩
end

section
variable (P : Program) (ty : Ty) (live : List Nat) (ops : Array Oper) (lg : List Og) (f0 : Fr) (v : Nat → Value)
/-- what an operation at place 'p' may look at -/
structure EnvP (ix anc p n : Nat) (r : Ren) (a : Act) : Prop where
  done : ∀ q g t, q < p → lg[q]? = some g → anc.testBit g.ix = true → g.o.dst = some t → wf n r (v q) ∧ a.tmps[t]? = some (ren r (v q))
  rest : ∀ t i u, (∀ (q : Nat) (g : Og), lg[q]? = some g → g.o.dst = some t → g.anc.testBit ix = true) → idxOf t live 0 = some i → f0.at i = some u → wf n r u ∧ a.tmps[t]? = some (ren r u)
/-- a step of such a region: from one state to the next -/
def StepOk (p : Nat) (g : Og) (s s' : St) (k : Kd) : Prop := match k with
  | .v => s' = s ∧ ∀ B, (B = s.bs ∨ ∃ ix, (ix, B) ∈ s.old ∧ g.anc.testBit ix = false) → ∀ (r : Ren) (n : Nat) (a : Act) (w : World), EnvP live lg f0 v g.ix g.anc p n r a → Rep P r B.at n w → wf n r (v p) ∧
      ∃ w' : World, Still n r w w' ∧ OpV P ops g.o a w (ren r (v p)) w'
  | .al x => s' = ⟨s.old, s.bs, s.bn, s.h.put s.n x, s.n + 1⟩ ∧ x.live ∧ ∀ (r : Ren) (a : Act) (w : World), EnvP live lg f0 v g.ix g.anc p s.n r a → ∃ (obj : Obj) (w' : World), Out w w' ∧ w'.heap = w.heap.push obj ∧
      BlkRep P (r.set s.n w.heap.size 0) (s.n + 1) s.n x w' ∧ wf (s.n + 1) (r.set s.n w.heap.size 0) (v p) ∧ OpV P ops g.o a w (ren (r.set s.n w.heap.size 0) (v p)) w'
  | .ef => isE (cls ty g.o.op) = true ∧ s.n ≤ s'.n ∧ Sz s'.h s'.n ∧ s' = ⟨(g.ix, s.bs) :: s.old, s'.h, s'.n, s'.h, s'.n⟩ ∧ ∀ (r : Ren) (a : Act) (w : World), EnvP live lg f0 v g.ix g.anc p s.n r a → Rep P r s.h.at s.n w → ∀ (K : Act → World → Prop) (Q : Exit → Act → World → Prop),
      (∀ r' w', wf s'.n r' (v p) → Ev P r s.h.at s.n w r' s'.h.at s'.n w' → K (a.put g.o.dst (ren r' (v p))) w') → OpW P ops g.o a w K Q
end

section
variable {P : Program} {ty : Ty} {live : List Nat} {res : Value × H × Nat} {ops : Array Oper} {ws : List (Nat × Nat)} {lg : List Og} {f0 : Fr}

theorem env_of {v : Nat → Value} {ix anc p n : Nat} {r : Ren} {a : Act} {cx : List (Nat × Nat × Nat)} {L : Loc} {f : Fr} (h : EnvP live lg f0 v ix anc p n r a) (hws : ∀ (q : Nat) (g : Og) (t : Nat), lg[q]? = some g → g.o.dst = some t → (t, g.anc) ∈ ws) (hfree : ∀ (q : Nat) (g : Og), q < p → lg[q]? = some g → g.anc.testBit ix = false)
    (hcx : ∀ t ix q, (t, ix, q) ∈ cx → q < p ∧ ∃ g, lg[q]? = some g ∧ g.ix = ix ∧ g.o.dst = some t) (hL : ∀ q, q < p → L[p - 1 - q]? = some (v q)) (hf : ∀ t i, (∀ (q : Nat) (g : Og), q < p → lg[q]? = some g → g.o.dst ≠ some t) → idxOf t live 0 = some i → f.at i = f0.at i) :
    EnvR live (cxA ws ix anc cx) p L f n r a := by
  refine ⟨fun t s u hs hu => ?_, fun t i u hn hi hu => ?_⟩
  · rcases cxA_find.1 s hs with rfl | ⟨ix, q, h1, h2, rfl⟩
    · exact hu.elim
    · obtain ⟨h3, g, h4, h5, h6⟩ := hcx t ix q h1
      have hu' : L[p - 1 - q]? = some u := hu
      rw [hL q h3] at hu'
      cases hu'
      exact h.done q g t h3 h4 (by rw [h5]; exact h2) h6
  · have hd : ∀ (q : Nat) (g : Og), lg[q]? = some g → g.o.dst = some t → g.anc.testBit ix = true := fun q g hg hgd => cxA_find.2 hn _ (hws q g t hg hgd)
    rw [hf t i (fun q g hq hg hgd => by
      have h1 := hd q g hg hgd
      rw [hfree q g hq hg] at h1
      cases h1) hi] at hu
    exact h.rest t i u hd hi hu

/-- The interpreter's run of such a region, in steps. -/
theorem drw_run (ht : TyOk P ty) (he : EqT P ty) {call : Call} (hcall : CallS P call) {k : KF} (hws : ∀ (q : Nat) (g : Og) (t : Nat), lg[q]? = some g → g.o.dst = some t → (t, g.anc) ∈ ws) (hfree : ∀ (p : Nat) (g : Og) (q : Nat) (g' : Og), q < p → lg[p]? = some g → lg[q]? = some g' → g'.anc.testBit g.ix = false) (hnd : ∀ (q : Nat) (g : Og) (q' : Nat) (g' : Og) (t : Nat), lg[q]? = some g → lg[q']? = some g' → g.o.dst = some t → g'.o.dst = some t → q = q') :
    ∀ (l : List Og) (p0 : Nat) (cx : List (Nat × Nat × Nat)) (L : Loc) (old : List (Nat × H)) (bs : H) (bn : Nat) (f : Fr) (h : H) (n : Nat) (v0 : Nat → Value),
    drwR call k (cDrw ty live ops.toList ws l cx p0) L old bs f h n = some res → (∀ j, l[j]? = lg[p0 + j]?) → Sz h n → Sz f live.length →
    (∀ t ix q, (t, ix, q) ∈ cx → q < p0 ∧ ∃ g, lg[q]? = some g ∧ g.ix = ix ∧ g.o.dst = some t) → (∀ q, q < p0 → L[p0 - 1 - q]? = some (v0 q)) → (∀ t i, (∀ (q : Nat) (g : Og), q < p0 → lg[q]? = some g → g.o.dst ≠ some t) → idxOf t live 0 = some i → f.at i = f0.at i) →
    (∀ q g t i, q < p0 → lg[q]? = some g → g.o.dst = some t → idxOf t live 0 = some i → f.at i = some (v0 q)) →
    ∃ (v : Nat → Value) (S : Nat → St) (kd : Nat → Kd) (f' : Fr), k f' (S (p0 + l.length)).h (S (p0 + l.length)).n = some res ∧ Sz f' live.length ∧ (∀ q, q < p0 → v q = v0 q) ∧ S p0 = ⟨old, bs, bn, h, n⟩ ∧
      (∀ t i, (∀ (q : Nat) (g : Og), q < p0 + l.length → lg[q]? = some g → g.o.dst ≠ some t) → idxOf t live 0 = some i → f'.at i = f0.at i) ∧ (∀ q g t i, q < p0 + l.length → lg[q]? = some g → g.o.dst = some t → idxOf t live 0 = some i → f'.at i = some (v q)) ∧
      ∀ p g, p0 ≤ p → p < p0 + l.length → lg[p]? = some g → StepOk P ty live ops lg f0 v p g (S p) (S (p + 1)) (kd p)
  | [], p0, cx, L, old, bs, bn, f, h, n, v0, hh, hl, hsz, hfz, hcx, hL, hf, hf2 =>
    ⟨v0, fun _ => ⟨old, bs, bn, h, n⟩, fun _ => .v, f, hh, hfz, fun _ _ => rfl, rfl, fun t i h => hf t i (fun q g hq => h q g (by simpa using hq)), fun q g t i hq => hf2 q g t i (by simpa using hq), fun p g h1 h2 => by simp at h2; omega⟩
  | g :: l, p0, cx, L, old, bs, bn, f, h, n, v0, hh, hl, hsz, hfz, hcx, hL, hf, hf2 => by
    have hg : lg[p0]? = some g := (hl 0).symm
    have hl' : ∀ j, l[j]? = lg[p0 + 1 + j]? := fun j => by
      have := hl (j + 1)
      rw [List.getElem?_cons_succ] at this
      rw [this]
      congr 1
      omega
    rw [cDrw] at hh
    have hI := cI_s (P := P) (live := live) (cx := cxA ws g.ix g.anc cx) (len := p0) (ops := ops) (o := g.o) ht he (dslot live g.o.dst) g.anc g.ix
    -- what is left to do behind a step
    have go : ∀ (u : Value) (s1 : St) (kd0 : Kd), Sz s1.h s1.n → drwR call k (cDrw ty live ops.toList ws l (extA cx g.o.dst g.ix p0) (p0 + 1)) (u :: L) s1.old s1.bs (fput (dslot live g.o.dst) u f) s1.h s1.n = some res →
        (∀ v : Nat → Value, (∀ q, q < p0 → v q = v0 q) → v p0 = u → StepOk P ty live ops lg f0 v p0 g ⟨old, bs, bn, h, n⟩ s1 kd0) →
        ∃ (v : Nat → Value) (S : Nat → St) (kd : Nat → Kd) (f' : Fr), k f' (S (p0 + (g :: l).length)).h (S (p0 + (g :: l).length)).n = some res ∧ Sz f' live.length ∧ (∀ q, q < p0 → v q = v0 q) ∧ S p0 = ⟨old, bs, bn, h, n⟩ ∧
          (∀ t i, (∀ (q : Nat) (g' : Og), q < p0 + (g :: l).length → lg[q]? = some g' → g'.o.dst ≠ some t) → idxOf t live 0 = some i → f'.at i = f0.at i) ∧ (∀ q g' t i, q < p0 + (g :: l).length → lg[q]? = some g' → g'.o.dst = some t → idxOf t live 0 = some i → f'.at i = some (v q)) ∧
          ∀ p g', p0 ≤ p → p < p0 + (g :: l).length → lg[p]? = some g' → StepOk P ty live ops lg f0 v p g' (S p) (S (p + 1)) (kd p) := fun u s1 kd0 hsz1 hh1 hst => by
      obtain ⟨hfz1, hfa⟩ := fput_sz (live := live) (d := g.o.dst) (v := u) hfz
      obtain ⟨v, S, kd, f', a1, a2, a3, a4, a5, a6, a7⟩ := drw_run ht he hcall hws hfree hnd l (p0 + 1) (extA cx g.o.dst g.ix p0) (u :: L) s1.old s1.bs s1.bn _ s1.h s1.n (fun q => if q = p0 then u else v0 q) hh1 hl' hsz1 hfz1
        (fun t ix q hm => by
          have : (t, ix, q) ∈ cx ∨ (g.o.dst = some t ∧ ix = g.ix ∧ q = p0) := by
            unfold extA at hm
            split at hm
            · rename_i t' hd
              rcases List.mem_cons.1 hm with hm | hm
              · cases hm; exact .inr ⟨hd, rfl, rfl⟩
              · exact .inl hm
            · exact .inl hm
          rcases this with hm | ⟨h1, rfl, rfl⟩
          · obtain ⟨b1, b2⟩ := hcx t ix q hm
            exact ⟨by omega, b2⟩
          · exact ⟨by omega, g, hg, rfl, h1⟩)
        (fun q hq => by
          by_cases e : q = p0
          · subst e
            rw [show q + 1 - 1 - q = 0 by omega, if_pos rfl]
            rfl
          · rw [show p0 + 1 - 1 - q = (p0 - 1 - q) + 1 by omega, List.getElem?_cons_succ, if_neg e]
            exact hL q (by omega))
        (fun t i htd hi => by
          rw [hfa, if_neg (fun e => ?_)]
          · exact hf t i (fun q g' hq => htd q g' (by omega)) hi
          · cases hd : g.o.dst with
            | none => rw [hd] at e; cases e
            | some t' =>
              rw [hd] at e
              exact htd p0 g (by omega) hg (by rw [hd, idxOf_inj e hi]))
        (fun q g' t i hq hgq hd hi => by
          rw [hfa]
          by_cases e : q = p0
          · subst e
            rw [hg] at hgq
            cases hgq
            rw [if_pos rfl, if_pos (by rw [hd]; exact hi)]
          · rw [if_neg e, if_neg (fun e2 => ?_)]
            · exact hf2 q g' t i (by omega) hgq hd hi
            · cases hd2 : g.o.dst with
              | none => rw [hd2] at e2; cases e2
              | some t' =>
                rw [hd2] at e2
                have := idxOf_inj e2 hi
                subst this
                exact e (hnd q g' p0 g t' hgq hg hd hd2))
      have hlen : p0 + 1 + l.length = p0 + (g :: l).length := by simp; omega
      have hS : ∀ q, p0 < q → (fun q => if q = p0 then (⟨old, bs, bn, h, n⟩ : St) else S q) q = S q := fun q hq => if_neg (by omega)
      have hv : ∀ q, q < p0 → v q = v0 q := fun q hq => by rw [a3 q (by omega), if_neg (by omega)]
      have hvp : v p0 = u := by rw [a3 p0 (by omega), if_pos rfl]
      refine ⟨v, fun q => if q = p0 then ⟨old, bs, bn, h, n⟩ else S q, fun q => if q = p0 then kd0 else kd q, f', ?_, a2, hv, if_pos rfl, fun t i h => a5 t i (fun q g' hq => h q g' (by omega)), fun q g' t i hq => a6 q g' t i (by omega), fun p g' h1 h2 h3 => ?_⟩
      · rw [hS _ (by simp), ← hlen]; exact a1
      · by_cases e : p = p0
        · subst e
          rw [hg] at h3
          cases h3
          simp only
          simp only [if_true]
          rw [if_neg (by omega), a4]
          exact hst v hv hvp
        · simp only
          rw [if_neg e, if_neg e, if_neg (by omega)]
          exact a7 p g' (by omega) (by omega) h3
    have henv : ∀ (v : Nat → Value), (∀ q, q < p0 → v q = v0 q) → ∀ {n : Nat} {r : Ren} {a : Act}, EnvP live lg f0 v g.ix g.anc p0 n r a → EnvR live (cxA ws g.ix g.anc cx) p0 L f n r a := fun v hv n r a h => env_of h hws (fun q g' hq hg' => hfree p0 g q g' hq hg hg') hcx (fun q hq => by rw [hL q hq, hv q hq]) hf
    rcases cI_d (ty := ty) (live := live) (cx := cxA ws g.ix g.anc cx) (len := p0) (ops := ops) (o := g.o) (dslot live g.o.dst) g.anc g.ix with hci | ⟨x, hci⟩ | ⟨x, hci⟩ | ⟨x, hci⟩ | ⟨x, hci, hE⟩
    all_goals rw [hci] at hh hI
    · cases hh
    · have hh1 : x L f (fun u => putF (dslot live g.o.dst) u f fun f => drwR call k (cDrw ty live ops.toList ws l (extA cx g.o.dst g.ix p0) (p0 + 1)) (u :: L) old bs f h n) = some res := hh
      obtain ⟨u, g1, g2⟩ := hI L f _ res hh1
      refine go u ⟨old, bs, bn, h, n⟩ .v hsz (putF_some g1) fun v hv hvp => ⟨rfl, fun B _ r n' a w henv' hr => ?_⟩
      rw [hvp]
      obtain ⟨e1, e2⟩ := g2 r n' a (henv v hv henv')
      exact ⟨e1, w, .refl _ _ w, e2 w⟩
    · have hh1 : x L f bs (fun u => heldIn x L f g.anc u (putF (dslot live g.o.dst) u f fun f => drwR call k (cDrw ty live ops.toList ws l (extA cx g.o.dst g.ix p0) (p0 + 1)) (u :: L) old bs f h n) old) = some res := hh
      obtain ⟨u, g1, g2⟩ := hI L f bs _ res hh1
      obtain ⟨g3, g4⟩ := held_some hI g1
      refine go u ⟨old, bs, bn, h, n⟩ .v hsz (putF_some g3) fun v hv hvp => ⟨rfl, fun B hB r n' a w henv' hr => ?_⟩
      rw [hvp]
      rcases hB with rfl | ⟨ix, hm, hb⟩
      · obtain ⟨e1, e2⟩ := g2 r n' a w (henv v hv henv') hr
        exact ⟨e1, w, .refl _ _ w, e2⟩
      · obtain ⟨e1, e2⟩ := g4 ix B hm hb r n' a w (henv v hv henv') hr
        exact ⟨e1, w, .refl _ _ w, e2⟩
    · have hh1 : x L f (fun b mk => newB h n b fun h n' => putF (dslot live g.o.dst) (mk n) f fun f => drwR call k (cDrw ty live ops.toList ws l (extA cx g.o.dst g.ix p0) (p0 + 1)) (mk n :: L) old bs f h n')
        (fun u => putF (dslot live g.o.dst) u f fun f => drwR call k (cDrw ty live ops.toList ws l (extA cx g.o.dst g.ix p0) (p0 + 1)) (u :: L) old bs f h n) = some res := hh
      rcases hI L f _ _ res hh1 with ⟨b, mk, g1, g2, g3⟩ | ⟨u, g1, g2⟩
      · have g4 := newB_some g1
        obtain ⟨s1, s2⟩ := hsz.put n (Nat.le_refl _) b
        rw [show max n (n + 1) = n + 1 by omega] at s1
        refine go (mk n) ⟨old, bs, bn, h.put n b, n + 1⟩ (.al b) s1 (putF_some g4) fun v hv hvp => ⟨rfl, g2, fun r a w henv' => ?_⟩
        rw [hvp]
        exact g3 r n a w (henv v hv henv')
      · refine go u ⟨old, bs, bn, h, n⟩ .v hsz (putF_some g1) fun v hv hvp => ⟨rfl, fun B _ r n' a w henv' hr => ?_⟩
        rw [hvp]
        exact g2 r n' a w (henv v hv henv')
    · have hh1 : x call L f h n (fun u h m => @Bool.rec (fun _ => R) none (putF (dslot live g.o.dst) u f fun f => drwR call k (cDrw ty live ops.toList ws l (extA cx g.o.dst g.ix p0) (p0 + 1)) (u :: L) ((g.ix, bs) :: old) h f h m) (Nat.ble n m)) = some res := hh
      obtain ⟨u, h', n', g1, g2, g3⟩ := hI call hcall L f h n _ res hh1 hsz
      obtain ⟨g4, g5⟩ := boolK' g2
      refine go u ⟨(g.ix, bs) :: old, h', n', h', n'⟩ .ef g1 (putF_some g5) fun v hv hvp => ⟨hE, Nat.le_of_ble_eq_true g4, g1, rfl, fun r a w henv' hr K Q hK => ?_⟩
      rw [hvp] at hK
      exact g3 r a w (henv v hv henv') hr K Q hK
end
end Go.Proofs.YtccbdaffjkdpgaaGreatDoor.Vw
namespace Go.Proofs.YtccbdaffjkdpgaaGreatDoor.Vw
variable [Val]

section
variable (P : Program) (ty : Ty) (live : List Nat) (ops : Array Oper) (lg : List Og) (f0 : Fr) (v : Nat → Value) (S : Nat → St) (kd : Nat → Kd) (h0 : H) (n0 : Nat)
/-- the interpreter's run of a drawn region -/
structure Drn : Prop where
  op : ∀ (p : Nat) (g : Og), lg[p]? = some g → ops[g.ix]? = some g.o
  len : lg.length = ops.size
  cover : ∀ i, i < ops.size → ∃ (p : Nat) (g : Og), lg[p]? = some g ∧ g.ix = i
  nodup : ∀ (p : Nat) (g : Og) (p' : Nat) (g' : Og), lg[p]? = some g → lg[p']? = some g' → g.ix = g'.ix → p = p'
  dst : ∀ (q : Nat) (g : Og) (q' : Nat) (g' : Og) (t : Nat), lg[q]? = some g → lg[q']? = some g' → g.o.dst = some t → g'.o.dst = some t → q = q'
  st0 : S 0 = ⟨[], h0, n0, h0, n0⟩
  sz0 : Sz h0 n0
  steps : ∀ (p : Nat) (g : Og), lg[p]? = some g → StepOk P ty live ops lg f0 v p g (S p) (S (p + 1)) (kd p)
  anc : ∀ (p : Nat) (g : Og), lg[p]? = some g → ∀ j, g.anc.testBit j = true → ∃ (q : Nat) (g' : Og), q < p ∧ lg[q]? = some g' ∧ g'.ix = j
  eff : ∀ (p : Nat) (g : Og), lg[p]? = some g → isE (cls ty g.o.op) = true → ∀ (q : Nat) (g' : Og), q < p → lg[q]? = some g' → g.anc.testBit g'.ix = true
end

section
variable {P : Program} {ty : Ty} {live : List Nat} {ops : Array Oper} {lg : List Og} {f0 : Fr} {v : Nat → Value} {S : Nat → St} {kd : Nat → Kd} {h0 : H} {n0 : Nat}

theorem Drn.get (d : Drn P ty live ops lg f0 v S kd h0 n0) {p : Nat} (h : p < ops.size) : ∃ g, lg[p]? = some g := ⟨lg[p]'(by rw [d.len]; exact h), List.getElem?_eq_getElem _⟩
theorem Drn.step1 (d : Drn P ty live ops lg f0 v S kd h0 n0) {p : Nat} (h : p < ops.size) : (S p).n ≤ (S (p + 1)).n := by
  obtain ⟨g, hg⟩ := d.get h
  have := d.steps p g hg
  unfold StepOk at this
  split at this
  · rw [this.1]; exact Nat.le_refl _
  · rw [this.1]; exact Nat.le_succ _
  · exact this.2.1
theorem Drn.mono (d : Drn P ty live ops lg f0 v S kd h0 n0) {p : Nat} : ∀ {q : Nat}, p ≤ q → q ≤ ops.size → (S p).n ≤ (S q).n
  | 0, h, _ => by rw [show p = 0 by omega]; exact Nat.le_refl _
  | q + 1, h, hq => by
    by_cases e : p = q + 1
    · subst e; exact Nat.le_refl _
    · exact Nat.le_trans (d.mono (q := q) (by omega) (by omega)) (d.step1 (by omega))
theorem Drn.sz (d : Drn P ty live ops lg f0 v S kd h0 n0) : ∀ {p : Nat}, p ≤ ops.size → Sz (S p).h (S p).n
  | 0, _ => by rw [d.st0]; exact d.sz0
  | p + 1, hp => by
    have ih := d.sz (p := p) (by omega)
    obtain ⟨g, hg⟩ := d.get (p := p) (by omega)
    have := d.steps p g hg
    unfold StepOk at this
    split at this
    · rw [this.1]; exact ih
    · rw [this.1]
      obtain ⟨s1, _⟩ := ih.put (S p).n (Nat.le_refl _) ‹Blk›
      rw [show max (S p).n ((S p).n + 1) = (S p).n + 1 by omega] at s1
      exact s1
    · exact this.2.2.1
/-- No effect between two places. -/
theorem Drn.seg (d : Drn P ty live ops lg f0 v S kd h0 n0) {c : Nat} : ∀ {p : Nat}, c ≤ p → p ≤ ops.size → (∀ q, c ≤ q → q < p → kd q ≠ .ef) → (S p).bs = (S c).bs ∧ (S p).old = (S c).old ∧
    (∀ b x, (S p).h.at b = some x → (S c).h.at b = some x ∨ ∃ q, c ≤ q ∧ q < p ∧ kd q = .al x ∧ (S q).n = b)
  | 0, h, _, _ => by rw [show c = 0 by omega]; exact ⟨rfl, rfl, fun b x hb => .inl hb⟩
  | p + 1, h, hp, hno => by
    by_cases e : c = p + 1
    · subst e; exact ⟨rfl, rfl, fun b x hb => .inl hb⟩
    · obtain ⟨i1, i2, i3⟩ := d.seg (c := c) (p := p) (by omega) (by omega) (fun q h1 h2 => hno q h1 (by omega))
      obtain ⟨g, hg⟩ := d.get (p := p) (by omega)
      have hst := d.steps p g hg
      have old : ∀ b x, (S p).h.at b = some x → (S c).h.at b = some x ∨ ∃ q, c ≤ q ∧ q < p + 1 ∧ kd q = .al x ∧ (S q).n = b := fun b x hb =>
        (i3 b x hb).imp id fun ⟨q, h1, h2, h3⟩ => ⟨q, h1, by omega, h3⟩
      cases hk : kd p with
      | v =>
        rw [hk] at hst
        rw [hst.1]
        exact ⟨i1, i2, old⟩
      | al x =>
        rw [hk] at hst
        rw [hst.1]
        refine ⟨i1, i2, fun b y hb => ?_⟩
        obtain ⟨_, s2⟩ := (d.sz (p := p) (by omega)).put (S p).n (Nat.le_refl _) x
        simp only at hb
        rw [s2] at hb
        by_cases eb : b = (S p).n
        · rw [if_pos eb] at hb
          cases hb
          exact .inr ⟨p, by omega, by omega, hk, eb.symm⟩
        · rw [if_neg eb] at hb
          exact old b y hb
      | ef => exact absurd hk (hno p (by omega) (by omega))
/-- The heap ahead of an effect is remembered. -/
theorem Drn.old (d : Drn P ty live ops lg f0 v S kd h0 n0) {q : Nat} {g : Og} (hg : lg[q]? = some g) (hk : kd q = .ef) : ∀ {p : Nat}, q < p → p ≤ ops.size → (g.ix, (S q).bs) ∈ (S p).old
  | p + 1, h, hp => by
    by_cases e : q = p
    · subst e
      have := d.steps q g hg
      rw [hk] at this
      rw [this.2.2.2.1]
      exact List.mem_cons_self ..
    · have ih := d.old hg hk (p := p) (by omega) (by omega)
      obtain ⟨g', hg'⟩ := d.get (p := p) (by omega)
      have := d.steps p g' hg'
      unfold StepOk at this
      split at this
      · rw [this.1]; exact ih
      · rw [this.1]; exact ih
      · rw [this.2.2.2.1]; exact List.mem_cons_of_mem _ ih
omit [Val] in
/-- the first of the effects between two places -/
theorem first_ef (kd : Nat → Kd) (c : Nat) : ∀ p, c ≤ p → (∀ q, c ≤ q → q < p → kd q ≠ .ef) ∨ ∃ q, c ≤ q ∧ q < p ∧ kd q = .ef ∧ ∀ q', c ≤ q' → q' < q → kd q' ≠ .ef
  | 0, h => .inl fun q h1 h2 => by omega
  | p + 1, h => by
    by_cases e : c = p + 1
    · exact .inl fun q h1 h2 => by omega
    · rcases first_ef kd c p (by omega) with h1 | ⟨q, h1, h2, h3, h4⟩
      · by_cases hk : kd p = .ef
        · exact .inr ⟨p, by omega, by omega, hk, h1⟩
        · refine .inl fun q g1 g2 => ?_
          by_cases e2 : q = p
          · subst e2; exact hk
          · exact h1 q g1 (by omega)
      · exact .inr ⟨q, h1, by omega, h3, h4⟩

theorem Rep.mono {r : Ren} {h : Hf} {n n' : Nat} {w : World} (hr : Rep P r h n w) (hle : n ≤ n') : Rep P r h n' w :=
  ⟨fun b x hb => by
    have := hr.blk b x hb
    cases x with
    | dead => trivial
    | map0 => exact this
    | row e op len o cs => exact RowRep.mono hle this, hr.inj, fun b x hb => Nat.lt_of_lt_of_le (hr.lt b x hb) hle⟩
/-- The blocks stand as they did, the renaming is the same below. -/
theorem Rep.move {r r' : Ren} {h : Hf} {n n' : Nat} {w w' : World} (hr : Rep P r h n w) (hle : n ≤ n') (ha : Ag n r r') (hs : ∀ b x, h b = some x → x.live → ∀ o, w.heap[r.blk b]? = some o → ∃ o', w'.heap[r.blk b]? = some o' ∧ SameB o o') : Rep P r' h n' w' := by
  refine ⟨fun b x hb => ?_, fun b b' x x' h1 h2 l1 l2 he => ?_, fun b x hb => Nat.lt_of_lt_of_le (hr.lt b x hb) hle⟩
  · by_cases hd : x = .dead
    · subst hd; trivial
    · have hold := hr.blk b x hb
      obtain ⟨o, ho⟩ := BlkRep.there hd hold
      obtain ⟨o', ho', hs'⟩ := hs b x hb hd o ho
      exact BlkRep.move (hr.lt b x hb) hle ha ho ho' hs' hold
  · rw [(ha b (hr.lt b x h1)).1, (ha b' (hr.lt b' x' h2)).1] at he
    exact hr.inj b b' x x' h1 h2 l1 l2 he

variable (lg S) in
/-- the same renaming but for blocks that are made by operations that have not come up -/
def AgD (D : Nat → Bool) (r r' : Ren) : Prop := ∀ b, (∀ (p : Nat) (g : Og), lg[p]? = some g → D g.ix = false → ¬ ((S p).n ≤ b ∧ b < (S (p + 1)).n)) → r'.blk b = r.blk b ∧ r'.cap b = r.cap b

omit [Val] in
theorem AgD.refl {D : Nat → Bool} {r : Ren} : AgD lg S D r r := fun _ _ => ⟨rfl, rfl⟩

variable (P ops lg v S kd h0 n0) in
/-- what holds when the operations D have come up: the effects among them are those ahead of place 'c' -/
structure Inv (r0 : Ren) (a0 : Act) (w0 : World) (D : Nat → Bool) (a : Act) (w : World) (r : Ren) (c : Nat) : Prop where
  cm : c ≤ ops.size
  pre : ∀ (p : Nat) (g : Og), p < c → lg[p]? = some g → D g.ix = true
  post : ∀ (p : Nat) (g : Og), c ≤ p → lg[p]? = some g → D g.ix = true → kd p ≠ .ef
  clo : ∀ (p : Nat) (g : Og), lg[p]? = some g → D g.ix = true → ∀ j, g.anc.testBit j = true → D j = true
  top : (S c).bs = (S c).h
  tsz : a.tmps.size = a0.tmps.size
  dfr : a.defers = a0.defers
  vals : ∀ (p : Nat) (g : Og), lg[p]? = some g → D g.ix = true → ∀ r', AgD lg S D r r' → wf (S (p + 1)).n r' (v p) ∧ ∀ t, g.o.dst = some t → a.tmps[t]? = some (ren r' (v p))
  slots : ∀ t, (∀ (p : Nat) (g : Og), lg[p]? = some g → D g.ix = true → g.o.dst ≠ some t) → a.tmps[t]? = a0.tmps[t]?
  ag : ∀ b, (b < n0 ∨ (S ops.size).n ≤ b) → r.blk b = r0.blk b ∧ r.cap b = r0.cap b
  base : Rep P r (S c).h.at (S c).n w
  pend : ∀ (p : Nat) (g : Og) (x : Blk), c ≤ p → lg[p]? = some g → D g.ix = true → kd p = .al x → w0.heap.size ≤ r.blk (S p).n ∧ (∀ b y, (S c).h.at b = some y → y.live → r.blk b ≠ r.blk (S p).n) ∧
    (∀ (p' : Nat) (g' : Og) (x' : Blk), c ≤ p' → lg[p']? = some g' → D g'.ix = true → kd p' = .al x' → r.blk (S p').n = r.blk (S p).n → p' = p) ∧ ∀ r', AgD lg S D r r' → BlkRep P r' (S (p + 1)).n (S p).n x w
  size : w0.heap.size ≤ w.heap.size
  unch : ∀ k o, w0.heap[k]? = some o → (∀ b x, h0.at b = some x → x.live → r0.blk b ≠ k) → ∃ o', w.heap[k]? = some o' ∧ SameB o o'
  img : ∀ b x, (S c).h.at b = some x → x.live → w0.heap.size ≤ r.blk b ∨ ∃ b0 x0, h0.at b0 = some x0 ∧ x0.live ∧ r0.blk b0 = r.blk b
  out : Out w0 w
  all : ∀ (p : Nat) (g : Og), lg[p]? = some g → D g.ix = true → ∀ b, (S p).n ≤ b → b < (S (p + 1)).n → w0.heap.size ≤ r.blk b ∨ ∃ b0, b0 < n0 ∧ r0.blk b0 = r.blk b
  old : ∀ k, k < w0.heap.size → (∀ b, b < n0 → r0.blk b ≠ k) → w.heap[k]? = w0.heap[k]?

section
variable {r0 : Ren} {a0 : Act} {w0 : World} {D : Nat → Bool} {a : Act} {w : World} {r : Ren} {c : Nat}

omit [Val] in
/-- blocks below those that are still to be made -/
theorem AgD.below {r' : Ren} {n : Nat} (ha : AgD lg S D r r') (h : ∀ (p : Nat) (g : Og), lg[p]? = some g → D g.ix = false → n ≤ (S p).n) : Ag n r r' := fun b hb => ha b fun p g hg hd hh => by
  have := h p g hg hd
  omega
theorem Inv.below (d : Drn P ty live ops lg f0 v S kd h0 n0) (I : Inv P ops lg v S kd h0 n0 r0 a0 w0 D a w r c) : ∀ (p : Nat) (g : Og), lg[p]? = some g → D g.ix = false → (S c).n ≤ (S p).n := fun p g hg hd => by
  have hp : p < ops.size := by rw [← d.len]; exact (List.getElem?_eq_some_iff.1 hg).1
  refine d.mono ?_ (by omega)
  rcases Nat.lt_or_ge p c with h | h
  · rw [I.pre p g h hg] at hd; cases hd
  · exact h

/-- what an operation may look at is there -/
theorem Inv.env (d : Drn P ty live ops lg f0 v S kd h0 n0) (I : Inv P ops lg v S kd h0 n0 r0 a0 w0 D a w r c) (hs0 : EnvS live f0 n0 r0 a0) {p : Nat} {g : Og} (hg : lg[p]? = some g) (hD : D g.ix = false) (hanc : ∀ j, g.anc.testBit j = true → D j = true) {r' : Ren} (ha : AgD lg S D r r') :
    EnvP live lg f0 v g.ix g.anc p (S p).n r' a := by
  have hp : p < ops.size := by rw [← d.len]; exact (List.getElem?_eq_some_iff.1 hg).1
  refine ⟨fun q g' t hq hg' hb hd => ?_, fun t i u htd hi hu => ?_⟩
  · obtain ⟨h1, h2⟩ := I.vals q g' hg' (hanc _ hb) r' ha
    exact ⟨h1.mono (d.mono (by omega) (by omega)) (fun _ _ => ⟨rfl, rfl⟩), h2 t hd⟩
  · obtain ⟨h1, h2⟩ := hs0 t i u hi hu
    have hag : Ag n0 r0 r' := fun b hb => by
      have e1 := I.ag b (.inl hb)
      have e2 := ha b (fun q g' hg' hd hh => by
        have : (S 0).n ≤ (S q).n := d.mono (Nat.zero_le _) (by rw [← d.len]; exact Nat.le_of_lt (List.getElem?_eq_some_iff.1 hg').1)
        rw [d.st0] at this
        simp only at this
        omega)
      exact ⟨e2.1.trans e1.1, e2.2.trans e1.2⟩
    have hn : n0 ≤ (S p).n := by
      have : (S 0).n ≤ (S p).n := d.mono (Nat.zero_le _) (by omega)
      rw [d.st0] at this
      exact this
    refine ⟨h1.mono hn hag, ?_⟩
    rw [I.slots t (fun q g' hg' hd he => by
      rw [I.clo q g' hg' hd g.ix (htd q g' hg' he)] at hD
      cases hD), h2, ren_ag hag h1]

/-- every number of a block was made by one of the operations -/
theorem Drn.range (d : Drn P ty live ops lg f0 v S kd h0 n0) {b : Nat} : ∀ {m : Nat}, m ≤ ops.size → n0 ≤ b → b < (S m).n → ∃ p g, p < m ∧ lg[p]? = some g ∧ (S p).n ≤ b ∧ b < (S (p + 1)).n
  | 0, _, h1, h2 => by rw [d.st0] at h2; simp only at h2; omega
  | m + 1, hm, h1, h2 => by
    rcases Nat.lt_or_ge b (S m).n with h3 | h3
    · obtain ⟨p, g, g1, g2⟩ := d.range (m := m) (by omega) h1 h3
      exact ⟨p, g, by omega, g2⟩
    · obtain ⟨g, hg⟩ := d.get (p := m) (by omega)
      exact ⟨m, g, by omega, hg, h3, h2⟩

/-- the heap at a place ahead of which there is no further effect, and all has come up -/
theorem Inv.asm (d : Drn P ty live ops lg f0 v S kd h0 n0) (I : Inv P ops lg v S kd h0 n0 r0 a0 w0 D a w r c) {p : Nat} (hcp : c ≤ p) (hp : p ≤ ops.size) (hno : ∀ q, c ≤ q → q < p → kd q ≠ .ef) (hd : ∀ (q : Nat) (g : Og), q < p → lg[q]? = some g → D g.ix = true) :
    Rep P r (S p).h.at (S p).n w ∧ (∀ b x, (S p).h.at b = some x → x.live → w0.heap.size ≤ r.blk b ∨ ∃ b0 x0, h0.at b0 = some x0 ∧ x0.live ∧ r0.blk b0 = r.blk b) ∧
    ∀ (q : Nat) (g : Og) (x : Blk), p ≤ q → lg[q]? = some g → D g.ix = true → kd q = .al x → ∀ b y, (S p).h.at b = some y → y.live → r.blk b ≠ r.blk (S q).n := by
  obtain ⟨_, _, hall⟩ := d.seg hcp hp hno
  have hle := d.mono hcp hp
  have hal : ∀ q x, c ≤ q → q < p → kd q = .al x → ∃ g, lg[q]? = some g ∧ D g.ix = true := fun q x h1 h2 hk => by
    obtain ⟨g, hg⟩ := d.get (p := q) (by omega)
    exact ⟨g, hg, hd q g h2 hg⟩
  refine ⟨⟨fun b x hb => ?_, fun b1 b2 x1 x2 h1 h2 l1 l2 he => ?_, fun b x hb => ((d.sz hp) b).1 (by rw [hb]; rfl)⟩, fun b x hb hl => ?_, fun q g x hpq hg hdq hk b y hb hl => ?_⟩
  · rcases hall b x hb with hb | ⟨q, h1, h2, h3, h4⟩
    · exact (I.base.mono hle).blk b x hb
    · obtain ⟨g, hg, hdq⟩ := hal q x h1 h2 h3
      have := (I.pend q g x h1 hg hdq h3).2.2.2 r AgD.refl
      rw [h4] at this
      have hle2 : (S (q + 1)).n ≤ (S p).n := d.mono (by omega) hp
      cases x with
      | dead => trivial
      | map0 => exact this
      | row e op len o cs => exact RowRep.mono hle2 this
  · rcases hall b1 x1 h1 with g1 | ⟨q1, a1, a2, a3, a4⟩
    · rcases hall b2 x2 h2 with g2 | ⟨q2, c1, c2, c3, c4⟩
      · exact I.base.inj b1 b2 x1 x2 g1 g2 l1 l2 he
      · obtain ⟨g, hg, hdq⟩ := hal q2 x2 c1 c2 c3
        rw [← c4] at he
        exact absurd he ((I.pend q2 g x2 c1 hg hdq c3).2.1 b1 x1 g1 l1)
    · obtain ⟨ga, hga, hda⟩ := hal q1 x1 a1 a2 a3
      rcases hall b2 x2 h2 with g2 | ⟨q2, c1, c2, c3, c4⟩
      · rw [← a4] at he
        exact absurd he.symm ((I.pend q1 ga x1 a1 hga hda a3).2.1 b2 x2 g2 l2)
      · obtain ⟨g, hg, hdq⟩ := hal q2 x2 c1 c2 c3
        rw [← a4, ← c4] at he
        have := (I.pend q2 g x2 c1 hg hdq c3).2.2.1 q1 ga x1 a1 hga hda a3 he
        rw [← a4, ← c4, this]
  · rcases hall b x hb with hb | ⟨q, h1, h2, h3, h4⟩
    · exact I.img b x hb hl
    · obtain ⟨g, hg, hdq⟩ := hal q x h1 h2 h3
      rw [← h4]
      exact .inl (I.pend q g x h1 hg hdq h3).1
  · rcases hall b y hb with hb | ⟨q', h1, h2, h3, h4⟩
    · exact (I.pend q g x (by omega) hg hdq hk).2.1 b y hb hl
    · obtain ⟨g', hg', hdq'⟩ := hal q' y h1 h2 h3
      intro he
      rw [← h4] at he
      have := (I.pend q g x (by omega) hg hdq hk).2.2.1 q' g' y h1 hg' hdq' h3 he
      omega
end
end
end Go.Proofs.YtccbdaffjkdpgaaGreatDoor.Vw
namespace Go.Proofs.YtccbdaffjkdpgaaGreatDoor.Vw
variable [Val]

section
variable {P : Program} {ty : Ty} {live : List Nat} {ops : Array Oper} {lg : List Og} {f0 : Fr} {v : Nat → Value} {S : Nat → St} {kd : Nat → Kd} {h0 : H} {n0 : Nat}
variable {r0 : Ren} {a0 : Act} {w0 : World} {D : Nat → Bool} {a : Act} {w : World} {r : Ren} {c : Nat}

/-- one more -/
def more (D : Nat → Bool) (i : Nat) : Nat → Bool := fun j => if j = i then true else D j
omit [Val] in
theorem more_of {i j : Nat} (h : D j = true) : more D i j = true := by unfold more; split <;> first | rfl | exact h
omit [Val] in
theorem more_ne {i j : Nat} (h : more D i j = true) (hn : j ≠ i) : D j = true := by unfold more at h; rw [if_neg hn] at h; exact h
omit [Val] in
theorem more_no {i j : Nat} (h : more D i j = false) : j ≠ i ∧ D j = false := by
  unfold more at h
  by_cases e : j = i
  · rw [if_pos e] at h; cases h
  · rw [if_neg e] at h; exact ⟨e, h⟩
omit [Val] in
theorem AgD.more_v {r' : Ren} {i : Nat} (ha : AgD lg S (more D i) r r') : AgD lg S D r r' := fun b hb => ha b fun p g hg hd => hb p g hg (more_no hd).2

/-- Everything but the heap, behind one more operation. -/
theorem Inv.step_v (d : Drn P ty live ops lg f0 v S kd h0 n0) (I : Inv P ops lg v S kd h0 n0 r0 a0 w0 D a w r c) (hs0 : EnvS live f0 n0 r0 a0) (hdst : ∀ (q : Nat) (g : Og) (t : Nat), lg[q]? = some g → g.o.dst = some t → t < a0.tmps.size) {p : Nat} {g : Og} (hg : lg[p]? = some g) (hD : D g.ix = false) (hanc : ∀ j, g.anc.testBit j = true → D j = true)
    {Q : Exit → Act → World → Prop} {K : Act → World → Prop} (hK : ∀ a' w' r' c', Inv P ops lg v S kd h0 n0 r0 a0 w0 (more D g.ix) a' w' r' c' → K a' w') : OpW P ops g.o a w K Q := by
  have hp : p < ops.size := by rw [← d.len]; exact (List.getElem?_eq_some_iff.1 hg).1
  have hpc : c ≤ p := by
    rcases Nat.lt_or_ge p c with h | h
    · rw [I.pre p g h hg] at hD; cases hD
    · exact h
  have hdt : ∀ t, g.o.dst = some t → t < a.tmps.size := fun t ht => by rw [I.tsz]; exact hdst p g t hg ht
  have hix : ∀ (q : Nat) (g' : Og), lg[q]? = some g' → q ≠ p → g'.ix ≠ g.ix := fun q g' hg' hn e => hn (d.nodup q g' p g hg' hg e)
  have hclo : ∀ (q : Nat) (g' : Og), lg[q]? = some g' → more D g.ix g'.ix = true → ∀ j, g'.anc.testBit j = true → more D g.ix j = true := fun q g' hg' hm j hj => by
    by_cases e : q = p
    · subst e; rw [hg] at hg'; cases hg'; exact more_of (hanc j hj)
    · exact more_of (I.clo q g' hg' (more_ne hm (hix q g' hg' e)) j hj)
  have hput : ∀ (u : Value) (q : Nat) (g' : Og) (t : Nat), lg[q]? = some g' → q ≠ p → g'.o.dst = some t → (a.put g.o.dst u).tmps[t]? = a.tmps[t]? := fun u q g' t hg' hn ht => by
    rw [put_tmps, if_neg (fun hh => hn (d.dst q g' p g t hg' hg ht hh.1))]
  have hslots : ∀ (u : Value) t, (∀ (p : Nat) (g' : Og), lg[p]? = some g' → more D g.ix g'.ix = true → g'.o.dst ≠ some t) → (a.put g.o.dst u).tmps[t]? = a0.tmps[t]? := fun u t ht => by
    rw [put_tmps, if_neg (fun hh => ht p g hg (if_pos rfl) hh.1)]
    exact I.slots t (fun q g' hg' hd => ht q g' hg' (more_of hd))
  have hstep := d.steps p g hg
  have hbelow := I.below d
  cases hk : kd p with
  | v =>
    rw [hk] at hstep
    obtain ⟨hS, hval⟩ := hstep
    have hadm : (S c).h = (S p).bs ∨ ∃ ix, (ix, (S c).h) ∈ (S p).old ∧ g.anc.testBit ix = false := by
      rcases first_ef kd c p hpc with h1 | ⟨q, h1, h2, h3, h4⟩
      · left; rw [(d.seg hpc (by omega) h1).1, I.top]
      · right
        obtain ⟨gq, hgq⟩ := d.get (p := q) (by omega)
        refine ⟨gq.ix, ?_, ?_⟩
        · have := d.old hgq h3 (p := p) h2 (by omega)
          rw [(d.seg h1 (by omega) h4).1, I.top] at this
          exact this
        · cases hb : g.anc.testBit gq.ix with
          | false => rfl
          | true => exact absurd h3 (I.post q gq h1 hgq (hanc _ hb))
    have fact : ∀ r', AgD lg S D r r' → wf (S p).n r' (v p) ∧ ∃ w' : World, Still (S p).n r' w w' ∧ OpV P ops g.o a w (ren r' (v p)) w' := fun r' ha => by
      refine hval (S c).h hadm r' (S p).n a w (I.env d hs0 hg hD hanc ha) ?_
      exact I.base.move (d.mono hpc (by omega)) (ha.below hbelow) (fun b x _ _ o ho => ⟨o, ho, .inl rfl⟩)
    obtain ⟨hw, w', e1, e3⟩ := fact r AgD.refl
    refine e3.wp (hK _ w' r c ?_)
    refine ⟨I.cm, fun q g' h1 h2 => more_of (I.pre q g' h1 h2), fun q g' h1 h2 h3 => ?_, hclo, I.top, by rw [put_size, I.tsz], by rw [put_defers, I.dfr], fun q g' hg' hm r' ha => ?_, hslots _, I.ag, ?_, fun q g' x h1 h2 h3 h4 => ?_, by rw [e1.size]; exact I.size, fun k o ho hno => ?_, I.img, I.out.trans e1.out, fun q g' hg' hm b h1 h2 => ?_, fun k hk hno => ?_⟩
    · by_cases e : q = p
      · subst e; rw [hk]; exact fun h => by cases h
      · exact I.post q g' h1 h2 (more_ne h3 (hix q g' h2 e))
    · by_cases e : q = p
      · subst e
        rw [hg] at hg'
        cases hg'
        obtain ⟨f1, w'', _, f2⟩ := fact r' ha.more_v
        obtain ⟨f3, _⟩ := e3.same f2
        rw [hS]
        refine ⟨f1, fun t ht => ?_⟩
        rw [put_tmps, if_pos ⟨ht, hdt t ht⟩, f3]
      · obtain ⟨f1, f2⟩ := I.vals q g' hg' (more_ne hm (hix q g' hg' e)) r' ha.more_v
        exact ⟨f1, fun t ht => by rw [hput _ q g' t hg' e ht]; exact f2 t ht⟩
    · exact I.base.move (Nat.le_refl _) (fun _ _ => ⟨rfl, rfl⟩) (fun b x _ _ o ho => e1.same _ o ho)
    · have hq : q ≠ p := fun e => by subst e; rw [hk] at h4; cases h4
      obtain ⟨f1, f2, f3, f4⟩ := I.pend q g' x h1 h2 (more_ne h3 (hix q g' h2 hq)) h4
      refine ⟨f1, f2, fun p' g'' x' i1 i2 i3 i4 i5 => ?_, fun r' ha => ?_⟩
      · have hq' : p' ≠ p := fun e => by subst e; rw [hk] at i4; cases i4
        exact f3 p' g'' x' i1 i2 (more_ne i3 (hix p' g'' i2 hq')) i4 i5
      · have hb := f4 r' ha.more_v
        by_cases hd : x = .dead
        · subst hd; trivial
        · obtain ⟨o, ho⟩ := BlkRep.there hd hb
          obtain ⟨o', ho', hs'⟩ := e1.same _ o ho
          have hlt : (S q).n < (S (q + 1)).n := by
            have := d.steps q g' h2
            rw [h4] at this
            rw [this.1]
            exact Nat.lt_succ_self _
          exact BlkRep.move hlt (Nat.le_refl _) (fun _ _ => ⟨rfl, rfl⟩) ho ho' hs' hb
    · obtain ⟨o1, g1, g2⟩ := I.unch k o ho hno
      obtain ⟨o2, g3, g4⟩ := e1.same k o1 g1
      exact ⟨o2, g3, g2.trans g4⟩
    · by_cases e : q = p
      · subst e; rw [hS] at h2; omega
      · exact I.all q g' hg' (more_ne hm (hix q g' hg' e)) b h1 h2
    · -- the blocks of what has not come up may lie anywhere
      classical
      have hlt := Nat.lt_of_lt_of_le hk I.size
      rw [← I.old k hk hno]
      let r1 : Ren := ⟨fun b => if ∃ (q : Nat) (g' : Og), lg[q]? = some g' ∧ D g'.ix = false ∧ (S q).n ≤ b ∧ b < (S (q + 1)).n then w.heap.size else r.blk b, r.cap⟩
      have ha1 : AgD lg S D r r1 := fun b hb => ⟨if_neg (fun ⟨q, g', hg', hd, hh⟩ => hb q g' hg' hd hh), rfl⟩
      obtain ⟨_, w'', f1, f2⟩ := fact r1 ha1
      obtain ⟨_, f3⟩ := e3.same f2
      rw [← f3]
      refine f1.old k hlt (fun b hb he => ?_)
      by_cases hu : ∃ (q : Nat) (g' : Og), lg[q]? = some g' ∧ D g'.ix = false ∧ (S q).n ≤ b ∧ b < (S (q + 1)).n
      · have : r1.blk b = w.heap.size := if_pos hu
        omega
      · have h3 : r1.blk b = r.blk b := if_neg hu
        rw [h3] at he
        rcases Nat.lt_or_ge b n0 with h4 | h4
        · exact hno b h4 ((I.ag b (.inl h4)).1.symm.trans he)
        · obtain ⟨q, g', h5, h6, h7⟩ := d.range (m := p) (by omega) h4 hb
          cases hd : D g'.ix with
          | false => exact hu ⟨q, g', h6, hd, h7⟩
          | true =>
            rcases I.all q g' h6 hd b h7.1 h7.2 with h8 | ⟨b0, h8, h9⟩
            · omega
            · exact hno b0 h8 (h9.trans he)
  | al x =>
    rw [hk] at hstep
    obtain ⟨hS, hlive, hal⟩ := hstep
    have hSn : (S (p + 1)).n = (S p).n + 1 := by rw [hS]
    have fact : ∀ r', AgD lg S D r r' → ∃ (obj : Obj) (w' : World), Out w w' ∧ w'.heap = w.heap.push obj ∧ BlkRep P (r'.set (S p).n w.heap.size 0) ((S p).n + 1) (S p).n x w' ∧ wf ((S p).n + 1) (r'.set (S p).n w.heap.size 0) (v p) ∧ OpV P ops g.o a w (ren (r'.set (S p).n w.heap.size 0) (v p)) w' :=
      fun r' ha => hal r' a w (I.env d hs0 hg hD hanc ha)
    obtain ⟨obj, w', e0, e1, e2, e3, e4⟩ := fact r AgD.refl
    have hsame : ∀ (k : Nat) (o : Obj), w.heap[k]? = some o → ∃ o', w'.heap[k]? = some o' ∧ SameB o o' := fun k o ho => ⟨o, by
      have hlt := (Array.getElem?_eq_some_iff.1 ho).1
      rw [e1, Array.getElem?_push_lt hlt, ← Array.getElem?_eq_getElem hlt, ho], .inl rfl⟩
    -- the ranges of two operations have nothing in common
    have hapart : ∀ (q : Nat) (g' : Og), lg[q]? = some g' → q ≠ p → ¬ ((S q).n ≤ (S p).n ∧ (S p).n < (S (q + 1)).n) := fun q g' hg' hq hh => by
      have hq1 : q < ops.size := by rw [← d.len]; exact (List.getElem?_eq_some_iff.1 hg').1
      rcases Nat.lt_or_ge q p with h1 | h1
      · have := d.mono (p := q + 1) (q := p) (by omega) (by omega); omega
      · have := d.mono (p := p + 1) (q := q) (by omega) (by omega); omega
    have hal1 : ∀ r', AgD lg S (more D g.ix) (r.set (S p).n w.heap.size 0) r' → AgD lg S D r r' ∧ r'.set (S p).n w.heap.size 0 = r' := fun r' ha => by
      constructor
      · intro b hb
        have hne : b ≠ (S p).n := fun e => hb p g hg hD ⟨by omega, by omega⟩
        have := ha b (fun q g' hg' hd => hb q g' hg' (more_no hd).2)
        rw [(Ren.set_ne r hne).1, (Ren.set_ne r hne).2] at this
        exact this
      · have := ha (S p).n (fun q g' hg' hd hh => hapart q g' hg' (fun e => by subst e; rw [hg] at hg'; cases hg'; exact (more_no hd).1 rfl) hh)
        rw [Ren.set_blk, Ren.set_cap] at this
        obtain ⟨rb, rc⟩ := r'
        simp only at this
        unfold Ren.set
        congr 1
        · funext i
          simp only
          split
          · rename_i h; rw [h, this.1]
          · rfl
        · funext i
          simp only
          split
          · rename_i h; rw [h, this.2]
          · rfl
    have hlow : ∀ b, b < (S c).n → b ≠ (S p).n := fun b hb e => by
      have := d.mono hpc (by omega)
      omega
    have hag : Ag (S c).n r (r.set (S p).n w.heap.size 0) := fun b hb => Ren.set_ne r (hlow b hb)
    have hblt : ∀ b y, (S c).h.at b = some y → b < (S c).n := fun b y hb => I.base.lt b y hb
    have hin : ∀ b y, (S c).h.at b = some y → y.live → r.blk b < w.heap.size := fun b y hb hl => by
      obtain ⟨o, ho⟩ := BlkRep.there hl (I.base.blk b y hb)
      exact (Array.getElem?_eq_some_iff.1 ho).1
    have hpn : ∀ (q : Nat) (g' : Og) (x' : Blk), lg[q]? = some g' → q ≠ p → kd q = .al x' → (S q).n ≠ (S p).n := fun q g' x' hg' hq hkq e => by
      have hst := d.steps q g' hg'
      rw [hkq] at hst
      have : (S (q + 1)).n = (S q).n + 1 := by rw [hst.1]
      exact hapart q g' hg' hq ⟨by omega, by omega⟩
    have hlq : ∀ (q : Nat) (g' : Og) (x' : Blk), lg[q]? = some g' → kd q = .al x' → x'.live ∧ (S q).n < (S (q + 1)).n := fun q g' x' hg' hkq => by
      have hst := d.steps q g' hg'
      rw [hkq] at hst
      exact ⟨hst.2.1, by rw [hst.1]; exact Nat.lt_succ_self _⟩
    have hpin : ∀ (q : Nat) (g' : Og) (x' : Blk), c ≤ q → lg[q]? = some g' → D g'.ix = true → kd q = .al x' → r.blk (S q).n < w.heap.size := fun q g' x' h1 h2 h3 h4 => by
      obtain ⟨o, ho⟩ := BlkRep.there (hlq q g' x' h2 h4).1 ((I.pend q g' x' h1 h2 h3 h4).2.2.2 r AgD.refl)
      exact (Array.getElem?_eq_some_iff.1 ho).1
    refine e4.wp (hK _ w' (r.set (S p).n w.heap.size 0) c ?_)
    refine ⟨I.cm, fun q g' h1 h2 => more_of (I.pre q g' h1 h2), fun q g' h1 h2 h3 => ?_, hclo, I.top, by rw [put_size, I.tsz], by rw [put_defers, I.dfr], fun q g' hg' hm r' ha => ?_, hslots _, fun b hb => ?_, ?_, fun q g' x' h1 h2 h3 h4 => ?_, by rw [e1]; have := I.size; simp; omega, fun k o ho hno => ?_, fun b y hb hl => ?_, I.out.trans e0, fun q g' hg' hm b h1 h2 => ?_, fun k hk hno => ?_⟩
    · by_cases e : q = p
      · subst e; rw [hk]; exact fun h => by cases h
      · exact I.post q g' h1 h2 (more_ne h3 (hix q g' h2 e))
    · obtain ⟨ha1, ha2⟩ := hal1 r' ha
      by_cases e : q = p
      · subst e
        rw [hg] at hg'
        cases hg'
        obtain ⟨obj', w'', _, f1, f2, f3, f4⟩ := fact r' ha1
        rw [ha2] at f2 f3 f4
        obtain ⟨f5, _⟩ := e4.same f4
        rw [hSn]
        refine ⟨f3, fun t ht => ?_⟩
        rw [put_tmps, if_pos ⟨ht, hdt t ht⟩, f5]
      · obtain ⟨f1, f2⟩ := I.vals q g' hg' (more_ne hm (hix q g' hg' e)) r' ha1
        exact ⟨f1, fun t ht => by rw [hput _ q g' t hg' e ht]; exact f2 t ht⟩
    · have hne : b ≠ (S p).n := fun e => by
        have h1 : (S 0).n ≤ (S p).n := d.mono (Nat.zero_le _) (by omega)
        have h2 : (S (p + 1)).n ≤ (S ops.size).n := d.mono (by omega) (Nat.le_refl _)
        rw [d.st0] at h1
        simp only at h1
        omega
      rw [(Ren.set_ne r hne).1, (Ren.set_ne r hne).2]
      exact I.ag b hb
    · exact I.base.move (Nat.le_refl _) hag (fun b y _ _ o ho => hsame _ o ho)
    · by_cases e : q = p
      · subst e
        rw [hg] at h2
        cases h2
        rw [hk] at h4
        cases h4
        rw [Ren.set_blk]
        refine ⟨I.size, fun b y hb hl => ?_, fun p' g'' x'' i1 i2 i3 i4 i5 => ?_, fun r' ha => ?_⟩
        · rw [(Ren.set_ne r (hlow b (hblt b y hb))).1]
          have := hin b y hb hl
          omega
        · by_cases e' : p' = q
          · exact e'
          · rw [(Ren.set_ne r (hpn p' g'' x'' i2 e' i4)).1] at i5
            have := hpin p' g'' x'' i1 i2 (more_ne i3 (hix p' g'' i2 e')) i4
            omega
        · obtain ⟨ha1, ha2⟩ := hal1 r' ha
          obtain ⟨obj', w'', _, f1, f2, f3, f4⟩ := fact r' ha1
          rw [ha2] at f2 f4
          obtain ⟨_, f5⟩ := e4.same f4
          rw [hSn, ← f5]
          exact f2
      · have hD' := more_ne h3 (hix q g' h2 e)
        obtain ⟨f1, f2, f3, f4⟩ := I.pend q g' x' h1 h2 hD' h4
        rw [(Ren.set_ne r (hpn q g' x' h2 e h4)).1]
        refine ⟨f1, fun b y hb hl => ?_, fun p' g'' x'' i1 i2 i3 i4 i5 => ?_, fun r' ha => ?_⟩
        · rw [(Ren.set_ne r (hlow b (hblt b y hb))).1]
          exact f2 b y hb hl
        · by_cases e' : p' = p
          · subst e'
            rw [Ren.set_blk] at i5
            have := hpin q g' x' h1 h2 hD' h4
            omega
          · rw [(Ren.set_ne r (hpn p' g'' x'' i2 e' i4)).1] at i5
            exact f3 p' g'' x'' i1 i2 (more_ne i3 (hix p' g'' i2 e')) i4 i5
        · obtain ⟨ha1, _⟩ := hal1 r' ha
          have hb := f4 r' ha1
          obtain ⟨hl, hlt⟩ := hlq q g' x' h2 h4
          obtain ⟨o, ho⟩ := BlkRep.there hl hb
          obtain ⟨o', ho', hs'⟩ := hsame _ o ho
          exact BlkRep.move hlt (Nat.le_refl _) (fun _ _ => ⟨rfl, rfl⟩) ho ho' hs' hb
    · obtain ⟨o1, g1, g2⟩ := I.unch k o ho hno
      obtain ⟨o2, g3, g4⟩ := hsame k o1 g1
      exact ⟨o2, g3, g2.trans g4⟩
    · rw [(Ren.set_ne r (hlow b (hblt b y hb))).1]
      exact I.img b y hb hl
    · by_cases e : q = p
      · subst e
        rw [show b = (S q).n by omega, Ren.set_blk]
        exact .inl I.size
      · have hne : b ≠ (S p).n := fun eb => hapart q g' hg' e ⟨by omega, by omega⟩
        rw [(Ren.set_ne r hne).1]
        exact I.all q g' hg' (more_ne hm (hix q g' hg' e)) b h1 h2
    · have hlt := Nat.lt_of_lt_of_le hk I.size
      rw [e1, Array.getElem?_push_lt hlt, ← Array.getElem?_eq_getElem hlt]
      exact I.old k hk hno
  | ef =>
    rw [hk] at hstep
    obtain ⟨hE, hnn, hsz, hS, hef⟩ := hstep
    have hdone : ∀ (q : Nat) (g' : Og), q < p → lg[q]? = some g' → D g'.ix = true := fun q g' hq hg' => hanc _ (d.eff p g hg hE q g' hq hg')
    have hno : ∀ q, c ≤ q → q < p → kd q ≠ .ef := fun q h1 h2 => by
      obtain ⟨gq, hgq⟩ := d.get (p := q) (by omega)
      exact I.post q gq h1 hgq (hdone q gq h2 hgq)
    obtain ⟨hrep, himg, hap⟩ := I.asm d hpc (Nat.le_of_lt hp) hno hdone
    refine hef r a w (I.env d hs0 hg hD hanc AgD.refl) hrep K Q fun r1 w1 hw1 hev => hK _ w1 r1 (p + 1) ?_
    have hal1 : ∀ r', AgD lg S (more D g.ix) r1 r' → AgD lg S D r r' := fun r' ha b hb => by
      have h1 := hb p g hg hD
      have h2 := hev.ag b (by omega)
      have h3 := ha b (fun q g' hg' hd => hb q g' hg' (more_no hd).2)
      exact ⟨h3.1.trans h2.1, h3.2.trans h2.2⟩
    have hgt : ∀ (q : Nat) (g' : Og), lg[q]? = some g' → more D g.ix g'.ix = false → (S (p + 1)).n ≤ (S q).n := fun q g' hg' hd => by
      have hq1 : q < ops.size := by rw [← d.len]; exact (List.getElem?_eq_some_iff.1 hg').1
      refine d.mono ?_ (by omega)
      rcases Nat.lt_or_ge q (p + 1) with h | h
      · by_cases e : q = p
        · subst e; rw [hg] at hg'; cases hg'; exact absurd rfl (more_no hd).1
        · have := (more_no hd).2; rw [hdone q g' (by omega) hg'] at this; cases this
      · exact h
    have hlq : ∀ (q : Nat) (g' : Og) (x' : Blk), lg[q]? = some g' → kd q = .al x' → x'.live ∧ (S q).n < (S (q + 1)).n := fun q g' x' hg' hkq => by
      have hst := d.steps q g' hg'
      rw [hkq] at hst
      exact ⟨hst.2.1, by rw [hst.1]; exact Nat.lt_succ_self _⟩
    have hfar : ∀ q, p + 1 ≤ q → q < ops.size → r1.blk (S q).n = r.blk (S q).n := fun q h1 h2 => (hev.ag _ (.inr (d.mono h1 (by omega)))).1
    refine ⟨by omega, fun q g' h1 h2 => ?_, fun q g' h1 h2 h3 => ?_, hclo, by rw [hS], by rw [put_size, I.tsz], by rw [put_defers, I.dfr], fun q g' hg' hm r' ha => ?_, hslots _, fun b hb => ?_, hev.rep, fun q g' x' h1 h2 h3 h4 => ?_, Nat.le_trans I.size hev.size, fun k o ho hno' => ?_, fun b y hb hl => ?_, I.out.trans hev.out, fun q g' hg' hm b h1 h2 => ?_, fun k hk hno' => ?_⟩
    · by_cases e : q = p
      · subst e; rw [hg] at h2; cases h2; unfold more; rw [if_pos rfl]
      · exact more_of (hdone q g' (by omega) h2)
    · exact I.post q g' (by omega) h2 (more_ne h3 (hix q g' h2 (by omega)))
    · by_cases e : q = p
      · subst e
        rw [hg] at hg'
        cases hg'
        have hag : Ag (S (q + 1)).n r1 r' := ha.below hgt
        exact ⟨hw1.mono (Nat.le_refl _) hag, fun t ht => by rw [put_tmps, if_pos ⟨ht, hdt t ht⟩, ren_ag hag hw1]⟩
      · obtain ⟨f1, f2⟩ := I.vals q g' hg' (more_ne hm (hix q g' hg' e)) r' (hal1 r' ha)
        exact ⟨f1, fun t ht => by rw [hput _ q g' t hg' e ht]; exact f2 t ht⟩
    · have h1 : (S 0).n ≤ (S p).n := d.mono (Nat.zero_le _) (by omega)
      have h2 : (S (p + 1)).n ≤ (S ops.size).n := d.mono (by omega) (Nat.le_refl _)
      rw [d.st0] at h1
      simp only at h1
      have h3 := hev.ag b (by omega)
      have h4 := I.ag b hb
      exact ⟨h3.1.trans h4.1, h3.2.trans h4.2⟩
    · have hq1 : q < ops.size := by rw [← d.len]; exact (List.getElem?_eq_some_iff.1 h2).1
      have hD' := more_ne h3 (hix q g' h2 (by omega))
      obtain ⟨f1, f2, f3, f4⟩ := I.pend q g' x' (by omega) h2 hD' h4
      have hold := f4 r AgD.refl
      obtain ⟨hl, hlt⟩ := hlq q g' x' h2 h4
      obtain ⟨o, ho⟩ := BlkRep.there hl hold
      have hoin := (Array.getElem?_eq_some_iff.1 ho).1
      have hapq := hap q g' x' (by omega) h2 hD' h4
      rw [hfar q h1 hq1]
      refine ⟨f1, fun b y hb hlb he => ?_, fun p' g'' x'' i1 i2 i3 i4 i5 => ?_, fun r' ha => ?_⟩
      · rcases hev.img b y hb hlb with h5 | ⟨b0, y0, h5, h6, h7⟩
        · omega
        · exact hapq b0 y0 h5 h6 (h7.trans he)
      · have hp1 : p' < ops.size := by rw [← d.len]; exact (List.getElem?_eq_some_iff.1 i2).1
        rw [hfar p' i1 hp1] at i5
        exact f3 p' g'' x'' (by omega) i2 (more_ne i3 (hix p' g'' i2 (by omega))) i4 i5
      · have hb := f4 r' (hal1 r' ha)
        have he : r'.blk (S q).n = r.blk (S q).n := by
          have := (hal1 r' ha (S q).n (fun p' g'' hg'' hd hh => ?_)).1
          · exact this
          · have hp1 : p' < ops.size := by rw [← d.len]; exact (List.getElem?_eq_some_iff.1 hg'').1
            have hne : p' ≠ q := fun e => by subst e; rw [h2] at hg''; cases hg''; rw [hD'] at hd; cases hd
            rcases Nat.lt_or_ge p' q with h5 | h5
            · have := d.mono (p := p' + 1) (q := q) (by omega) (by omega); omega
            · have := d.mono (p := q + 1) (q := p') (by omega) (by omega); omega
        obtain ⟨o', ho', hs'⟩ := hev.unch _ o ho (fun b y hb hlb => hapq b y hb hlb)
        exact BlkRep.move hlt (Nat.le_refl _) (fun _ _ => ⟨rfl, rfl⟩) (by rw [he]; exact ho) (by rw [he]; exact ho') hs' hb
    · obtain ⟨o1, g1, g2⟩ := I.unch k o ho hno'
      have hk0 : k < w0.heap.size := (Array.getElem?_eq_some_iff.1 ho).1
      obtain ⟨o2, g3, g4⟩ := hev.unch k o1 g1 (fun b y hb hl he => by
        rcases himg b y hb hl with h5 | ⟨b0, y0, h5, h6, h7⟩
        · omega
        · exact hno' b0 y0 h5 h6 (h7.trans he))
      exact ⟨o2, g3, g2.trans g4⟩
    · rcases hev.img b y hb hl with h5 | ⟨b0, y0, h5, h6, h7⟩
      · exact .inl (Nat.le_trans I.size h5)
      · rw [← h7]
        exact himg b0 y0 h5 h6
    · have below : ∀ b0, b0 < (S p).n → w0.heap.size ≤ r.blk b0 ∨ ∃ b1, b1 < n0 ∧ r0.blk b1 = r.blk b0 := fun b0 hb0 => by
        rcases Nat.lt_or_ge b0 n0 with h4 | h4
        · exact .inr ⟨b0, h4, (I.ag b0 (.inl h4)).1.symm⟩
        · obtain ⟨q', g'', h5, h6, h7⟩ := d.range (m := p) (by omega) h4 hb0
          exact I.all q' g'' h6 (hdone q' g'' h5 h6) b0 h7.1 h7.2
      by_cases e : q = p
      · subst e
        rcases hev.all b h1 h2 with h3 | ⟨b0, h3, h4⟩
        · exact .inl (Nat.le_trans I.size h3)
        · rw [← h4]; exact below b0 h3
      · have hq1 : q < ops.size := by rw [← d.len]; exact (List.getElem?_eq_some_iff.1 hg').1
        have hr1 : r1.blk b = r.blk b := (hev.ag b (by
          rcases Nat.lt_or_ge q p with h5 | h5
          · have := d.mono (p := q + 1) (q := p) (by omega) (by omega); omega
          · have := d.mono (p := p + 1) (q := q) (by omega) (by omega); omega)).1
        rw [hr1]
        exact I.all q g' hg' (more_ne hm (hix q g' hg' e)) b h1 h2
    · have hlt := Nat.lt_of_lt_of_le hk I.size
      rw [← I.old k hk hno']
      refine hev.old k hlt (fun b hb he => ?_)
      rcases Nat.lt_or_ge b n0 with h4 | h4
      · exact hno' b h4 ((I.ag b (.inl h4)).1.symm.trans he)
      · obtain ⟨q, g', h5, h6, h7⟩ := d.range (m := p) (by omega) h4 hb
        rcases I.all q g' h6 (hdone q g' h5 h6) b h7.1 h7.2 with h8 | ⟨b0, h8, h9⟩
        · omega
        · exact hno' b0 h8 (h9.trans he)
end
end Go.Proofs.YtccbdaffjkdpgaaGreatDoor.Vw
