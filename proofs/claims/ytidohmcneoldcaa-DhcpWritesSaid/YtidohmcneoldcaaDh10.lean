/-
  Contract of dhcp.Put.
-/
import Derived.Test.YtidohmcneoldcaaDh9
namespace Go.Proofs.Ytidohmcneoldcaa
open Go.RowKit

theorem within_yes (w : World) (v m : Int) (h : 0 ≤ v ∧ v ≤ m) : Calls Try.prog 46 #[.int .i64 v, .int .i64 m] w (fun e w' => e = .returned (.bool true) ∧ w = w') := by
  have h1 := within_any w v m
  rw [decide_eq_true h] at h1
  exact h1
theorem within_no (w : World) (v m : Int) (h : ¬ (0 ≤ v ∧ v ≤ m)) : Calls Try.prog 46 #[.int .i64 v, .int .i64 m] w (fun e w' => e = .returned (.bool false) ∧ w = w') := by
  have h1 := within_any w v m
  rw [decide_eq_false h] at h1
  exact h1
abbrev a16C (cl yo se re : Ad4) : Array Value := #[.int .u8 (cl.a.toNat : Int), .int .u8 (cl.b.toNat : Int), .int .u8 (cl.c.toNat : Int), .int .u8 (cl.d.toNat : Int),
  .int .u8 (yo.a.toNat : Int), .int .u8 (yo.b.toNat : Int), .int .u8 (yo.c.toNat : Int), .int .u8 (yo.d.toNat : Int),
  .int .u8 (se.a.toNat : Int), .int .u8 (se.b.toNat : Int), .int .u8 (se.c.toNat : Int), .int .u8 (se.d.toNat : Int),
  .int .u8 (re.a.toNat : Int), .int .u8 (re.b.toNat : Int), .int .u8 (re.c.toNat : Int), .int .u8 (re.d.toNat : Int)]
/-- At the head of the loop over the addresses. -/
def PutLoop (w0 v : World) (bk : Nat) (cs : Array Value) (L0 : List UInt8) (ads : List Ad4) (vb i : Value) (wr : World) : Prop :=
  ∃ (j : Nat) (A : Option Addr) (n c : Nat), vb = .slice A n c ∧ i = .int .i64 (j : Nat) ∧ j ≤ 4 ∧ WS w0 v wr A n c (L0 ++ ((ads.take j).map Ad4.bytes).flatten) ∧ wr.heap[bk]? = some (.cells cs 39 (0, 0))
theorem PutLoop.next {w0 v wr w' : World} {bk : Nat} {cs : Array Value} {L0 L : List UInt8} {ads : List Ad4} {Ab : Option Addr} {nb cb : Nat} {A' : Option Addr} {n' c' : Nat} {o : Obj} {i vb : Value} (j : Fin 4) (x : Ad4) (hx : ads[j.1]? = some x)
    (hi : i = .int .i64 ((j.1 + 1 : Nat) : Int)) (hvb : vb = .slice A' n' c') (hL : L0 ++ ((ads.take j.1).map Ad4.bytes).flatten = L) (s : WS w0 v wr Ab nb cb L) (hb : wr.heap[bk]? = some (.cells cs 39 (0, 0)))
    (ho : OB w' v.heap.size A' n' c' (L ++ x.bytes)) (h1 : Below v.heap.size (wr.alloc o) w') (hg : (wr.alloc o).grownBy w' (Value.slice Ab nb cb).ownBlock) : PutLoop w0 v bk cs L0 ads vb i w' := by
  refine ⟨j.1 + 1, A', n', c', hvb, hi, by have := j.2; omega, ⟨?_, (s.alloc o).q.trans h1⟩, ?_⟩
  · rw [List.take_add_one, hx]
    simp only [Option.toList_some, List.map_append, List.map_cons, List.map_nil, List.flatten_append, List.flatten_cons, List.flatten_nil, List.append_nil]
    rw [← List.append_assoc, hL]
    exact ho
  · have hb' := heap_alloc_of (o := o) hb
    exact (hg.block bk (heap_lt hb') (fun e => ((s.O.apart hb (by decide)) bk e.symm).2 rfl)).trans hb'
theorem WS.below {w0 v w w' : World} {A : Option Addr} {n c : Nat} {l : List UInt8} (s : WS w0 v w A n c l) (hb : Below w.heap.size w w') : WS w0 v w' A n c l := ⟨s.O.below hb, s.q.trans (hb.mono s.q.size)⟩

set_option maxRecDepth 100000 in
set_option maxHeartbeats 4000000 in
theorem dput_any (w : World) (h : Hd) (A : Option Addr) (n c : Nat) (l : List Op1) (ho : OS w w.heap.size A n c l) (hl : l.length ≤ 1099511627776) (hB : ∀ o ∈ l, o.body.length ≤ 1099511627776) (hx0 : 0 ≤ h.xid) (hx1 : h.xid < 4294967296) :
    Calls Try.prog 26 #[msV h A n c] w (BytesErrPost w (putM h (obs l))) := by
  obtain ⟨r, hr⟩ : ∃ r, putM h (obs l) = r := ⟨_, rfl⟩
  rw [hr]
  have HR := Lib.hid hr
  clear hr
  obtain ⟨P, hP⟩ : ∃ P : Prop, (okHd h ∧ typeO (obs l) ≠ 0) = P := ⟨_, rfl⟩
  have HP := Lib.hid hP
  clear hP
  have HBo := Lib.hid hB
  clear hB
  have b0 : Below w.heap.size w (w.alloc (.cells (msC h A n c) 56)) := (Below.refl _ w).alloc (Nat.le_refl _) _
  have os1 := (ho.below b0).more b0.size
  have PX : (w.alloc (.cells (msC h A n c) 56)).heap[w.heap.size]? = some (.cells (msC h A n c) 56 (0, 0)) := heap_alloc_new w _
  clear ho
  obtain ⟨op, hops, xid, secs, flags, cl, yo, se, re, mac⟩ := h
  dsimp only at hx0 hx1
  go_enter Try.func26, Try.ntmps26
  go_upto_region 1 with fail
  generalize w.alloc (.cells (msC ⟨op, hops, xid, secs, flags, cl, yo, se, re, mac⟩ A n c) 56) = w1 at b0 os1 PX ⊢
  obtain ⟨g, hg⟩ : ∃ g, w.heap.size = g := ⟨_, rfl⟩
  rw [hg] at PX ⊢
  have HG := Lib.hid hg
  clear hg
  have HPX := Lib.hid PX
  clear PX
  go_cut [39] (fun v wx => TestCut w1 P v wx)
  case first =>
    have PX := HPX.out
    obtain ⟨hc, _⟩ := cells_of PX
    have d0 : w1.cell? ⟨g, 0, none⟩ = some (.int .i64 op) := hc 0
    have d1 : w1.cell? ⟨g, 1, none⟩ = some (.int .i64 hops) := hc 1
    have d3 : w1.cell? ⟨g, 3, none⟩ = some (.int .i64 secs) := hc 3
    have d4 : w1.cell? ⟨g, 4, none⟩ = some (.int .i64 flags) := hc 4
    clear hc PX
    by_cases h0 : op = 1 ∨ op = 2
    · have d0' := d0
      rcases h0 with h0 | h0
      all_goals
        have HO := Lib.hid h0
        rw [h0] at d0
        clear h0 d0'
        by_cases a1 : 0 ≤ hops ∧ hops ≤ 255
        · go_wp2_with fail
          refine (within_yes _ _ _ a1).mono ?_
          rintro e wx ⟨rfl, rfl⟩
          by_cases a2 : 0 ≤ secs ∧ secs ≤ 65535
          · go_wp2_with fail
            refine (within_yes _ _ _ a2).mono ?_
            rintro e wx ⟨rfl, rfl⟩
            by_cases a3 : 0 ≤ flags ∧ flags ≤ 65535
            · go_wp2_with fail
              refine (within_yes _ _ _ a3).mono ?_
              rintro e wx ⟨rfl, rfl⟩
              have HA := Lib.hid (show okHd ⟨op, hops, xid, secs, flags, cl, yo, se, re, mac⟩ from ⟨by have := HO.out; dsimp only; omega, a1.1, a1.2, a2.1, a2.2, a3.1, a3.2⟩)
              go_wp2_with ((with_reducible apply at_load_guard 56); (case hx => exact rfl); (case hg => exact HPX.out); (case hw => first | rfl | kernel_rfl); (case hu => exact Try.underlying56); (case hd => rfl); (case hi => kernel_rfl))
              refine (type_any w1 _ A n c l os1 HBo.out).mono ?_
              rintro e wx ⟨rfl, hb⟩
              go_wp2_with fail
              go_meet
              refine ⟨_, rfl, ?_, hb⟩
              rw [← HP.out]
              simp [HA.out]
            · go_wp2_with fail
              refine (within_no _ _ _ a3).mono ?_
              rintro e wx ⟨rfl, rfl⟩
              go_wp2_with fail
              go_meet
              exact TestCut.bad (by rw [← HP.out]; intro hh; have h1 := hh.1.2.2.2.2.2; dsimp only at h1; omega)
          · go_wp2_with fail
            refine (within_no _ _ _ a2).mono ?_
            rintro e wx ⟨rfl, rfl⟩
            go_wp2_with fail
            go_meet
            exact TestCut.bad (by rw [← HP.out]; intro hh; have h1 := hh.1.2.2.2; dsimp only at h1; omega)
        · go_wp2_with fail
          refine (within_no _ _ _ a1).mono ?_
          rintro e wx ⟨rfl, rfl⟩
          go_wp2_with fail
          go_meet
          exact TestCut.bad (by rw [← HP.out]; intro hh; have h1 := hh.1.2; dsimp only at h1; omega)
    · have t1 : (op != 1) = true := by rw [bne_iff_ne]; omega
      have t2 : (op != 2) = true := by rw [bne_iff_ne]; omega
      go_wp2_with fail
      go_meet
      exact TestCut.bad (by rw [← HP.out]; intro hh; have h1 := hh.1.1; dsimp only at h1; omega)
  case rest =>
    obtain ⟨b, rfl, hb, q1⟩ := hcut
    have HPW := Lib.hid (below_at q1 HPX.out (heap_lt HPX.out))
    have HB := Lib.hid hb
    have HQ1 := Lib.hid q1
    have gl := heap_lt HPX.out
    clear hb
    obtain ⟨hc, _⟩ := cells_of HPW.out
    have d27 : wc.cell? ⟨g, 27, none⟩ = some (.slice A n c) := hc 27
    clear hc
    have qw : Below w.heap.size w wc := b0.trans (q1.mono b0.size)
    rcases b with _ | _
    · have hok : okHd ⟨op, hops, xid, secs, flags, cl, yo, se, re, mac⟩ ∧ typeO (obs l) ≠ 0 := by
        have h1 := HB.out
        rw [← HP.out] at h1
        exact Classical.byContradiction fun hh => by have := h1.2 hh; cases this
      have HOK := Lib.hid hok
      clear hok
      go_wp2_with fail
      refine (oput_any wc A n c l ((os1.below q1).more q1.size) hl HBo.out).mono ?_
      rintro e w3 ⟨A3, n3, c3, rfl, ho3, hb3⟩
      have hr := HR.out
      rw [putM, if_pos HOK.out] at hr
      obtain ⟨o, hoo⟩ : ∃ o, (putO (obs l)).1 = o := ⟨_, rfl⟩
      obtain ⟨er, her⟩ : ∃ er, (putO (obs l)).2 = er := ⟨_, rfl⟩
      rw [hoo] at ho3 hr
      rw [her] at hr ⊢
      have HOO := Lib.hid hoo
      clear hoo her
      have q3 := qw.trans (hb3.mono qw.size)
      by_cases he : er = 0
      · subst he
        rw [if_pos rfl] at hr
        have HR' := Lib.hid hr
        clear HR hr d27
        have P3 := below_at hb3 HPW.out (heap_lt HPW.out)
        have HP3 := Lib.hid P3
        have g3 := heap_lt P3
        obtain ⟨hc, _⟩ := cells_of P3
        have d0 : w3.cell? ⟨g, 0, none⟩ = some (.int .i64 op) := hc 0
        have d1 : w3.cell? ⟨g, 1, none⟩ = some (.int .i64 hops) := hc 1
        have d2 : w3.cell? ⟨g, 2, none⟩ = some (.int .u32 xid) := hc 2
        have k0 := HOK.out.1.1
        have k1 := HOK.out.1.2.1
        have k2 := HOK.out.1.2.2.1
        dsimp only at k0 k1 k2
        have k0' : 0 ≤ op ∧ op ≤ 255 := by omega
        clear hc P3 k0
        have u0 : IntKind.u8.wrap op = ((bN op).toNat : Int) := by rw [bN_val, IntKind.wrap_u8]
        have u1 : IntKind.u8.wrap hops = ((bN hops).toNat : Int) := by rw [bN_val, IntKind.wrap_u8]
        go_wp2_with fail
        refine (w32_post _ (some ⟨w3.heap.size, 0, none⟩) 4 4 [bN op, 1, 6, bN hops] xid (BS.block [bN op, 1, 6, bN hops] (heap_alloc_new w3 _) (by simp [bv, bN_val, Int.emod_eq_of_lt k0'.1 (show op < 256 by omega), Int.emod_eq_of_lt k1 (show hops < 256 by omega)]) (by simp [maxLen])) (by simp) hx0 hx1).mono ?_
        rintro e w4 ⟨A4, n4, c4, rfl, ho4, hb4⟩
        have s4 : WS w w3 w4 A4 n4 c4 _ := WS.own ((Below.refl _ w3).alloc (Nat.le_refl _) _) ho4 hb4
        clear ho4 hb4 d0 d1 d2 u0 u1
        obtain ⟨hc, _⟩ := cells_of (below_at s4.q HP3.out g3)
        have d3 : w4.cell? ⟨g, 3, none⟩ = some (.int .i64 secs) := hc 3
        have d4 : w4.cell? ⟨g, 4, none⟩ = some (.int .i64 flags) := hc 4
        have e3 := Ext.cell (w := w4.drew) (M := fun k => w3.heap.size ≤ k) d3 (by omega)
        have e4 := Ext.cell (w := w4.drew) (M := fun k => w3.heap.size ≤ k) d4 (by omega)
        clear hc d3 d4
        have sd := s4.drew
        go_wp2_with fail
        refine rg_begin (fun k => w3.heap.size ≤ k) (by kernel_rfl) ?_
        refine rg_take (v := ?_) 0 rfl (by kernel_rfl) (by kernel_rfl) (by kernel_rfl) (fun _ _ _ h => h) (by rfl) ?_ ?_; rotate_left
        · (intro x hx; go_simp; first | done | with_reducible rfl | (rw [if_pos (by omega)]; try with_reducible rfl) | (rw [if_neg (by omega)]; try with_reducible rfl))
        try simp only [Act.put, List.setIfInBounds_toArray, List.set_cons_zero, List.set_cons_succ]
        refine rg_take (v := ?_) 1 rfl (by kernel_rfl) (by kernel_rfl) (by kernel_rfl) (fun _ _ _ h => h) (by rfl) ?_ ?_; rotate_left
        · (intro x hx; go_simp; first | done | with_reducible rfl | (rw [if_pos (by omega)]; try with_reducible rfl) | (rw [if_neg (by omega)]; try with_reducible rfl))
        try simp only [Act.put, List.setIfInBounds_toArray, List.set_cons_zero, List.set_cons_succ]
        refine rg_take (v := ?_) 2 rfl (by kernel_rfl) (by kernel_rfl) (by kernel_rfl) (fun _ _ _ h => h) (by rfl) ?_ ?_; rotate_left
        · (intro x hx; go_simp; first | done | with_reducible rfl | (rw [if_pos (by omega)]; try with_reducible rfl) | (rw [if_neg (by omega)]; try with_reducible rfl))
        try simp only [Act.put, List.setIfInBounds_toArray, List.set_cons_zero, List.set_cons_succ]
        refine rg_take (v := ?_) 4 rfl (by kernel_rfl) (by kernel_rfl) (by kernel_rfl) (fun _ _ _ h => h) (by rfl) ?_ ?_; rotate_left
        · (intro x hx; go_simp; first | done | with_reducible rfl | (rw [if_pos (by omega)]; try with_reducible rfl) | (rw [if_neg (by omega)]; try with_reducible rfl))
        try simp only [Act.put, List.setIfInBounds_toArray, List.set_cons_zero, List.set_cons_succ]
        refine rg_take (v := ?_) 5 rfl (by kernel_rfl) (by kernel_rfl) (by kernel_rfl) (fun _ _ _ h => h) (by rfl) ?_ ?_; rotate_left
        · (intro x hx; go_simp; first | done | with_reducible rfl | (rw [if_pos (by omega)]; try with_reducible rfl) | (rw [if_neg (by omega)]; try with_reducible rfl))
        try simp only [Act.put, List.setIfInBounds_toArray, List.set_cons_zero, List.set_cons_succ]
        refine rg_step 3 rfl (by kernel_rfl) (by rfl) (fun K hK => ?_)
        go_simp
        refine (w16_post _ A4 n4 c4 _ secs sd.bs (by simp [b32])).mono ?_
        rintro e w5 ⟨A5, n5, c5, rfl, ho5, hb5⟩
        have s5 : WS w w3 w5 A5 n5 c5 _ := WS.own sd.q ho5 hb5
        refine hK.out _ _ (Ext.below_all _ hb5) ?_
        clear hK K; try simp only [Act.put, List.setIfInBounds_toArray, List.set_cons_zero, List.set_cons_succ]
        refine rg_step 6 rfl (by kernel_rfl) (by rfl) (fun K hK => ?_)
        go_simp
        refine (w16_post _ A5 n5 c5 _ flags s5.bs (by simp [b32, b16])).mono ?_
        rintro e w6 ⟨A6, n6, c6, rfl, ho6, hb6⟩
        have s6 : WS w w3 w6 A6 n6 c6 _ := WS.own s5.q ho6 hb6
        refine hK.out _ _ (Ext.below_all _ hb6) ?_
        clear hK K; try simp only [Act.put, List.setIfInBounds_toArray, List.set_cons_zero, List.set_cons_succ]
        refine rg_take (v := ?_) 7 rfl (by kernel_rfl) (by kernel_rfl) (by kernel_rfl) (fun _ _ _ h => h) (by rfl) ?_ ?_; rotate_left
        · (intro x hx; go_simp; first | done | with_reducible rfl | (rw [if_pos (by omega)]; try with_reducible rfl) | (rw [if_neg (by omega)]; try with_reducible rfl))
        try simp only [Act.put, List.setIfInBounds_toArray, List.set_cons_zero, List.set_cons_succ]
        refine rg_done (by kernel_rfl) ?_
        clear s4 sd s5 e3 e4 ho5 hb5 ho6 hb6
        obtain ⟨L6, hL6, s6⟩ := s6.name
        have HL6 := Lib.hid hL6
        have l6 : L6.length = 12 := by rw [← hL6]; simp [b32, b16]
        have K6 := Lib.hid l6
        clear hL6 l6
        have part : ∀ (wr : World), Below w3.heap.size w3 wr → ∀ (o : Nat) (lb : List UInt8), ((msC ⟨op, hops, xid, secs, flags, cl, yo, se, re, mac⟩ A n c).toList.drop o).take lb.length = bv lb → lb.length ≤ 6 → BS wr w3.heap.size (some ⟨g, o, none⟩) lb.length lb.length lb := fun wr hq o lb h1 h2 =>
          (BS.part lb lb.length (below_at hq HP3.out g3) h1 (Nat.le_refl _) (by unfold maxLen; omega)).more g3
        have HPT := Lib.hid part
        clear part
        have d5 := below_at s6.q HP3.out g3
        obtain ⟨hc, _⟩ := cells_of d5
        clear d5
        go_wp2_with fail
        have s7 := s6.alloc (.cells (a16C cl yo se re) 39)
        have PB := heap_alloc_new w6 (.cells (a16C cl yo se re) 39)
        generalize w6.alloc (.cells (a16C cl yo se re) 39) = w7 at s7 PB ⊢
        obtain ⟨bk, hbk⟩ : ∃ bk, w6.heap.size = bk := ⟨_, rfl⟩
        rw [hbk] at PB ⊢
        clear hbk hc s6
        go_loopw [6, 76] (fun v i wr => PutLoop w w3 bk (a16C cl yo se re) L6 [cl, yo, se, re] v i wr) (fun _ i _ => 4 - (intOf i).toNat)
        case atStart => exact ⟨0, A6, n6, c6, rfl, rfl, Nat.zero_le _, by simpa using s7, PB⟩
        case round =>
          obtain ⟨j, Ab, nb, cb, rfl, rfl, hj, srj, PBr⟩ := hrel
          obtain ⟨hc, _⟩ := cells_of PBr
          have HPB := Lib.hid PBr
          have gb := heap_lt PBr
          obtain ⟨L, hL, sr⟩ := srj.name
          clear srj
          have HL := Lib.hid hL
          have hLl : L.length ≤ 28 := by
            rw [← hL, List.length_append, K6.out]
            have : ∀ (l : List Ad4), ((l.map Ad4.bytes).flatten).length = 4 * l.length := fun l => by
              induction l with
              | nil => rfl
              | cons a r ih => simp [Ad4.bytes, ih]; omega
            rw [this]
            simp
            omega
          clear hL PBr PB s7
          rcases (show j = 0 ∨ j = 1 ∨ j = 2 ∨ j = 3 ∨ j = 4 by omega) with rfl | rfl | rfl | rfl | rfl
          · go_wp2_with (at_builtin; go_must (refine app8 rfl _ _ rfl w3.heap.size _ _ _ _ rfl (sr.alloc _).O _ _ 4 4 cl.bytes rfl (BS.block cl.bytes (heap_alloc_new wr _) rfl (by simp [Ad4.bytes, maxLen])) (by simp [Ad4.bytes]; omega) (sr.alloc _).q.size ?_))
            intro A' n' c' w' ho' hb' hg'
            go_wp2_with fail
            go_roundw
            case rel => exact PutLoop.next ⟨0, by omega⟩ cl rfl rfl rfl HL.out sr HPB.out ho' hb' hg'
            case measure => simp [intOf]
          · go_wp2_with (at_builtin; go_must (refine app8 rfl _ _ rfl w3.heap.size _ _ _ _ rfl (sr.alloc _).O _ _ 4 4 yo.bytes rfl (BS.block yo.bytes (heap_alloc_new wr _) rfl (by simp [Ad4.bytes, maxLen])) (by simp [Ad4.bytes]; omega) (sr.alloc _).q.size ?_))
            intro A' n' c' w' ho' hb' hg'
            go_wp2_with fail
            go_roundw
            case rel => exact PutLoop.next ⟨1, by omega⟩ yo rfl rfl rfl HL.out sr HPB.out ho' hb' hg'
            case measure => simp [intOf]
          · go_wp2_with (at_builtin; go_must (refine app8 rfl _ _ rfl w3.heap.size _ _ _ _ rfl (sr.alloc _).O _ _ 4 4 se.bytes rfl (BS.block se.bytes (heap_alloc_new wr _) rfl (by simp [Ad4.bytes, maxLen])) (by simp [Ad4.bytes]; omega) (sr.alloc _).q.size ?_))
            intro A' n' c' w' ho' hb' hg'
            go_wp2_with fail
            go_roundw
            case rel => exact PutLoop.next ⟨2, by omega⟩ se rfl rfl rfl HL.out sr HPB.out ho' hb' hg'
            case measure => simp [intOf]
          · go_wp2_with (at_builtin; go_must (refine app8 rfl _ _ rfl w3.heap.size _ _ _ _ rfl (sr.alloc _).O _ _ 4 4 re.bytes rfl (BS.block re.bytes (heap_alloc_new wr _) rfl (by simp [Ad4.bytes, maxLen])) (by simp [Ad4.bytes]; omega) (sr.alloc _).q.size ?_))
            intro A' n' c' w' ho' hb' hg'
            go_wp2_with fail
            go_roundw
            case rel => exact PutLoop.next ⟨3, by omega⟩ re rfl rfl rfl HL.out sr HPB.out ho' hb' hg'
            case measure => simp [intOf]
          · have hL11 := HL.out
            have HL10 := Lib.hid (show ([bN op, 1, 6, bN hops] ++ b32 xid ++ b16 secs ++ b16 flags) ++ cl.bytes ++ yo.bytes ++ se.bytes ++ re.bytes = L by rw [← hL11, HL6.out]; simp)
            have K10 := Lib.hid (show L.length = 28 by rw [← hL11, List.length_append, K6.out]; simp [Ad4.bytes])
            clear hL11 hc gb HPB HL
            have z10 := sr.q.size
            go_wp2_with (at_builtin; go_must (refine app8 rfl _ _ rfl w3.heap.size _ _ _ _ rfl sr.O w3.heap.size _ 6 6 mac.bytes rfl (HPT.out _ sr.q 21 mac.bytes (by simp [bv, Mac6.bytes]) (by simp [Mac6.bytes])) (by rw [K10.out]; simp [Ad4.bytes, Mac6.bytes]) z10 ?_))
            intro A11 n11 c11 w11 ho11 hb11 _
            obtain ⟨L11, hL11, s11⟩ := WS.name (sr.app ho11 hb11)
            have HL11 := Lib.hid hL11
            have K11 := Lib.hid (show L11.length = 34 by rw [← hL11, List.length_append, K10.out]; simp [Mac6.bytes])
            clear sr ho11 hb11 z10 hL11
            have z11 := s11.q.size
            obtain ⟨Z, hZ⟩ : ∃ Z, List.replicate 202 (0 : UInt8) = Z := ⟨_, rfl⟩
            have HZ := Lib.hid hZ
            have KZ := Lib.hid (show Z.length = 202 by rw [← hZ, List.length_replicate])
            clear hZ
            go_wp2_with (at_builtin; go_must (refine appZ2 rfl _ _ rfl w3.heap.size _ _ _ _ rfl s11.O 202 Z HZ.out rfl (by rw [K11.out]; omega) z11 ?_))
            intro A12 n12 c12 w12 ho12 hb12 _
            obtain ⟨L12, hL12, s12⟩ := WS.name (s11.app ho12 hb12)
            have HL12 := Lib.hid hL12
            have K12 := Lib.hid (show L12.length = 236 by rw [← hL12, List.length_append, K11.out, KZ.out])
            clear s11 ho12 hb12 z11 hL12
            go_wp2_with fail
            refine (cookie_any w12).mono ?_
            rintro e w12a ⟨Ac, nc, cc, rfl, hoc, hbc⟩
            have s12a := s12.below hbc
            go_wp2_with (at_builtin; go_must (refine app8 rfl _ _ rfl w3.heap.size _ _ _ _ rfl s12a.O _ _ _ _ cook rfl hoc.bs (by rw [K12.out]; simp [cook]) s12a.q.size ?_))
            intro A13 n13 c13 w13 ho13 hb13 _
            obtain ⟨L13, hL13, s13⟩ := WS.name (s12a.app ho13 hb13)
            have HL13 := Lib.hid hL13
            have K13 := Lib.hid (show L13.length = 240 by rw [← hL13, List.length_append, K12.out]; rfl)
            have z13 := s13.q.size
            have hol : o.length ≤ 1200 := putO_len (obs l) o HOO.out
            clear s12 s12a ho13 hb13 hL13 hoc hbc
            go_wp2_with (at_builtin; go_must (refine app8 rfl _ _ rfl w3.heap.size _ _ _ _ rfl s13.O w3.heap.size _ _ _ o rfl (ho3.bs.below s13.q) (by rw [K13.out]; omega) z13 ?_))
            intro A14 n14 c14 w14 ho14 hb14 _
            obtain ⟨L14, hL14, s14⟩ := WS.name (s13.app ho14 hb14)
            have hK14 : L14.length = 240 + o.length := by rw [← hL14, List.length_append, K13.out]
            have HL14 := Lib.hid (show headM ⟨op, hops, xid, secs, flags, cl, yo, se, re, mac⟩ ++ o = L14 by
              rw [← hL14, ← HL13.out, ← HL12.out, ← HZ.out, ← HL11.out, ← HL10.out]
              rfl)
            have hl14 : L14.length ≤ 1440 := by omega
            have z14 := s14.q.size
            have hn14 : n14 = 240 + o.length := by
              have h1 := s14.O.1
              omega
            have qq : Below w.heap.size w w14 := q3.trans (s14.q.mono q3.size)
            have HN14 := Lib.hid hn14
            clear s13 z13 ho14 hb14 hL14 hK14 HL6 HL10 HL11 HL12 HL13 K6 K10 K11 K12 K13
            by_cases hsh : n14 < 300
            · obtain ⟨k, hk⟩ : ∃ k, 300 - n14 = k := ⟨_, rfl⟩
              have ek : (300 : Int) - (n14 : Int) = (k : Int) := by omega
              have hkl : k ≤ 300 := by omega
              have HK := Lib.hid hk
              clear hk hn14
              go_wp2_with (at_builtin; go_must (refine appZ rfl _ _ rfl w3.heap.size _ _ _ _ rfl s14.O k rfl (by omega) z14 ?_))
              intro A15 n15 c15 w15 ho15 hb15 _
              go_wp2_with fail
              go_ret2
              have hr := HR'.out
              have h1 : (headM ⟨op, hops, xid, secs, flags, cl, yo, se, re, mac⟩ ++ o).length + k = 300 := by
                rw [List.length_append, headM_length]
                have := HK.out
                have := HN14.out
                omega
              rw [padM_fill _ k h1, HL14.out] at hr
              rw [← hr]
              exact ⟨A15, n15, c15, rfl, ho15.lower q3.size, qq.trans (hb15.mono q3.size)⟩
            · have hn300 : 300 ≤ n14 := by omega
              have hnb : n14 ≤ 1440 := by omega
              clear hn14 hsh
              obtain ⟨Z0, hZ0⟩ : ∃ Z, List.replicate 0 (0 : UInt8) = Z := ⟨_, rfl⟩
              have HZ0 := Lib.hid hZ0
              clear hZ0
              have h1 : 300 ≤ (headM ⟨op, hops, xid, secs, flags, cl, yo, se, re, mac⟩ ++ o).length := by
                rw [List.length_append, headM_length]
                have := HN14.out
                omega
              have hr := HR'.out
              rw [padM_long _ h1, HL14.out] at hr
              have HR2 := Lib.hid hr
              clear h1 hr HN14
              by_cases h300 : n14 = 300
              · have e300 : (300 : Int) - (n14 : Int) = 0 := by omega
                clear h300
                go_wp2_with (at_builtin; go_must (refine appZ2 rfl _ _ rfl w3.heap.size _ _ _ _ rfl s14.O 0 Z0 HZ0.out rfl (by omega) z14 ?_))
                intro A15 n15 c15 w15 ho15 hb15 _
                go_wp2_with fail
                go_ret2
                rw [← HZ0.out, List.replicate_zero, List.append_nil] at ho15
                rw [← HR2.out]
                exact ⟨A15, n15, c15, rfl, ho15.lower q3.size, qq.trans (hb15.mono q3.size)⟩
              · have hlt300 : (300 : Int) - (n14 : Int) < 0 := by omega
                clear h300
                go_wp2_with (at_builtin; go_must (refine appZ2 rfl _ _ rfl w3.heap.size _ _ _ _ rfl s14.O 0 Z0 HZ0.out rfl (by omega) z14 ?_))
                intro A15 n15 c15 w15 ho15 hb15 _
                go_wp2_with fail
                go_ret2
                rw [← HZ0.out, List.replicate_zero, List.append_nil] at ho15
                rw [← HR2.out]
                exact ⟨A15, n15, c15, rfl, ho15.lower q3.size, qq.trans (hb15.mono q3.size)⟩
      · rw [if_neg he] at hr
        have HR' := Lib.hid hr
        clear HR hr d27
        have hen : (er != 0) = true := by rw [bne_iff_ne]; exact he
        go_wp2_with fail
        go_ret2
        rw [← HR'.out]
        exact ⟨none, 0, 0, rfl, OB.nil_ _ _, q3⟩
    · have hok : ¬ (okHd ⟨op, hops, xid, secs, flags, cl, yo, se, re, mac⟩ ∧ typeO (obs l) ≠ 0) := by
        rw [HP.out]; exact HB.out.1 rfl
      have hr := HR.out
      rw [putM, if_neg hok] at hr
      have HR' := Lib.hid hr
      clear hok hr HR d27
      go_wp2_with fail
      go_ret2
      rw [← HR'.out]
      exact ⟨none, 0, 0, rfl, OB.nil_ _ _, qw⟩
end Go.Proofs.Ytidohmcneoldcaa
