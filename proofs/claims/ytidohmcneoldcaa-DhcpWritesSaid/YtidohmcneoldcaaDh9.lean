/-
  Contract of the reference's Put.
-/
import Derived.Test.YtidohmcneoldcaaDh6
import Derived.Test.YtidohmcneoldcaaRegion2
namespace Go.Proofs.Ytidohmcneoldcaa
open Go.RowKit

theorem padM_long (l : List UInt8) (h : 300 ≤ l.length) : padM l = l := by rw [padM, show 300 - l.length = 0 by omega]; simp
theorem padM_fill (l : List UInt8) (k : Nat) (h : l.length + k = 300) : padM l = l ++ List.replicate k 0 := by rw [padM, show 300 - l.length = k by omega]

theorem putO_len (l : List Ob) (o : List UInt8) (h : (putO l).1 = o) : o.length ≤ 1200 := by
  rw [← h]
  unfold putO
  split
  · split
    · simp
    · simp
      omega
  · simp
theorem appZ2 {w : World} {ops : Array Oper} {rest : List Oper} {o : Oper} {a : Act} {Q : Exit → Act → World → Prop} (hgd : o.guard = none) (s x : Operand)
    (ho : o.op = .call { callee := .builtin .append, args := #[s, x], argTypes := #[24, 3] })
    (H : Nat) (A : Option Addr) (n c : Nat) (l : List UInt8) (hs : a.eval s = .slice A n c) (hown : OB w H A n c l)
    (k : Nat) (Z : List UInt8) (hZ : List.replicate k 0 = Z) (hx : a.eval x = .int .i64 (k : Int)) (hlen : l.length + k ≤ 140737488355328) (hbase : H ≤ w.heap.size)
    (h : ∀ A' n' c' w', OB w' H A' n' c' (l ++ Z) → Below H w w' → w.grownBy w' (Value.slice A n c).ownBlock → wpList Try.prog ops Q rest (a.put o.dst (.slice A' n' c')) w') : wpList Try.prog ops Q (o :: rest) a w := by
  subst hZ
  exact appZ hgd s x ho H A n c l hs hown k hx hlen hbase h
/-- Behind the tests: does the message fail them? -/
def TestCut (w1 : World) (P : Prop) (v : Value) (wx : World) : Prop := ∃ b : Bool, v = .bool b ∧ (b = true ↔ ¬ P) ∧ Below w1.heap.size w1 wx
theorem TestCut.bad {w1 : World} {P : Prop} (h : ¬ P) : TestCut w1 P (.bool true) w1 := ⟨true, rfl, iff_of_true rfl h, Below.refl _ _⟩

/-- How it stands while a message is written: v is the world behind the options, g the message's block. -/
structure WS (w0 v w : World) (A : Option Addr) (n c : Nat) (l : List UInt8) : Prop where
  O : OB w v.heap.size A n c l
  q : Below v.heap.size v w
theorem WS.own {w0 v w : World} {l : List UInt8} (hv : Below v.heap.size v w) {w' : World} {A' : Option Addr} {n' c' : Nat} (h : OB w' w.heap.size A' n' c' l) (hb : Below w.heap.size w w') : WS w0 v w' A' n' c' l :=
  ⟨h.lower hv.size, hv.trans (hb.mono hv.size)⟩
theorem WS.app {w0 v w w' : World} {A : Option Addr} {n c : Nat} {l : List UInt8} (s : WS w0 v w A n c l) {A' : Option Addr} {n' c' : Nat} {l' : List UInt8} (h : OB w' v.heap.size A' n' c' l') (hb : Below v.heap.size w w') : WS w0 v w' A' n' c' l' :=
  ⟨h, s.q.trans hb⟩
theorem WS.name {w0 v w : World} {A : Option Addr} {n c : Nat} {l : List UInt8} (s : WS w0 v w A n c l) : ∃ L, l = L ∧ WS w0 v w A n c L := ⟨l, rfl, s⟩
theorem WS.drew {w0 v w : World} {A : Option Addr} {n c : Nat} {l : List UInt8} (s : WS w0 v w A n c l) : WS w0 v w.drew A n c l := ⟨s.O.drew, s.q.drew⟩
theorem WS.bs {w0 v w : World} {A : Option Addr} {n c : Nat} {l : List UInt8} (s : WS w0 v w A n c l) : BS w w.heap.size A n c l := s.O.bs
theorem WS.alloc {w0 v w : World} {A : Option Addr} {n c : Nat} {l : List UInt8} (s : WS w0 v w A n c l) (o : Obj) : WS w0 v (w.alloc o) A n c l := ⟨s.O.alloc o, s.q.alloc s.q.size o⟩

set_option maxRecDepth 100000 in
set_option maxHeartbeats 4000000 in
theorem rputm_any (w : World) (h : Hd) (A : Option Addr) (n c : Nat) (l : List Op1) (ho : OS w w.heap.size A n c l) (hl : l.length ≤ 1099511627776) (hB : ∀ o ∈ l, o.body.length ≤ 1099511627776) (hx0 : 0 ≤ h.xid) (hx1 : h.xid < 4294967296) :
    Calls Try.prog 32 #[msV h A n c] w (BytesErrPost w (putM h (obs l))) := by
  obtain ⟨r, hr⟩ : ∃ r, putM h (obs l) = r := ⟨_, rfl⟩
  rw [hr]
  have HR := Lib.hid hr
  clear hr
  obtain ⟨P, hP⟩ : ∃ P : Prop, (okHd h ∧ typeO (obs l) ≠ 0) = P := ⟨_, rfl⟩
  have HP := Lib.hid hP
  clear hP
  have HBo := Lib.hid hB
  clear hB
  have b0 : Below w.heap.size w (w.alloc (.cells (msC h A n c) 62)) := (Below.refl _ w).alloc (Nat.le_refl _) _
  have os1 := (ho.below b0).more b0.size
  have PX : (w.alloc (.cells (msC h A n c) 62)).heap[w.heap.size]? = some (.cells (msC h A n c) 62 (0, 0)) := heap_alloc_new w _
  clear ho
  obtain ⟨op, hops, xid, secs, flags, cl, yo, se, re, mac⟩ := h
  dsimp only at hx0 hx1
  go_enter Try.func32, Try.ntmps32
  go_upto_region 1 with fail
  generalize w.alloc (.cells (msC ⟨op, hops, xid, secs, flags, cl, yo, se, re, mac⟩ A n c) 62) = w1 at b0 os1 PX ⊢
  obtain ⟨g, hg⟩ : ∃ g, w.heap.size = g := ⟨_, rfl⟩
  rw [hg] at PX ⊢
  have HG := Lib.hid hg
  clear hg
  have HPX := Lib.hid PX
  clear PX
  go_cut [49] (fun v wx => TestCut w1 P v wx)
  case first =>
    have PX := HPX.out
    obtain ⟨hc, _⟩ := cells_of PX
    have d0 : w1.cell? ⟨g, 0, none⟩ = some (.int .i64 op) := hc 0
    have d1 : w1.cell? ⟨g, 1, none⟩ = some (.int .i64 hops) := hc 1
    have d3 : w1.cell? ⟨g, 3, none⟩ = some (.int .i64 secs) := hc 3
    have d4 : w1.cell? ⟨g, 4, none⟩ = some (.int .i64 flags) := hc 4
    clear hc PX
    by_cases h0 : op = 1 ∨ op = 2
    · have d0' := d0
      rcases h0 with h0 | h0
      all_goals
        have HO := Lib.hid h0
        rw [h0] at d0
        clear h0 d0'
        by_cases a1 : 0 ≤ hops
        · have t1 : decide (hops < 0) = false := decide_eq_false (by omega)
          by_cases a2 : hops ≤ 255
          · have t2 : decide (255 < hops) = false := decide_eq_false (by omega)
            by_cases a3 : 0 ≤ secs
            · have t3 : decide (secs < 0) = false := decide_eq_false (by omega)
              by_cases a4 : secs ≤ 65535
              · have t4 : decide (65535 < secs) = false := decide_eq_false (by omega)
                by_cases a5 : 0 ≤ flags
                · have t5 : decide (flags < 0) = false := decide_eq_false (by omega)
                  by_cases a6 : flags ≤ 65535
                  · have t6 : decide (65535 < flags) = false := decide_eq_false (by omega)
                    have HA := Lib.hid (show okHd ⟨op, hops, xid, secs, flags, cl, yo, se, re, mac⟩ from ⟨by have := HO.out; dsimp only; omega, a1, a2, a3, a4, a5, a6⟩)
                    go_wp2_with ((with_reducible apply at_load_guard 62); (case hx => exact rfl); (case hg => exact HPX.out); (case hw => first | rfl | kernel_rfl); (case hu => exact Try.underlying62); (case hd => rfl); (case hi => kernel_rfl))
                    refine (rtype_any w1 _ A n c l os1).mono ?_
                    rintro e wx ⟨rfl, hb⟩
                    go_wp2_with fail
                    go_meet
                    refine ⟨_, rfl, ?_, hb⟩
                    rw [← HP.out]
                    simp [HA.out]
                  · have t6 : decide (65535 < flags) = true := decide_eq_true (by omega)
                    go_wp2_with fail
                    go_meet
                    exact TestCut.bad (by rw [← HP.out]; intro hh; have h1 := hh.1.2.2.2.2.2.2; dsimp only at h1; omega)
                · have t5 : decide (flags < 0) = true := decide_eq_true (by omega)
                  go_wp2_with fail
                  go_meet
                  exact TestCut.bad (by rw [← HP.out]; intro hh; have h1 := hh.1.2.2.2.2.2.1; dsimp only at h1; omega)
              · have t4 : decide (65535 < secs) = true := decide_eq_true (by omega)
                go_wp2_with fail
                go_meet
                exact TestCut.bad (by rw [← HP.out]; intro hh; have h1 := hh.1.2.2.2.2.1; dsimp only at h1; omega)
            · have t3 : decide (secs < 0) = true := decide_eq_true (by omega)
              go_wp2_with fail
              go_meet
              exact TestCut.bad (by rw [← HP.out]; intro hh; have h1 := hh.1.2.2.2.1; dsimp only at h1; omega)
          · have t2 : decide (255 < hops) = true := decide_eq_true (by omega)
            go_wp2_with fail
            go_meet
            exact TestCut.bad (by rw [← HP.out]; intro hh; have h1 := hh.1.2.2.1; dsimp only at h1; omega)
        · have t1 : decide (hops < 0) = true := decide_eq_true (by omega)
          go_wp2_with fail
          go_meet
          exact TestCut.bad (by rw [← HP.out]; intro hh; have h1 := hh.1.2.1; dsimp only at h1; omega)
    · have t1 : (op != 1) = true := by rw [bne_iff_ne]; omega
      have t2 : (op != 2) = true := by rw [bne_iff_ne]; omega
      go_wp2_with fail
      go_meet
      exact TestCut.bad (by rw [← HP.out]; exact fun hh => h0 hh.1.1)
  case rest =>
    obtain ⟨b, rfl, hb, q1⟩ := hcut
    have HPW := Lib.hid (below_at q1 HPX.out (heap_lt HPX.out))
    have HB := Lib.hid hb
    have HQ1 := Lib.hid q1
    have gl := heap_lt HPX.out
    clear hb
    obtain ⟨hc, _⟩ := cells_of HPW.out
    have d27 : wc.cell? ⟨g, 27, none⟩ = some (.slice A n c) := hc 27
    clear hc
    have qw : Below w.heap.size w wc := b0.trans (q1.mono b0.size)
    rcases b with _ | _
    · have hok : okHd ⟨op, hops, xid, secs, flags, cl, yo, se, re, mac⟩ ∧ typeO (obs l) ≠ 0 := by
        have h1 := HB.out
        rw [← HP.out] at h1
        exact Classical.byContradiction fun hh => by have := h1.2 hh; cases this
      have HOK := Lib.hid hok
      clear hok
      go_wp2_with fail
      refine (rput_any wc A n c l ((os1.below q1).more q1.size) hl HBo.out).mono ?_
      rintro e w3 ⟨A3, n3, c3, rfl, ho3, hb3⟩
      have hr := HR.out
      rw [putM, if_pos HOK.out] at hr
      obtain ⟨o, hoo⟩ : ∃ o, (putO (obs l)).1 = o := ⟨_, rfl⟩
      obtain ⟨er, her⟩ : ∃ er, (putO (obs l)).2 = er := ⟨_, rfl⟩
      rw [hoo] at ho3 hr
      rw [her] at hr ⊢
      have HOO := Lib.hid hoo
      clear hoo her
      have q3 := qw.trans (hb3.mono qw.size)
      by_cases he : er = 0
      · subst he
        rw [if_pos rfl] at hr
        have HR' := Lib.hid hr
        clear HR hr d27
        have P3 := below_at hb3 HPW.out (heap_lt HPW.out)
        have HP3 := Lib.hid P3
        have g3 := heap_lt P3
        obtain ⟨hc, _⟩ := cells_of P3
        have d0 : w3.cell? ⟨g, 0, none⟩ = some (.int .i64 op) := hc 0
        have d1 : w3.cell? ⟨g, 1, none⟩ = some (.int .i64 hops) := hc 1
        have d2 : w3.cell? ⟨g, 2, none⟩ = some (.int .u32 xid) := hc 2
        have k0 := HOK.out.1.1
        have k1 := HOK.out.1.2.1
        have k2 := HOK.out.1.2.2.1
        dsimp only at k0 k1 k2
        have k0' : 0 ≤ op ∧ op ≤ 255 := by omega
        clear hc P3 k0
        have u0 : IntKind.u8.wrap op = ((bN op).toNat : Int) := by rw [bN_val, IntKind.wrap_u8]
        have u1 : IntKind.u8.wrap hops = ((bN hops).toNat : Int) := by rw [bN_val, IntKind.wrap_u8]
        go_wp2_with fail
        refine (rw32_any _ (some ⟨w3.heap.size, 0, none⟩) 4 4 [bN op, 1, 6, bN hops] xid (BS.block [bN op, 1, 6, bN hops] (heap_alloc_new w3 _) (by simp [bv, bN_val, Int.emod_eq_of_lt k0'.1 (show op < 256 by omega), Int.emod_eq_of_lt k1 (show hops < 256 by omega)]) (by simp [maxLen])) (by simp) hx0 hx1).mono ?_
        rintro e w4 ⟨A4, n4, c4, rfl, ho4, hb4⟩
        have s4 : WS w w3 w4 A4 n4 c4 _ := WS.own ((Below.refl _ w3).alloc (Nat.le_refl _) _) ho4 hb4
        clear ho4 hb4 d0 d1 d2 u0 u1
        obtain ⟨hc, _⟩ := cells_of (below_at s4.q HP3.out g3)
        have d3 : w4.cell? ⟨g, 3, none⟩ = some (.int .i64 secs) := hc 3
        have d4 : w4.cell? ⟨g, 4, none⟩ = some (.int .i64 flags) := hc 4
        have e3 := Ext.cell (w := w4.drew) (M := fun k => w3.heap.size ≤ k) d3 (by omega)
        have e4 := Ext.cell (w := w4.drew) (M := fun k => w3.heap.size ≤ k) d4 (by omega)
        clear hc d3 d4
        have sd := s4.drew
        go_wp2_with fail
        refine rg_begin (fun k => w3.heap.size ≤ k) (by kernel_rfl) ?_
        refine rg_take (v := ?_) 0 rfl (by kernel_rfl) (by kernel_rfl) (by kernel_rfl) (fun _ _ _ h => h) (by rfl) ?_ ?_; rotate_left
        · (intro x hx; go_simp; first | done | with_reducible rfl | (rw [if_pos (by omega)]; try with_reducible rfl) | (rw [if_neg (by omega)]; try with_reducible rfl))
        try simp only [Act.put, List.setIfInBounds_toArray, List.set_cons_zero, List.set_cons_succ]
        refine rg_take (v := ?_) 1 rfl (by kernel_rfl) (by kernel_rfl) (by kernel_rfl) (fun _ _ _ h => h) (by rfl) ?_ ?_; rotate_left
        · (intro x hx; go_simp; first | done | with_reducible rfl | (rw [if_pos (by omega)]; try with_reducible rfl) | (rw [if_neg (by omega)]; try with_reducible rfl))
        try simp only [Act.put, List.setIfInBounds_toArray, List.set_cons_zero, List.set_cons_succ]
        refine rg_take (v := ?_) 2 rfl (by kernel_rfl) (by kernel_rfl) (by kernel_rfl) (fun _ _ _ h => h) (by rfl) ?_ ?_; rotate_left
        · (intro x hx; go_simp; first | done | with_reducible rfl | (rw [if_pos (by omega)]; try with_reducible rfl) | (rw [if_neg (by omega)]; try with_reducible rfl))
        try simp only [Act.put, List.setIfInBounds_toArray, List.set_cons_zero, List.set_cons_succ]
        refine rg_take (v := ?_) 4 rfl (by kernel_rfl) (by kernel_rfl) (by kernel_rfl) (fun _ _ _ h => h) (by rfl) ?_ ?_; rotate_left
        · (intro x hx; go_simp; first | done | with_reducible rfl | (rw [if_pos (by omega)]; try with_reducible rfl) | (rw [if_neg (by omega)]; try with_reducible rfl))
        try simp only [Act.put, List.setIfInBounds_toArray, List.set_cons_zero, List.set_cons_succ]
        refine rg_take (v := ?_) 5 rfl (by kernel_rfl) (by kernel_rfl) (by kernel_rfl) (fun _ _ _ h => h) (by rfl) ?_ ?_; rotate_left
        · (intro x hx; go_simp; first | done | with_reducible rfl | (rw [if_pos (by omega)]; try with_reducible rfl) | (rw [if_neg (by omega)]; try with_reducible rfl))
        try simp only [Act.put, List.setIfInBounds_toArray, List.set_cons_zero, List.set_cons_succ]
        refine rg_step 3 rfl (by kernel_rfl) (by rfl) (fun K hK => ?_)
        go_simp
        refine (rw16_post _ A4 n4 c4 _ secs sd.bs (by simp [b32])).mono ?_
        rintro e w5 ⟨A5, n5, c5, rfl, ho5, hb5⟩
        have s5 : WS w w3 w5 A5 n5 c5 _ := WS.own sd.q ho5 hb5
        refine hK.out _ _ (Ext.below_all _ hb5) ?_
        clear hK K; try simp only [Act.put, List.setIfInBounds_toArray, List.set_cons_zero, List.set_cons_succ]
        refine rg_step 6 rfl (by kernel_rfl) (by rfl) (fun K hK => ?_)
        go_simp
        refine (rw16_post _ A5 n5 c5 _ flags s5.bs (by simp [b32, b16])).mono ?_
        rintro e w6 ⟨A6, n6, c6, rfl, ho6, hb6⟩
        have s6 : WS w w3 w6 A6 n6 c6 _ := WS.own s5.q ho6 hb6
        refine hK.out _ _ (Ext.below_all _ hb6) ?_
        clear hK K; try simp only [Act.put, List.setIfInBounds_toArray, List.set_cons_zero, List.set_cons_succ]
        refine rg_take (v := ?_) 7 rfl (by kernel_rfl) (by kernel_rfl) (by kernel_rfl) (fun _ _ _ h => h) (by rfl) ?_ ?_; rotate_left
        · (intro x hx; go_simp; first | done | with_reducible rfl | (rw [if_pos (by omega)]; try with_reducible rfl) | (rw [if_neg (by omega)]; try with_reducible rfl))
        try simp only [Act.put, List.setIfInBounds_toArray, List.set_cons_zero, List.set_cons_succ]
        refine rg_done (by kernel_rfl) ?_
        clear s4 sd s5 e3 e4 ho5 hb5 ho6 hb6
        obtain ⟨L6, hL6, s6⟩ := s6.name
        have HL6 := Lib.hid hL6
        have l6 : L6.length = 12 := by rw [← hL6]; simp [b32, b16]
        have K6 := Lib.hid l6
        clear hL6 l6
        have part : ∀ (wr : World), Below w3.heap.size w3 wr → ∀ (o : Nat) (lb : List UInt8), ((msC ⟨op, hops, xid, secs, flags, cl, yo, se, re, mac⟩ A n c).toList.drop o).take lb.length = bv lb → lb.length ≤ 6 → BS wr w3.heap.size (some ⟨g, o, none⟩) lb.length lb.length lb := fun wr hq o lb h1 h2 =>
          (BS.part lb lb.length (below_at hq HP3.out g3) h1 (Nat.le_refl _) (by unfold maxLen; omega)).more g3
        have HPT := Lib.hid part
        clear part
        have z6 := s6.q.size
        go_wp2_with (at_builtin; go_must (refine app8 rfl _ _ rfl w3.heap.size _ _ _ _ rfl s6.O w3.heap.size _ 4 4 cl.bytes rfl (HPT.out _ s6.q 5 cl.bytes (by simp [bv, Ad4.bytes]) (by simp [Ad4.bytes])) (by rw [K6.out]; simp [Ad4.bytes, Mac6.bytes]) z6 ?_))
        intro A7 n7 c7 w7 ho7 hb7 _
        obtain ⟨L7, hL7, s7⟩ := WS.name (s6.app ho7 hb7)
        have HL7 := Lib.hid hL7
        have K7 := Lib.hid (show L7.length = 16 by rw [← hL7, List.length_append, K6.out]; simp [Ad4.bytes])
        clear s6 ho7 hb7 z6 hL7
        have z7 := s7.q.size
        go_wp2_with (at_builtin; go_must (refine app8 rfl _ _ rfl w3.heap.size _ _ _ _ rfl s7.O w3.heap.size _ 4 4 yo.bytes rfl (HPT.out _ s7.q 9 yo.bytes (by simp [bv, Ad4.bytes]) (by simp [Ad4.bytes])) (by rw [K7.out]; simp [Ad4.bytes, Mac6.bytes]) z7 ?_))
        intro A8 n8 c8 w8 ho8 hb8 _
        obtain ⟨L8, hL8, s8⟩ := WS.name (s7.app ho8 hb8)
        have HL8 := Lib.hid hL8
        have K8 := Lib.hid (show L8.length = 20 by rw [← hL8, List.length_append, K7.out]; simp [Ad4.bytes])
        clear s7 ho8 hb8 z7 hL8
        have z8 := s8.q.size
        go_wp2_with (at_builtin; go_must (refine app8 rfl _ _ rfl w3.heap.size _ _ _ _ rfl s8.O w3.heap.size _ 4 4 se.bytes rfl (HPT.out _ s8.q 13 se.bytes (by simp [bv, Ad4.bytes]) (by simp [Ad4.bytes])) (by rw [K8.out]; simp [Ad4.bytes, Mac6.bytes]) z8 ?_))
        intro A9 n9 c9 w9 ho9 hb9 _
        obtain ⟨L9, hL9, s9⟩ := WS.name (s8.app ho9 hb9)
        have HL9 := Lib.hid hL9
        have K9 := Lib.hid (show L9.length = 24 by rw [← hL9, List.length_append, K8.out]; simp [Ad4.bytes])
        clear s8 ho9 hb9 z8 hL9
        have z9 := s9.q.size
        go_wp2_with (at_builtin; go_must (refine app8 rfl _ _ rfl w3.heap.size _ _ _ _ rfl s9.O w3.heap.size _ 4 4 re.bytes rfl (HPT.out _ s9.q 17 re.bytes (by simp [bv, Ad4.bytes]) (by simp [Ad4.bytes])) (by rw [K9.out]; simp [Ad4.bytes, Mac6.bytes]) z9 ?_))
        intro A10 n10 c10 w10 ho10 hb10 _
        obtain ⟨L10, hL10, s10⟩ := WS.name (s9.app ho10 hb10)
        have HL10 := Lib.hid hL10
        have K10 := Lib.hid (show L10.length = 28 by rw [← hL10, List.length_append, K9.out]; simp [Ad4.bytes])
        clear s9 ho10 hb10 z9 hL10
        have z10 := s10.q.size
        go_wp2_with (at_builtin; go_must (refine app8 rfl _ _ rfl w3.heap.size _ _ _ _ rfl s10.O w3.heap.size _ 6 6 mac.bytes rfl (HPT.out _ s10.q 21 mac.bytes (by simp [bv, Mac6.bytes]) (by simp [Mac6.bytes])) (by rw [K10.out]; simp [Ad4.bytes, Mac6.bytes]) z10 ?_))
        intro A11 n11 c11 w11 ho11 hb11 _
        obtain ⟨L11, hL11, s11⟩ := WS.name (s10.app ho11 hb11)
        have HL11 := Lib.hid hL11
        have K11 := Lib.hid (show L11.length = 34 by rw [← hL11, List.length_append, K10.out]; simp [Mac6.bytes])
        clear s10 ho11 hb11 z10 hL11
        have z11 := s11.q.size
        obtain ⟨Z, hZ⟩ : ∃ Z, List.replicate 202 (0 : UInt8) = Z := ⟨_, rfl⟩
        have HZ := Lib.hid hZ
        have KZ := Lib.hid (show Z.length = 202 by rw [← hZ, List.length_replicate])
        clear hZ
        go_wp2_with (at_builtin; go_must (refine appZ2 rfl _ _ rfl w3.heap.size _ _ _ _ rfl s11.O 202 Z HZ.out rfl (by rw [K11.out]; omega) z11 ?_))
        intro A12 n12 c12 w12 ho12 hb12 _
        obtain ⟨L12, hL12, s12⟩ := WS.name (s11.app ho12 hb12)
        have HL12 := Lib.hid hL12
        have K12 := Lib.hid (show L12.length = 236 by rw [← hL12, List.length_append, K11.out, KZ.out])
        clear s11 ho12 hb12 z11 hL12
        have s12a := s12.alloc (.cells #[.int .u8 99, .int .u8 130, .int .u8 83, .int .u8 99] 5)
        go_wp2_with (at_builtin; go_must (refine app8 rfl _ _ rfl w3.heap.size _ _ _ _ rfl s12a.O _ _ 4 4 cook rfl (BS.block cook (heap_alloc_new w12 _) rfl (by simp [cook, maxLen])) (by rw [K12.out]; simp [cook]) s12a.q.size ?_))
        intro A13 n13 c13 w13 ho13 hb13 _
        obtain ⟨L13, hL13, s13⟩ := WS.name (s12a.app ho13 hb13)
        have HL13 := Lib.hid hL13
        have K13 := Lib.hid (show L13.length = 240 by rw [← hL13, List.length_append, K12.out]; rfl)
        have z13 := s13.q.size
        have hol : o.length ≤ 1200 := putO_len (obs l) o HOO.out
        clear s12 s12a ho13 hb13 hL13
        go_wp2_with (at_builtin; go_must (refine app8 rfl _ _ rfl w3.heap.size _ _ _ _ rfl s13.O w3.heap.size _ _ _ o rfl (ho3.bs.below s13.q) (by rw [K13.out]; omega) z13 ?_))
        intro A14 n14 c14 w14 ho14 hb14 _
        obtain ⟨L14, hL14, s14⟩ := WS.name (s13.app ho14 hb14)
        have hK14 : L14.length = 240 + o.length := by rw [← hL14, List.length_append, K13.out]
        have HL14 := Lib.hid (show headM ⟨op, hops, xid, secs, flags, cl, yo, se, re, mac⟩ ++ o = L14 by
          rw [← hL14, ← HL13.out, ← HL12.out, ← HZ.out, ← HL11.out, ← HL10.out, ← HL9.out, ← HL8.out, ← HL7.out, ← HL6.out]
          rfl)
        have hl14 : L14.length ≤ 1440 := by omega
        have z14 := s14.q.size
        have hn14 : n14 = 240 + o.length := by
          have h1 := s14.O.1
          omega
        have qq : Below w.heap.size w w14 := q3.trans (s14.q.mono q3.size)
        have HN14 := Lib.hid hn14
        clear s13 z13 ho14 hb14 hL14 hK14 HL6 HL7 HL8 HL9 HL10 HL11 HL12 HL13 K6 K7 K8 K9 K10 K11 K12 K13
        by_cases hsh : n14 < 300
        · obtain ⟨k, hk⟩ : ∃ k, 300 - n14 = k := ⟨_, rfl⟩
          have ek : (300 : Int) - (n14 : Int) = (k : Int) := by omega
          have hkl : k ≤ 300 := by omega
          have HK := Lib.hid hk
          clear hk hn14
          go_wp2_with (at_builtin; go_must (refine appZ rfl _ _ rfl w3.heap.size _ _ _ _ rfl s14.O k rfl (by omega) z14 ?_))
          intro A15 n15 c15 w15 ho15 hb15 _
          go_wp2_with fail
          go_ret2
          have hr := HR'.out
          have h1 : (headM ⟨op, hops, xid, secs, flags, cl, yo, se, re, mac⟩ ++ o).length + k = 300 := by
            rw [List.length_append, headM_length]
            have := HK.out
            have := HN14.out
            omega
          rw [padM_fill _ k h1, HL14.out] at hr
          rw [← hr]
          exact ⟨A15, n15, c15, rfl, ho15.lower q3.size, qq.trans (hb15.mono q3.size)⟩
        · have hn300 : 300 ≤ n14 := by omega
          clear hn14
          go_wp2_with fail
          go_ret2
          have hr := HR'.out
          have h1 : 300 ≤ (headM ⟨op, hops, xid, secs, flags, cl, yo, se, re, mac⟩ ++ o).length := by
            rw [List.length_append, headM_length]
            have := HN14.out
            omega
          rw [padM_long _ h1, HL14.out] at hr
          rw [← hr]
          exact ⟨A14, n14, c14, rfl, s14.O.lower q3.size, qq⟩
      · rw [if_neg he] at hr
        have HR' := Lib.hid hr
        clear HR hr d27
        have hen : (er != 0) = true := by rw [bne_iff_ne]; exact he
        go_wp2_with fail
        go_ret2
        rw [← HR'.out]
        exact ⟨none, 0, 0, rfl, OB.nil_ _ _, q3⟩
    · have hok : ¬ (okHd ⟨op, hops, xid, secs, flags, cl, yo, se, re, mac⟩ ∧ typeO (obs l) ≠ 0) := by
        rw [HP.out]; exact HB.out.1 rfl
      have hr := HR.out
      rw [putM, if_neg hok] at hr
      have HR' := Lib.hid hr
      clear hok hr HR d27
      go_wp2_with fail
      go_ret2
      rw [← HR'.out]
      exact ⟨none, 0, 0, rfl, OB.nil_ _ _, qw⟩
end Go.Proofs.Ytidohmcneoldcaa
