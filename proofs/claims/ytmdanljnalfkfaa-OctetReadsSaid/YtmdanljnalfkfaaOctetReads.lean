/-
  The walk of the statement OctetReads.
-/
import Derived.Test.YtmdanljnalfkfaaOctet4
import Derived.Test.YtmdanljnalfkfaaInts
import Derived.Deep.CutBlock
namespace Go.Proofs.Ytmdanljnalfkfaa
open Go.RowKit

/-- How many bytes are asked for: by the number's last two bits. -/
def kindN (v : Int) : Int := if v % 4 = 0 then 1 else if v % 4 = 1 then 2 else if v % 4 = 2 then 4 else v / 4

/-- What holds at each round's head: the reader has what is left from at on; once short nothing. -/
def ReadsRel (w wr : World) (g : Nat) (lb : List UInt8) (nl : Nat) (at_ sh i : Value) : Prop :=
  ∃ (p j : Nat) (s : Bool), p ≤ lb.length ∧ j ≤ nl ∧ at_ = .int .i64 p ∧ sh = .bool s ∧ i = .int .i64 j ∧ (s = true → p = lb.length) ∧ Rd wr g (lb.drop p) s ∧ Below w.heap.size w wr

theorem rd_ok (l : List UInt8) (k : Nat) (h : k ≤ l.length) : rdDrop l k = l.drop k ∧ rdTake l k = l.take k ∧ rdSh l k false = false := by
  have h' : (0 : Int) ≤ (k : Int) ∧ (k : Int) ≤ l.length := by omega
  exact ⟨if_pos h', if_pos h', if_pos h'⟩
theorem rd_no (l : List UInt8) (n : Int) (s : Bool) (h : s = true ∧ l = [] ∨ n < 0 ∨ (l.length : Int) < n) : rdDrop l n = [] ∧ rdTake l n = [] ∧ rdSh l n s = true := by
  by_cases h' : (0 : Int) ≤ n ∧ n ≤ l.length
  · simp only [rdDrop, rdTake, rdSh, if_pos h']
    rcases h with ⟨h1, h2⟩ | h | h
    · subst h2
      simp [h1]
    · omega
    · omega
  · exact ⟨if_neg h', if_neg h', if_neg h'⟩

/-- A row of bytes, also behind what block g is given. -/
def BW (w : World) (g : Nat) (A : Option Addr) (n c : Nat) (l : List UInt8) : Prop := ∀ x, Ext (fun k => k = g) w x → BS x x.heap.size A n c l
theorem BW.of_bs {w : World} {g H n c : Nat} {A : Option Addr} {l : List UInt8} (h : BS w H A n c l) (hH : H ≤ w.heap.size) (hg : H ≤ g) : BW w g A n c l :=
  fun x hx => (h.ext hx hH (fun k hk e => by omega)).more (Nat.le_trans hH hx.size)
theorem BW.of_block {w : World} {g k : Nat} {cs : Array Value} {t : TypeId} {fr : Nat × Nat} (l : List UInt8) (h : w.heap[k]? = some (.cells cs t fr)) (hk : k ≠ g) (hc : cs = (bv l).toArray) (hl : l.length ≤ maxLen) :
    BW w g (some ⟨k, 0, none⟩) l.length l.length l :=
  fun x hx => BS.block l ((hx.block k (heap_lt h) hk).trans h) hc hl
theorem BW.cell {w : World} {g n c : Nat} {A : Option Addr} {l : List UInt8} {x : UInt8} (h : BW w g A n c l) (hx : l[0]? = some x) :
    ∃ b o, A = some ⟨b, o, none⟩ ∧ 0 < n ∧ ∀ y, Ext (fun k => k = g) w y → y.cell? ⟨b, o, none⟩ = some (.int .u8 (x.toNat : Int)) := by
  have h0 := h w (Ext.refl _ _)
  obtain ⟨hl, e0⟩ := List.getElem?_eq_some_iff.1 hx
  have hn := h0.1
  obtain ⟨b, o, rfl, hb, hc⟩ := h0.byte (k := 0) (by omega)
  refine ⟨b, o, rfl, by omega, fun y hy => ?_⟩
  have h1 := (h y hy).2.2.2.cells _ rfl 0 _ (bv_get l 0 hl)
  rw [e0] at h1
  exact h1
theorem mid1 {l lw : List UInt8} {ok : Bool} {n : Int} (hn : n = 1) (h : ok = true ∧ lw = rdTake l n ∧ n = lw.length ∨ ok = false ∧ rdTake l n = [] ∧ lw = [0, 0, 0, 0]) :
    ∃ x : UInt8, lw[0]? = some x ∧ (beN (rdTake l 1) : Int) = x.toNat := by
  subst hn
  rcases h with ⟨_, h1, h2⟩ | ⟨_, h1, rfl⟩
  · rw [← h1]
    match lw, h2 with
    | [x], _ => exact ⟨x, rfl, by simp [beN]⟩
  · rw [h1]
    exact ⟨0, rfl, by simp [beN]⟩
theorem mid2 {l lw : List UInt8} {ok : Bool} {n : Int} (hn : n = 2) (h : ok = true ∧ lw = rdTake l n ∧ n = lw.length ∨ ok = false ∧ rdTake l n = [] ∧ lw = [0, 0, 0, 0]) :
    ∃ x y : UInt8, 2 ≤ lw.length ∧ lw[0]? = some x ∧ lw[1]? = some y ∧ (beN (rdTake l 2) : Int) = (x.toNat : Int) * 256 + y.toNat := by
  subst hn
  rcases h with ⟨_, h1, h2⟩ | ⟨_, h1, rfl⟩
  · rw [← h1]
    match lw, h2 with
    | [x, y], _ => exact ⟨x, y, by simp, rfl, rfl, by simp [beN]⟩
  · rw [h1]
    exact ⟨0, 0, by simp, rfl, rfl, by simp [beN]⟩
theorem mid4 {l lw : List UInt8} {ok : Bool} {n : Int} (hn : n = 4) (h : ok = true ∧ lw = rdTake l n ∧ n = lw.length ∨ ok = false ∧ rdTake l n = [] ∧ lw = [0, 0, 0, 0]) :
    ∃ x y z u : UInt8, 4 ≤ lw.length ∧ lw[0]? = some x ∧ lw[1]? = some y ∧ lw[2]? = some z ∧ lw[3]? = some u ∧ (beN (rdTake l 4) : Int) = (((x.toNat : Int) * 256 + y.toNat) * 256 + z.toNat) * 256 + u.toNat := by
  subst hn
  rcases h with ⟨_, h1, h2⟩ | ⟨_, h1, rfl⟩
  · rw [← h1]
    match lw, h2 with
    | [x, y, z, u], _ => exact ⟨x, y, z, u, by simp, rfl, rfl, rfl, rfl, by simp [beN]⟩
  · rw [h1]
    exact ⟨0, 0, 0, 0, by simp, rfl, rfl, rfl, rfl, by simp [beN]⟩

/-- What holds once the bytes that the round should see are cut out. -/
def ReadsMid (w wx : World) (g : Nat) (lb : List UInt8) (p : Nat) (s : Bool) (n : Int) (a s' o W : Value) : Prop :=
  ∃ (p' : Nat) (ok : Bool) (W' : Option Addr) (nw cw : Nat) (lw : List UInt8), a = .int .i64 p' ∧ p' ≤ lb.length ∧ lb.drop p' = rdDrop (lb.drop p) n ∧ s' = .bool (rdSh (lb.drop p) n s) ∧
    (rdSh (lb.drop p) n s = true → p' = lb.length) ∧ o = .bool ok ∧ W = .slice W' nw cw ∧ BW wx g W' nw cw lw ∧ nw ≤ 200 ∧
    (ok = true ∧ lw = rdTake (lb.drop p) n ∧ n = lw.length ∨ ok = false ∧ rdTake (lb.drop p) n = [] ∧ lw = [0, 0, 0, 0]) ∧ Rd wx g (lb.drop p) s ∧ Below w.heap.size w wx

set_option maxRecDepth 100000 in
set_option maxHeartbeats 20000000 in
theorem reads_in (w : World) (B : Option Addr) (nb cb : Nat) (lb : List UInt8) (h : BS w w.heap.size B nb cb lb) (L : Option Addr) (nl cl : Nat) (ll : List Int) (h' : IS w w.heap.size L nl cl ll) (hn : nb ≤ 200) (hn' : nl ≤ 100) :
    Calls Try.prog 4 #[.slice B nb cb, .slice L nl cl] w (TruePost w) := by
  have hll : lb.length ≤ 200 := by have := h.1; omega
  go_enter Try.func4, Try.ntmps4
  go_wp2_with fail
  refine (awake_any w).mono ?_
  rintro e w1 ⟨rfl, hb1⟩
  have b1 : BS w1 w1.heap.size B nb cb lb := (h.below hb1).more hb1.size
  go_wp2_with (at_builtin; go_must (refine app8 rfl _ _ rfl w1.heap.size _ 0 0 [] rfl (OB.empty w1 _ _ _ rfl (Nat.le_refl _) rfl) w1.heap.size B nb cb lb rfl (b1.alloc (Nat.le_refl _) _) (by simp only [List.length_nil]; omega) (by simp) ?_))
  intro A2 n2 c2 w2 ho2 hb2 _
  have z1 := hb1.size
  have z2 := hb2.size
  simp at z2
  have q2 : Below w.heap.size w w2 := (hb1.alloc z1 _).trans (hb2.mono z1)
  go_wp2_with fail
  refine (read_any w2 A2 n2 c2 lb ho2.bs (by omega)).mono ?_
  rintro e w3 ⟨g, rfl, hg, hr3, hb3⟩
  have q3 : Below w.heap.size w w3 := q2.trans (hb3.mono (by omega))
  go_wp2_with fail
  have hgw : w.heap.size ≤ g := by omega
  go_loopw [6, 7, 8] (fun a s i wr => ReadsRel w wr g lb nl a s i) (fun _ _ i _ => nl - (intOf i).toNat)
  case atStart => exact ⟨0, 0, false, Nat.zero_le _, Nat.zero_le _, rfl, rfl, rfl, (by intro h; cases h), by simpa using hr3, q3⟩
  case round =>
    obtain ⟨p, j, s, hp, hj, rfl, rfl, rfl, hs, hr, hq⟩ := hrel
    by_cases hlt : j < nl
    · obtain ⟨b, o, v, rfl, hbb, hc, hv, hv0, hv1⟩ := (h'.below hq).at_ hlt
      obtain ⟨r, hr3, hr4⟩ : ∃ r : Nat, v % 4 = r ∧ r < 4 := ⟨(v % 4).toNat, by omega, by omega⟩
      have ha := (and_mask v 3 2 rfl (by omega)).trans hr3
      change bits BinOp.and IntKind.i64 v 3 = (r : Int) at ha
      have hjn : (0 : Int) ≤ (j : Int) ∧ (j : Int) < (nl : Int) := ⟨by omega, by omega⟩
      have hsh : -2305843009213693952 ≤ v / 4 ∧ v / 4 ≤ 2305843009213693951 := ⟨by omega, by omega⟩
      have HV := Lib.hid hv
      have H3 := Lib.hid hr3
      clear hv hr3
      have g0 := Ext.cell (w := wr.drew) (M := fun _ => False) hc (fun h => h)
      go_upto_region 10 with fail
      go_cut [9] (fun x wx => x = .int .i64 (kindN v) ∧ Rd wx g (lb.drop p) s ∧ Below w.heap.size w wx)
      case first =>
        have hr4' : r = 0 ∨ r = 1 ∨ r = 2 ∨ r = 3 := by omega
        clear hr4
        rcases hr4' with rfl | rfl | rfl | rfl
        all_goals
          refine rg_begin (fun _ => False) (by kernel_rfl) ?_
          refine rg_take (v := ?_) 0 rfl (by kernel_rfl) (by kernel_rfl) (by kernel_rfl) (fun _ _ _ h => h) (by rfl) ?_ ?_; rotate_left
          · (intro x hx; go_simp; first | done | with_reducible rfl | (rw [if_pos (by omega)]; try with_reducible rfl))
          try simp only [Act.put, List.setIfInBounds_toArray, List.set_cons_zero, List.set_cons_succ]
          refine rg_take (v := ?_) 1 rfl (by kernel_rfl) (by kernel_rfl) (by kernel_rfl) (fun _ _ _ h => h) (by rfl) ?_ ?_; rotate_left
          · (intro x hx; go_simp; first | done | with_reducible rfl | (rw [if_pos (by omega)]; try with_reducible rfl))
          try simp only [Act.put, List.setIfInBounds_toArray, List.set_cons_zero, List.set_cons_succ]
          refine rg_take (v := ?_) 2 rfl (by kernel_rfl) (by kernel_rfl) (by kernel_rfl) (fun _ _ _ h => h) (by rfl) ?_ ?_; rotate_left
          · (intro x hx; go_simp; first | done | with_reducible rfl | (rw [if_pos (by omega)]; try with_reducible rfl))
          try simp only [Act.put, List.setIfInBounds_toArray, List.set_cons_zero, List.set_cons_succ]
          refine rg_take (v := ?_) 3 rfl (by kernel_rfl) (by kernel_rfl) (by kernel_rfl) (fun _ _ _ h => h) (by rfl) ?_ ?_; rotate_left
          · (intro x hx; go_simp; first | done | with_reducible rfl | (rw [if_pos (by omega)]; try with_reducible rfl))
          try simp only [Act.put, List.setIfInBounds_toArray, List.set_cons_zero, List.set_cons_succ]
          refine rg_take (v := ?_) 4 rfl (by kernel_rfl) (by kernel_rfl) (by kernel_rfl) (fun _ _ _ h => h) (by rfl) ?_ ?_; rotate_left
          · (intro x hx; go_simp; first | done | with_reducible rfl | (rw [if_pos (by omega)]; try with_reducible rfl))
          try simp only [Act.put, List.setIfInBounds_toArray, List.set_cons_zero, List.set_cons_succ]
          refine rg_take (v := ?_) 6 rfl (by kernel_rfl) (by kernel_rfl) (by kernel_rfl) (fun _ _ _ h => h) (by rfl) ?_ ?_; rotate_left
          · (intro x hx; go_simp; first | done | with_reducible rfl | (rw [if_pos (by omega)]; try with_reducible rfl))
          try simp only [Act.put, List.setIfInBounds_toArray, List.set_cons_zero, List.set_cons_succ]
          refine rg_take (v := ?_) 7 rfl (by kernel_rfl) (by kernel_rfl) (by kernel_rfl) (fun _ _ _ h => h) (by rfl) ?_ ?_; rotate_left
          · (intro x hx; go_simp; first | done | with_reducible rfl | (rw [if_pos (by omega)]; try with_reducible rfl))
          try simp only [Act.put, List.setIfInBounds_toArray, List.set_cons_zero, List.set_cons_succ]
          refine rg_take (v := ?_) 8 rfl (by kernel_rfl) (by kernel_rfl) (by kernel_rfl) (fun _ _ _ h => h) (by rfl) ?_ ?_; rotate_left
          · (intro x hx; go_simp; first | done | with_reducible rfl | (rw [if_pos (by omega)]; try with_reducible rfl))
          try simp only [Act.put, List.setIfInBounds_toArray, List.set_cons_zero, List.set_cons_succ]
          refine rg_take (v := ?_) 9 rfl (by kernel_rfl) (by kernel_rfl) (by kernel_rfl) (fun _ _ _ h => h) (by rfl) ?_ ?_; rotate_left
          · (intro x hx; go_simp; first | done | with_reducible rfl | (rw [if_pos (by omega)]; try with_reducible rfl))
          try simp only [Act.put, List.setIfInBounds_toArray, List.set_cons_zero, List.set_cons_succ]
          refine rg_take (v := ?_) 10 rfl (by kernel_rfl) (by kernel_rfl) (by kernel_rfl) (fun _ _ _ h => h) (by rfl) ?_ ?_; rotate_left
          · (intro x hx; go_simp; first | done | with_reducible rfl | (rw [if_pos (by omega)]; try with_reducible rfl))
          try simp only [Act.put, List.setIfInBounds_toArray, List.set_cons_zero, List.set_cons_succ]
          refine rg_step 5 rfl (by kernel_rfl) (by rfl) (fun K hK => ?_)
          go_simp
          have g2 := Ext.cells (M := fun _ => False) (w := (wr.alloc (.cells #[.int .i64 1, .int .i64 2, .int .i64 4, .int .i64 (v / 4)] 3)).drew) (heap_alloc_at rfl) (fun h => h)
          refine hK.out _ _ ((Ext.refl _ _).alloc _) ?_
          clear hK K; try simp only [Act.put, List.setIfInBounds_toArray, List.set_cons_zero, List.set_cons_succ]
          refine rg_take (v := ?_) 11 rfl (by kernel_rfl) (by kernel_rfl) (by kernel_rfl) (fun _ _ _ h => h) (by rfl) ?_ ?_; rotate_left
          · (intro x hx; go_simp; first | done | with_reducible rfl | (rw [if_pos (by omega)]; try with_reducible rfl))
          try simp only [Act.put, List.setIfInBounds_toArray, List.set_cons_zero, List.set_cons_succ]
          refine rg_take (v := ?_) 12 rfl (by kernel_rfl) (by kernel_rfl) (by kernel_rfl) (fun _ _ _ h => h) (by rfl) ?_ ?_; rotate_left
          · (intro x hx; go_simp; first | done | with_reducible rfl | (rw [if_pos (by omega)]; try with_reducible rfl))
          try simp only [Act.put, List.setIfInBounds_toArray, List.set_cons_zero, List.set_cons_succ]
          refine rg_take (v := ?_) 13 rfl (by kernel_rfl) (by kernel_rfl) (by kernel_rfl) (fun _ _ _ h => h) (by rfl) ?_ ?_; rotate_left
          · (intro x hx; go_simp; first | done | with_reducible rfl | (rw [if_pos (by omega)]; try with_reducible rfl))
          try simp only [Act.put, List.setIfInBounds_toArray, List.set_cons_zero, List.set_cons_succ]
          refine rg_done (by kernel_rfl) ?_
          go_wp2_with fail
          go_meet
          refine ⟨?_, (hr.drew).alloc _, (hq.drew).alloc hq.size _⟩
          simp [kindN, H3.out]
      case rest =>
        obtain ⟨rfl, hr5, hq5⟩ := hcut
        have hnv : v % 4 = 0 ∨ v % 4 = 1 ∨ v % 4 = 2 ∨ v % 4 = 3 := by omega
        have hkn : -4611686018427387904 ≤ kindN v ∧ kindN v ≤ 4611686018427387904 := by
          unfold kindN
          omega
        have HK := Lib.hid (rfl : kindN v = kindN v)
        obtain ⟨n, hn0⟩ : ∃ n, kindN v = n := ⟨_, rfl⟩
        rw [hn0] at hkn ⊢
        have HN := Lib.hid hn0
        clear hn0 HK hnv
        have hnb : nb ≤ lb.length ∧ lb.length ≤ nb := by have := h.1; omega
        have hcb : nb ≤ cb := h.2.1
        have hcm : cb ≤ maxLen := h.2.2.1
        simp only [maxLen] at hcm
        have hB := (h.below hq5)
        have HSS := Lib.hid hs
        clear hs
        go_upto_region 11 with fail
        go_cut [10] (fun o wx => ∃ ok, o = .bool ok ∧ (ok = true ∧ s = false ∧ 0 ≤ n ∧ n ≤ (lb.length : Int) - p ∨ ok = false ∧ (s = true ∨ n < 0 ∨ (lb.length : Int) - p < n)) ∧ Rd wx g (lb.drop p) s ∧ Below w.heap.size w wx)
        case first =>
          cases s
          · by_cases h0 : 0 ≤ n
            · by_cases h1 : n ≤ (nb : Int) - p
              · go_wp2_with fail
                go_meet
                refine ⟨_, rfl, ?_, hr5, hq5⟩
                simp
                omega
              · go_wp2_with fail
                go_meet
                refine ⟨_, rfl, ?_, hr5, hq5⟩
                simp
                try omega
            · go_wp2_with fail
              go_meet
              refine ⟨_, rfl, ?_, hr5, hq5⟩
              simp
              try omega
          · go_wp2_with fail
            go_meet
            refine ⟨_, rfl, ?_, hr5, hq5⟩
            simp
            try omega
        rename_i wx0
        obtain ⟨ok, rfl, hok, hr6, hq6⟩ := hcut
        go_upto_if 60 with fail
        go_cut [6, 7, 11] (fun a s' W wx => ReadsMid w wx g lb p s n a s' (.bool ok) W)
        case first =>
          rcases hok with ⟨rfl, rfl, hk0, hk1⟩ | ⟨rfl, hk⟩
          · obtain ⟨k, rfl⟩ := Int.eq_ofNat_of_zero_le hk0
            have hbs := (h.below hq6).drop (k := p) (by omega)
            obtain ⟨hd, ht, hsh⟩ := rd_ok (lb.drop p) k (by simp; omega)
            have HD := Lib.hid hd
            have HT := Lib.hid ht
            have HS := Lib.hid hsh
            clear hd ht hsh
            rcases Nat.lt_or_ge p cb with hcp | hcp
            · rw [if_neg (by omega)] at hbs
              go_wp2_with fail
              go_meet
              refine ⟨p + k, true, _, k, _, _, by simp, by omega, by rw [HD.out, List.drop_drop], by rw [HS.out], by rw [HS.out]; simp, rfl, (by rw [Nat.add_sub_cancel_left]), BW.of_bs (hbs.take (by omega) (cb - p) (by omega) (by simp [maxLen]; omega)) hq6.size hgw, by omega, .inl ⟨rfl, by rw [HT.out], by simp; omega⟩, hr6, hq6⟩
            · rw [if_pos (by omega)] at hbs
              have hcp2 : p ≤ cb := by omega
              go_wp2_with fail
              go_meet
              refine ⟨p + k, true, _, k, _, _, by simp, by omega, by rw [HD.out, List.drop_drop], by rw [HS.out], by rw [HS.out]; simp, rfl, (by rw [Nat.add_sub_cancel_left]), BW.of_bs (hbs.take (by omega) 0 (by omega) (by simp [maxLen])) hq6.size hgw, by omega, .inl ⟨rfl, by rw [HT.out], by simp; omega⟩, hr6, hq6⟩
          · obtain ⟨hd, ht, hsh⟩ := rd_no (lb.drop p) n s (hk.imp (fun hk => ⟨hk, by rw [HSS.out hk]; simp⟩) (fun hk => hk.imp id (fun hk => by simp; omega)))
            have HD := Lib.hid hd
            have HT := Lib.hid ht
            have HS := Lib.hid hsh
            clear hd ht hsh
            go_wp2_with fail
            go_meet
            refine ⟨nb, false, _, 4, _, [0, 0, 0, 0], rfl, by omega, by rw [HD.out]; exact List.drop_eq_nil_of_le (by omega), by rw [HS.out], fun _ => by omega, rfl, rfl, BW.of_block [0, 0, 0, 0] (heap_alloc_at rfl) (by have := hr6.lt; omega) rfl (by simp [maxLen]), by omega, .inr ⟨rfl, HT.out, rfl⟩, hr6.alloc _, hq6.alloc hq6.size _⟩
        case rest =>
          obtain ⟨p', ok', W', nw, cw, lw, rfl, hp', hdp, rfl, hsp, hoo, rfl, hbw, hnw, hw, hr7, hq7⟩ := hcut
          injection hoo with hoo
          subst hoo
          obtain ⟨b2, o2, v2, he, _, hc7, hv2, _, _⟩ := (h'.below hq7).at_ hlt
          injection he with he
          injection he with he1 he2
          subst he1 he2
          have hvv : v2 = v := by have := HV.out.symm.trans hv2; injection this with this; exact this.symm
          subst hvv
          clear hv2 hc
          have HW := Lib.hid hw
          have HDP := Lib.hid hdp
          have HSP := Lib.hid hsp
          clear hw hdp hsp
          have hlq : (lb.drop p).length ≤ 1099511627776 := by simp; omega
          go_upto_block 2 with fail
          go_cut [12] (fun x wx => Rd wx g (rdDrop (lb.drop p) n) (rdSh (lb.drop p) n s) ∧ Below w.heap.size w wx)
          case first =>
            have hr4' : r = 0 ∨ r = 1 ∨ r = 2 ∨ r = 3 := by omega
            clear hr4
            rcases hr4' with rfl | rfl | rfl | rfl
            · have hn1 : n = 1 := by rw [← HN.out]; simp [kindN, H3.out]
              obtain ⟨x, hx, hbe⟩ := mid1 hn1 HW.out
              have hxl : x.toNat < 256 := x.toNat_lt
              have hxw : IntKind.i64.wrap (x.toNat : Int) = (x.toNat : Int) := IntWalk.i64_in _ (by omega)
              obtain ⟨b3, o3, rfl, hn0, hc3⟩ := hbw.cell hx
              have HN1 := Lib.hid hn1
              have HB := Lib.hid hbe
              clear hn1 hbe hbw HW
              go_upto_region 24 with fail
              have g3 := fun y (hy : Ext (fun k => k = g) (World.drew _) y) => hc3 y (((Ext.refl _ _).drew).trans hy)
              clear hc3
              refine rg_begin (fun k => k = g) (by kernel_rfl) ?_
              refine rg_take (v := ?_) 0 rfl (by kernel_rfl) (by kernel_rfl) (by kernel_rfl) (fun _ _ _ h => h) (by rfl) ?_ ?_; rotate_left
              · (intro x hx; go_simp; first | done | with_reducible rfl | (rw [if_pos (by omega)]; try with_reducible rfl))
              try simp only [Act.put, List.setIfInBounds_toArray, List.set_cons_zero, List.set_cons_succ]
              refine rg_take (v := ?_) 2 rfl (by kernel_rfl) (by kernel_rfl) (by kernel_rfl) (fun _ _ _ h => h) (by rfl) ?_ ?_; rotate_left
              · (intro x hx; go_simp; first | done | with_reducible rfl | (rw [if_pos (by omega)]; try with_reducible rfl))
              try simp only [Act.put, List.setIfInBounds_toArray, List.set_cons_zero, List.set_cons_succ]
              refine rg_take (v := ?_) 3 rfl (by kernel_rfl) (by kernel_rfl) (by kernel_rfl) (fun _ _ _ h => h) (by rfl) ?_ ?_; rotate_left
              · (intro x hx; go_simp; first | done | with_reducible rfl | (rw [if_pos (by omega)]; try with_reducible rfl))
              try simp only [Act.put, List.setIfInBounds_toArray, List.set_cons_zero, List.set_cons_succ]
              refine rg_take (v := ?_) 4 rfl (by kernel_rfl) (by kernel_rfl) (by kernel_rfl) (fun _ _ _ h => h) (by rfl) ?_ ?_; rotate_left
              · (intro x hx; go_simp; first | done | with_reducible rfl | (rw [if_pos (by omega)]; try with_reducible rfl))
              try simp only [Act.put, List.setIfInBounds_toArray, List.set_cons_zero, List.set_cons_succ]
              refine rg_take (v := ?_) 5 rfl (by kernel_rfl) (by kernel_rfl) (by kernel_rfl) (fun _ _ _ h => h) (by rfl) ?_ ?_; rotate_left
              · (intro x hx; go_simp; first | done | with_reducible rfl | (rw [if_pos (by omega)]; try with_reducible rfl))
              try simp only [Act.put, List.setIfInBounds_toArray, List.set_cons_zero, List.set_cons_succ]
              refine rg_step 1 rfl (by kernel_rfl) (by rfl) (fun K hK => ?_)
              go_simp
              refine (ru8_any _ g _ s hr7.drew hlq).mono ?_; rintro e wd ⟨rfl, hrd, gd⟩
              rw [HB.out]
              refine hK.out _ _ (Ext.of_grown gd fun k hk => by injection hk with e; exact e.symm) ?_
              clear hK K; try simp only [Act.put, List.setIfInBounds_toArray, List.set_cons_zero, List.set_cons_succ]
              refine rg_take (v := ?_) 6 rfl (by kernel_rfl) (by kernel_rfl) (by kernel_rfl) (fun _ _ _ h => h) (by rfl) ?_ ?_; rotate_left
              · (intro x hx; go_simp; first | done | with_reducible rfl | (rw [if_pos (by omega)]; try with_reducible rfl))
              try simp only [Act.put, List.setIfInBounds_toArray, List.set_cons_zero, List.set_cons_succ]
              refine rg_done (by kernel_rfl) ?_
              go_wp2_with fail
              go_meet
              refine ⟨?_, below_grown hq7.drew gd hq7.size hgw⟩
              rw [HN1.out]
              exact hrd
            · have hn1 : n = 2 := by rw [← HN.out]; simp [kindN, H3.out]
              obtain ⟨x, y, hl2, hx, hy, hbe⟩ := mid2 hn1 HW.out
              have HN1 := Lib.hid hn1
              have HB := Lib.hid hbe
              clear hn1 hbe HW
              go_wp2_with fail
              refine (ru16_any _ g _ s hr7 hlq).mono ?_; rintro e wd ⟨rfl, hrd, gd⟩
              rw [HB.out]
              have hbd := hbw wd (Ext.of_grown gd fun k hk => by injection hk with e; exact e.symm)
              have hnl : nw ≤ lw.length ∧ lw.length ≤ nw := ⟨Nat.le_of_eq hbd.1, Nat.le_of_eq hbd.1.symm⟩
              go_wp2_with fail
              have ha1 : (0 : Int) + 1 < nw := by omega
              have ha2 : nw ≤ 9223372036854775807 := by omega
              have ha := at16_any wd W' nw cw lw 0 x y hbd (Int.le_refl 0) ha1 ha2 hx hy
              clear ha1 ha2
              refine ha.mono ?_
              rintro e we ⟨rfl, he⟩
              go_wp2_with fail
              go_meet
              have hdl := hrd.lt
              refine ⟨?_, (below_grown hq7 gd hq7.size hgw).trans (he.mono (Nat.le_trans hq7.size gd.size))⟩
              rw [HN1.out]
              exact hrd.below he hdl
            · have hn1 : n = 4 := by rw [← HN.out]; simp [kindN, H3.out]
              obtain ⟨x, y, z, u, hl2, hx, hy, hz, hu, hbe⟩ := mid4 hn1 HW.out
              have HN1 := Lib.hid hn1
              have HB := Lib.hid hbe
              clear hn1 hbe HW
              go_wp2_with fail
              refine (ru32_any _ g _ s hr7 hlq).mono ?_; rintro e wd ⟨rfl, hrd, gd⟩
              rw [HB.out]
              have hbd := hbw wd (Ext.of_grown gd fun k hk => by injection hk with e; exact e.symm)
              have hnl : nw ≤ lw.length ∧ lw.length ≤ nw := ⟨Nat.le_of_eq hbd.1, Nat.le_of_eq hbd.1.symm⟩
              go_wp2_with fail
              have ha1 : (0 : Int) + 3 < nw := by omega
              have ha2 : nw ≤ 9223372036854775807 := by omega
              have ha := at32_any wd W' nw cw lw 0 x y z u hbd (Int.le_refl 0) ha1 ha2 hx hy hz hu
              clear ha1 ha2
              refine ha.mono ?_
              rintro e we ⟨rfl, he⟩
              go_wp2_with fail
              go_meet
              have hdl := hrd.lt
              refine ⟨?_, (below_grown hq7 gd hq7.size hgw).trans (he.mono (Nat.le_trans hq7.size gd.size))⟩
              rw [HN1.out]
              exact hrd.below he hdl
            · go_wp2_with fail
              refine (bytes_any _ g n _ s hr7 hlq).mono ?_; rintro e wd ⟨A, na, ca, rfl, ho, hrd, gd⟩
              have hbd := hbw wd (Ext.of_grown gd fun k hk => by injection hk with e; exact e.symm)
              have fin : Rd wd g (rdDrop (lb.drop p) n) (rdSh (lb.drop p) n s) ∧ Below w.heap.size w wd := ⟨hrd, below_grown hq7 gd hq7.size hgw⟩
              rcases HW.out with ⟨rfl, hlw, hx3⟩ | ⟨rfl, hlw, hx3⟩
              · rw [← hlw] at ho
                have s1 := run_str ho.bs
                have s2 := run_str hbd
                clear ho hbd hlw HW hbw hx3
                go_wp2_with fail
                go_meet
                exact fin
              · rw [hlw] at ho
                have hna := ho.1
                simp only [List.length_nil] at hna
                subst hna
                clear hlw HW hbw hx3
                go_wp2_with fail
                go_meet
                exact fin
          case rest =>
            obtain ⟨hr8, hq8⟩ := hcut
            rw [← HDP.out] at hr8
            have hle : ((lb.drop p').length : Int) = (nb : Int) - p' := by simp; omega
            have HL := Lib.hid hle
            clear hle
            go_wp2_with fail
            refine (short_any _ g _ _ hr8).mono ?_
            rintro e wf ⟨rfl, rfl⟩
            go_wp2_with fail
            refine (left_any _ g _ _ hr8).mono ?_
            rintro e wf ⟨rfl, rfl⟩
            rw [HL.out]
            go_wp2_with fail
            exact ⟨⟨p', j + 1, rdSh (lb.drop p) n s, hp', by omega, rfl, rfl, by simp, HSP.out, hr8, hq8⟩, by simp [intOf]; omega⟩
    · go_wp2_with fail
      go_ret
      exact ⟨rfl, hq⟩

set_option maxHeartbeats 1000000 in
theorem reads_else (w : World) (B : Option Addr) (nb cb : Nat) (L : Option Addr) (nl cl : Nat) (hn : 200 < nb ∨ 100 < nl) (h1 : nb ≤ 9223372036854775807) (h2 : nl ≤ 9223372036854775807) :
    Calls Try.prog 4 #[.slice B nb cb, .slice L nl cl] w (TruePost w) := by
  go_enter Try.func4, Try.ntmps4
  go_wp2_with fail
  refine (awake_any w).mono ?_
  rintro e w1 ⟨rfl, hb1⟩
  rcases Nat.lt_or_ge 200 nb with h | h
  · go_wp2_with fail
    go_ret
    exact ⟨rfl, hb1⟩
  · have hn' : 100 < nl := by omega
    go_wp2_with fail
    go_ret
    exact ⟨rfl, hb1⟩

theorem reads_walk (w : World) (B : Option Addr) (nb cb : Nat) (lb : List UInt8) (h : BS w w.heap.size B nb cb lb) (L : Option Addr) (nl cl : Nat) (ll : List Int) (h' : IS w w.heap.size L nl cl ll) :
    Calls Try.prog 4 #[.slice B nb cb, .slice L nl cl] w (TruePost w) := by
  by_cases hn : nb ≤ 200 ∧ nl ≤ 100
  · exact reads_in w B nb cb lb h L nl cl ll h' hn.1 hn.2
  · refine reads_else w B nb cb L nl cl (by omega) ?_ ?_
    · have h1 := h.2.1; have h2 := h.2.2.1; unfold maxLen at h2; omega
    · have h1 := h'.2.1; have h2 := h'.2.2.1; unfold maxLen at h2; omega
end Go.Proofs.Ytmdanljnalfkfaa
