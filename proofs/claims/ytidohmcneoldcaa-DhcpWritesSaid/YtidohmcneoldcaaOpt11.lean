/-
  The reference's PutOpts.
-/
import Derived.Test.YtidohmcneoldcaaOpt10
namespace Go.Proofs.Ytidohmcneoldcaa
open Go.RowKit

set_option maxRecDepth 100000 in
set_option maxHeartbeats 2000000 in
theorem rput_any (w : World) (A : Option Addr) (n c : Nat) (l : List Op1) (h : OS w w.heap.size A n c l) (hl : l.length ≤ 1099511627776) (hB : ∀ o ∈ l, o.body.length ≤ 1099511627776) :
    Calls Try.prog 13 #[.slice A n c] w (BytesErrPost w (putO (obs l))) := by
  have hn := h.1
  have HN := Lib.hid hn
  have hnl : n ≤ 1099511627776 := by omega
  clear hn
  go_enter Try.func13, Try.ntmps13
  go_wp2_with fail
  go_loopw [5] (fun i wr => ∃ j : Nat, i = .int .i64 j ∧ j ≤ n ∧ goodTo (obs l) j ∧ Below w.heap.size w wr) (fun i _ => n - (intOf i).toNat)
  case atStart => exact ⟨0, rfl, Nat.zero_le _, goodTo_zero _, Below.refl _ _⟩
  case round =>
    obtain ⟨j, rfl, hj, hgd, hq⟩ := hrel
    have zq := hq.size
    by_cases hlt : j < n
    · obtain ⟨b, o, x, rfl, hbl, hx, h0, h1, hbs⟩ := (h.below hq).at_ hlt
      have hjn : (0 : Int) ≤ (j : Int) ∧ (j : Int) < (n : Int) := ⟨by omega, by omega⟩
      have HX : Hid ((obs l)[j]? = some x.ob) := Lib.hid (by rw [obs_get, hx]; rfl)
      have HS := Lib.hid (goodTo_succ (obs l) j x.ob HX.out)
      clear hx
      by_cases hlo : x.code ≤ 0
      · have HP : Hid (putO (obs l) = ([], 1)) := Lib.hid (if_neg (goodTo_less (obs l) (j + 1) fun e => by have := (HS.out.1 e).2.1.1; simp only [Op1.ob] at this; omega))
        have hlo' : x.code < 1 := by omega
        go_wp2_with fail
        go_ret2
        rw [HP.out]
        exact ⟨none, 0, 0, rfl, OB.nil_ _ _, hq⟩
      by_cases hhi : 254 < x.code
      · have HP : Hid (putO (obs l) = ([], 1)) := Lib.hid (if_neg (goodTo_less (obs l) (j + 1) fun e => by have := (HS.out.1 e).2.1.2; simp only [Op1.ob] at this; omega))
        go_wp2_with fail
        go_ret2
        rw [HP.out]
        exact ⟨none, 0, 0, rfl, OB.nil_ _ _, hq⟩
      have hlo' : ¬ x.code < 1 := by omega
      obtain ⟨wo, rfl⟩ : ∃ wo : World, wo = wr := ⟨_, rfl⟩
      go_wp2_with fail
      go_loopw [6] (fun kv wr => ∃ k : Nat, kv = .int .i64 k ∧ k ≤ j ∧ (∀ i y, i < k → (obs l)[i]? = some y → y.1 ≠ x.code) ∧ Below w.heap.size w wr) (fun kv _ => j - (intOf kv).toNat)
      case atStart => exact ⟨0, rfl, Nat.zero_le _, fun i y hi => by omega, hq⟩
      case round =>
        obtain ⟨k, rfl, hk, hun, hq2⟩ := hrel
        have HU := Lib.hid hun
        have zq2 := hq2.size
        clear hun h0 h1 hbs
        obtain ⟨b1, o1, x1, e1, hbl1, hx1, h01, h11, hbs1⟩ := (h.below hq2).at_ hlt
        injection e1 with e1
        injection e1 with e2 e3
        subst e2 e3
        have hx1e : x1.ob = x.ob := by have := HX.out; rw [obs_get, hx1] at this; injection this
        have hxc : x1.code = x.code := congrArg Prod.fst hx1e
        rw [hxc] at h01
        by_cases hkj : k < j
        · obtain ⟨b2, o2, y, e1, hbl2, hy, h02, h12, hbs2⟩ := (h.below hq2).at_ (j := k) (by omega)
          injection e1 with e1
          injection e1 with e2 e3
          subst e2 e3
          have HY : Hid ((obs l)[k]? = some y.ob) := Lib.hid (by rw [obs_get, hy]; rfl)
          have hkn : (0 : Int) ≤ (k : Int) ∧ (k : Int) < (n : Int) := ⟨by omega, by omega⟩
          have g0 := Ext.cell (w := wr.drew) (M := fun k => w.heap.size ≤ k) h01 (by omega)
          have g1 := Ext.cell (w := wr.drew) (M := fun k => w.heap.size ≤ k) h02 (by omega)
          clear h01 h02 h11 h12 hbs1 hbs2 hx1e hxc hy hx1
          by_cases hcc : y.code = x.code
          · have htc : (y.code == x.code) = true := beq_iff_eq.2 hcc
            have HP : Hid (putO (obs l) = ([], 1)) := Lib.hid (if_neg (goodTo_less (obs l) (j + 1) fun e => (HS.out.1 e).2.2 k y.ob hkj HY.out hcc))
            clear hcc
            go_wp2_with fail
            refine rg_begin (fun k => w.heap.size ≤ k) (by kernel_rfl) ?_
            refine rg_take (v := ?_) 0 rfl (by kernel_rfl) (by kernel_rfl) (by kernel_rfl) (fun _ _ _ h => h) (by rfl) ?_ ?_; rotate_left
            · (intro x hx; go_simp; first | done | with_reducible rfl | (rw [if_pos (by omega)]; try with_reducible rfl))
            try simp only [Act.put, List.setIfInBounds_toArray, List.set_cons_zero, List.set_cons_succ]
            refine rg_take (v := ?_) 1 rfl (by kernel_rfl) (by kernel_rfl) (by kernel_rfl) (fun _ _ _ h => h) (by rfl) ?_ ?_; rotate_left
            · (intro x hx; go_simp; first | done | with_reducible rfl | (rw [if_pos (by omega)]; try with_reducible rfl))
            try simp only [Act.put, List.setIfInBounds_toArray, List.set_cons_zero, List.set_cons_succ]
            refine rg_take (v := ?_) 2 rfl (by kernel_rfl) (by kernel_rfl) (by kernel_rfl) (fun _ _ _ h => h) (by rfl) ?_ ?_; rotate_left
            · (intro x hx; go_simp; first | done | with_reducible rfl | (rw [if_pos (by omega)]; try with_reducible rfl))
            try simp only [Act.put, List.setIfInBounds_toArray, List.set_cons_zero, List.set_cons_succ]
            refine rg_take (v := ?_) 3 rfl (by kernel_rfl) (by kernel_rfl) (by kernel_rfl) (fun _ _ _ h => h) (by rfl) ?_ ?_; rotate_left
            · (intro x hx; go_simp; first | done | with_reducible rfl | (rw [if_pos (by omega)]; try with_reducible rfl))
            try simp only [Act.put, List.setIfInBounds_toArray, List.set_cons_zero, List.set_cons_succ]
            refine rg_take (v := ?_) 4 rfl (by kernel_rfl) (by kernel_rfl) (by kernel_rfl) (fun _ _ _ h => h) (by rfl) ?_ ?_; rotate_left
            · (intro x hx; go_simp; first | done | with_reducible rfl | (rw [if_pos (by omega)]; try with_reducible rfl))
            try simp only [Act.put, List.setIfInBounds_toArray, List.set_cons_zero, List.set_cons_succ]
            refine rg_take (v := ?_) 5 rfl (by kernel_rfl) (by kernel_rfl) (by kernel_rfl) (fun _ _ _ h => h) (by rfl) ?_ ?_; rotate_left
            · (intro x hx; go_simp; first | done | with_reducible rfl | (rw [if_pos (by omega)]; try with_reducible rfl))
            try simp only [Act.put, List.setIfInBounds_toArray, List.set_cons_zero, List.set_cons_succ]
            refine rg_take (v := ?_) 6 rfl (by kernel_rfl) (by kernel_rfl) (by kernel_rfl) (fun _ _ _ h => h) (by rfl) ?_ ?_; rotate_left
            · (intro x hx; go_simp; first | done | with_reducible rfl | (rw [if_pos (by omega)]; try with_reducible rfl))
            try simp only [Act.put, List.setIfInBounds_toArray, List.set_cons_zero, List.set_cons_succ]
            refine rg_take (v := ?_) 7 rfl (by kernel_rfl) (by kernel_rfl) (by kernel_rfl) (fun _ _ _ h => h) (by rfl) ?_ ?_; rotate_left
            · (intro x hx; go_simp; first | done | with_reducible rfl | (rw [if_pos (by omega)]; try with_reducible rfl))
            try simp only [Act.put, List.setIfInBounds_toArray, List.set_cons_zero, List.set_cons_succ]
            refine rg_take (v := ?_) 8 rfl (by kernel_rfl) (by kernel_rfl) (by kernel_rfl) (fun _ _ _ h => h) (by rfl) ?_ ?_; rotate_left
            · (intro x hx; go_simp; first | done | with_reducible rfl | (rw [if_pos (by omega)]; try with_reducible rfl))
            try simp only [Act.put, List.setIfInBounds_toArray, List.set_cons_zero, List.set_cons_succ]
            refine rg_take (v := ?_) 9 rfl (by kernel_rfl) (by kernel_rfl) (by kernel_rfl) (fun _ _ _ h => h) (by rfl) ?_ ?_; rotate_left
            · (intro x hx; go_simp; first | done | with_reducible rfl | (rw [if_pos (by omega)]; try with_reducible rfl))
            try simp only [Act.put, List.setIfInBounds_toArray, List.set_cons_zero, List.set_cons_succ]
            refine rg_take (v := ?_) 10 rfl (by kernel_rfl) (by kernel_rfl) (by kernel_rfl) (fun _ _ _ h => h) (by rfl) ?_ ?_; rotate_left
            · (intro x hx; go_simp; first | done | with_reducible rfl | (rw [if_pos (by omega)]; try with_reducible rfl))
            try simp only [Act.put, List.setIfInBounds_toArray, List.set_cons_zero, List.set_cons_succ]
            refine rg_done (by kernel_rfl) ?_
            go_wp2_with fail
            go_ret2
            rw [HP.out]
            exact ⟨none, 0, 0, rfl, OB.nil_ _ _, hq2.drew⟩
          · have htc : (y.code == x.code) = false := beq_eq_false_iff_ne.2 hcc
            have HC := Lib.hid hcc
            clear hcc
            go_wp2_with fail
            refine rg_begin (fun k => w.heap.size ≤ k) (by kernel_rfl) ?_
            refine rg_take (v := ?_) 0 rfl (by kernel_rfl) (by kernel_rfl) (by kernel_rfl) (fun _ _ _ h => h) (by rfl) ?_ ?_; rotate_left
            · (intro x hx; go_simp; first | done | with_reducible rfl | (rw [if_pos (by omega)]; try with_reducible rfl))
            try simp only [Act.put, List.setIfInBounds_toArray, List.set_cons_zero, List.set_cons_succ]
            refine rg_take (v := ?_) 1 rfl (by kernel_rfl) (by kernel_rfl) (by kernel_rfl) (fun _ _ _ h => h) (by rfl) ?_ ?_; rotate_left
            · (intro x hx; go_simp; first | done | with_reducible rfl | (rw [if_pos (by omega)]; try with_reducible rfl))
            try simp only [Act.put, List.setIfInBounds_toArray, List.set_cons_zero, List.set_cons_succ]
            refine rg_take (v := ?_) 2 rfl (by kernel_rfl) (by kernel_rfl) (by kernel_rfl) (fun _ _ _ h => h) (by rfl) ?_ ?_; rotate_left
            · (intro x hx; go_simp; first | done | with_reducible rfl | (rw [if_pos (by omega)]; try with_reducible rfl))
            try simp only [Act.put, List.setIfInBounds_toArray, List.set_cons_zero, List.set_cons_succ]
            refine rg_take (v := ?_) 3 rfl (by kernel_rfl) (by kernel_rfl) (by kernel_rfl) (fun _ _ _ h => h) (by rfl) ?_ ?_; rotate_left
            · (intro x hx; go_simp; first | done | with_reducible rfl | (rw [if_pos (by omega)]; try with_reducible rfl))
            try simp only [Act.put, List.setIfInBounds_toArray, List.set_cons_zero, List.set_cons_succ]
            refine rg_take (v := ?_) 4 rfl (by kernel_rfl) (by kernel_rfl) (by kernel_rfl) (fun _ _ _ h => h) (by rfl) ?_ ?_; rotate_left
            · (intro x hx; go_simp; first | done | with_reducible rfl | (rw [if_pos (by omega)]; try with_reducible rfl))
            try simp only [Act.put, List.setIfInBounds_toArray, List.set_cons_zero, List.set_cons_succ]
            refine rg_take (v := ?_) 5 rfl (by kernel_rfl) (by kernel_rfl) (by kernel_rfl) (fun _ _ _ h => h) (by rfl) ?_ ?_; rotate_left
            · (intro x hx; go_simp; first | done | with_reducible rfl | (rw [if_pos (by omega)]; try with_reducible rfl))
            try simp only [Act.put, List.setIfInBounds_toArray, List.set_cons_zero, List.set_cons_succ]
            refine rg_take (v := ?_) 6 rfl (by kernel_rfl) (by kernel_rfl) (by kernel_rfl) (fun _ _ _ h => h) (by rfl) ?_ ?_; rotate_left
            · (intro x hx; go_simp; first | done | with_reducible rfl | (rw [if_pos (by omega)]; try with_reducible rfl))
            try simp only [Act.put, List.setIfInBounds_toArray, List.set_cons_zero, List.set_cons_succ]
            refine rg_take (v := ?_) 7 rfl (by kernel_rfl) (by kernel_rfl) (by kernel_rfl) (fun _ _ _ h => h) (by rfl) ?_ ?_; rotate_left
            · (intro x hx; go_simp; first | done | with_reducible rfl | (rw [if_pos (by omega)]; try with_reducible rfl))
            try simp only [Act.put, List.setIfInBounds_toArray, List.set_cons_zero, List.set_cons_succ]
            refine rg_take (v := ?_) 8 rfl (by kernel_rfl) (by kernel_rfl) (by kernel_rfl) (fun _ _ _ h => h) (by rfl) ?_ ?_; rotate_left
            · (intro x hx; go_simp; first | done | with_reducible rfl | (rw [if_pos (by omega)]; try with_reducible rfl))
            try simp only [Act.put, List.setIfInBounds_toArray, List.set_cons_zero, List.set_cons_succ]
            refine rg_take (v := ?_) 9 rfl (by kernel_rfl) (by kernel_rfl) (by kernel_rfl) (fun _ _ _ h => h) (by rfl) ?_ ?_; rotate_left
            · (intro x hx; go_simp; first | done | with_reducible rfl | (rw [if_pos (by omega)]; try with_reducible rfl))
            try simp only [Act.put, List.setIfInBounds_toArray, List.set_cons_zero, List.set_cons_succ]
            refine rg_take (v := ?_) 10 rfl (by kernel_rfl) (by kernel_rfl) (by kernel_rfl) (fun _ _ _ h => h) (by rfl) ?_ ?_; rotate_left
            · (intro x hx; go_simp; first | done | with_reducible rfl | (rw [if_pos (by omega)]; try with_reducible rfl))
            try simp only [Act.put, List.setIfInBounds_toArray, List.set_cons_zero, List.set_cons_succ]
            refine rg_done (by kernel_rfl) ?_
            go_wp2_with fail
            go_roundw
            case rel =>
              refine ⟨k + 1, by go_num, by omega, fun i z hi hz => ?_, hq2.drew⟩
              rcases Nat.lt_or_ge i k with h1 | h1
              · exact HU.out i z h1 hz
              · have : i = k := by omega
                subst this
                rw [HY.out] at hz
                injection hz with hz
                rw [← hz]
                exact HC.out
            case measure => simp [intOf]; omega
        · have hke : k = j := by omega
          have HG := Lib.hid (HS.out.2 ⟨hgd, ⟨by simp only [Op1.ob]; omega, by simp only [Op1.ob]; omega⟩, by rw [← hke]; exact HU.out⟩)
          clear hke h01 h11 hbs1 hx1e hxc hx1
          go_wp2_with fail
          go_roundw
          case rel => exact ⟨j + 1, by go_num, by omega, HG.out, hq2⟩
          case measure => simp [intOf]; omega
    · have hje : l.length ≤ j := by have := HN.out; omega
      have HG := Lib.hid ((goodTo_all (obs l) j (by rw [obs_length]; exact hje)).1 hgd)
      clear hje hgd
      obtain ⟨w0, rfl⟩ : ∃ w0 : World, w0 = wr := ⟨_, rfl⟩
      go_wp2_with fail
      go_loopw [4, 7] (fun bv iv wr => ∃ (Ab : Option Addr) (nb cb : Nat) (lb : List UInt8) (i : Nat), bv = .slice Ab nb cb ∧ iv = .int .i64 i ∧ i ≤ n ∧ OB wr w.heap.size Ab nb cb lb ∧ lb ++ allO ((obs l).drop i) = allO (obs l) ∧ lb.length ≤ 1200 ∧ Below w.heap.size w wr) (fun _ iv _ => n - (intOf iv).toNat)
      case atStart => exact ⟨none, 0, 0, [], 0, rfl, rfl, Nat.zero_le _, OB.nil_ _ _, rfl, by simp, hq⟩
      case round =>
        obtain ⟨Ab, nb, cb, lb, i, rfl, rfl, hi, hob, hall, hbl, hq2⟩ := hrel
        have HA := Lib.hid hall
        have zq2 := hq2.size
        clear hall
        by_cases hlt2 : i < n
        · obtain ⟨b, o, x, rfl, hbb, hx, h0, h1, hbs⟩ := (h.below hq2).at_ hlt2
          have hin : (0 : Int) ≤ (i : Int) ∧ (i : Int) < (n : Int) := ⟨by omega, by omega⟩
          have HD := Lib.hid (allO_drop (obs l) i x.ob (by rw [obs_get, hx]; rfl))
          have hxl : x.body.length ≤ 1099511627776 := hB x (List.mem_of_getElem? hx)
          clear hx
          obtain ⟨w1, rfl⟩ : ∃ w1 : World, w1 = wr := ⟨_, rfl⟩
          go_wp2_with fail
          go_loopw [4, 8, 9] (fun bv rv fv wr => ∃ (Ab : Option Addr) (nb cb : Nat) (lb : List UInt8) (Ar : Option Addr) (nr cr : Nat) (r : List UInt8) (first : Bool), bv = .slice Ab nb cb ∧ rv = .slice Ar nr cr ∧ fv = .bool first ∧
              OB wr w.heap.size Ab nb cb lb ∧ BS wr w.heap.size Ar nr cr r ∧ r.length ≤ 1099511627776 ∧ lb ++ (leftP first (byteN x.code) r ++ allO ((obs l).drop (i + 1))) = allO (obs l) ∧ lb.length ≤ 1200 ∧
              wr.cell? ⟨b, o + i * 2, none⟩ = some (.int .i64 x.code) ∧ Below w.heap.size w wr)
            (fun _ rv fv _ => (match rv with | .slice _ n _ => n | _ => 0) + (match fv with | .bool true => 1 | _ => 0))
          case atStart => exact ⟨Ab, nb, cb, lb, x.A, x.n, x.c, x.body, true, rfl, rfl, rfl, hob, hbs, hxl, by rw [HA.out.symm, HD.out]; rfl, hbl, h0, hq2⟩
          case round =>
            clear h0 h1 hbs hob hbl zq2 HA
            obtain ⟨Ab, nb, cb, lb, Ar, nr, cr, r, first, rfl, rfl, rfl, hob, hbs, hrl, hall, hbl, hg, hq3⟩ := hrel
            have HA := Lib.hid hall
            have zq3 := hq3.size
            have hnr := hbs.1
            have HNR := Lib.hid hnr
            have hnrl : nr ≤ 1099511627776 := by omega
            clear hall hnr
            by_cases hgo : first = true ∨ 0 < nr
            · have HL := Lib.hid (leftP_step first (byteN x.code) r (hgo.imp_right fun h e => by rw [e] at HNR; have := HNR.out; simp at this; omega))
              have hpm : 1 ≤ nr + first.toNat := by
                rcases hgo with h | h
                · rw [h]; exact Nat.le_add_left _ _
                · omega
              clear hgo
              rcases first with _ | _
              all_goals
                simp only [Bool.toNat_true, Bool.toNat_false] at hpm
                go_upto_if 67 with fail
                go_cut [10] (fun v wx => v = .int .i64 (min nr 255 : Nat) ∧ wx = wr)
                case first =>
                  by_cases hbig : nr ≤ 255
                  · have E1 : Hid (((nr : Nat) : Int) = ((min nr 255 : Nat) : Int)) := Lib.hid (by omega)
                    go_wp2_with fail
                    go_meet
                    exact ⟨by rw [E1.out], rfl⟩
                  · have E1 : Hid (((255 : Int)) = ((min nr 255 : Nat) : Int)) := Lib.hid (by omega)
                    go_wp2_with fail
                    go_meet
                    exact ⟨by rw [E1.out], rfl⟩
                case rest =>
                  obtain ⟨rfl, rfl⟩ := hcut
                  obtain ⟨m, hm⟩ : ∃ m, min nr 255 = m := ⟨_, rfl⟩
                  rw [hm]
                  have hmb : m ≤ 255 ∧ m ≤ nr := ⟨by omega, by omega⟩
                  have HM := Lib.hid hm
                  clear hm
                  go_upto_region 22 with fail
                  have g0 := Ext.cell (w := wc.drew) (M := fun k => w.heap.size ≤ k) hg (by omega)
                  have hrc : nr ≤ cr := hbs.2.1
                  refine rg_begin (fun k => w.heap.size ≤ k) (by kernel_rfl) ?_
                  refine rg_take (v := ?_) 0 rfl (by kernel_rfl) (by kernel_rfl) (by kernel_rfl) (fun _ _ _ h => h) (by rfl) ?_ ?_; rotate_left
                  · (intro x hx; go_simp; first | done | with_reducible rfl | (rw [if_pos (by omega)]; try with_reducible rfl))
                  try simp only [Act.put, List.setIfInBounds_toArray, List.set_cons_zero, List.set_cons_succ]
                  refine rg_take (v := ?_) 1 rfl (by kernel_rfl) (by kernel_rfl) (by kernel_rfl) (fun _ _ _ h => h) (by rfl) ?_ ?_; rotate_left
                  · (intro x hx; go_simp; first | done | with_reducible rfl | (rw [if_pos (by omega)]; try with_reducible rfl))
                  try simp only [Act.put, List.setIfInBounds_toArray, List.set_cons_zero, List.set_cons_succ]
                  refine rg_take (v := ?_) 2 rfl (by kernel_rfl) (by kernel_rfl) (by kernel_rfl) (fun _ _ _ h => h) (by rfl) ?_ ?_; rotate_left
                  · (intro x hx; go_simp; first | done | with_reducible rfl | (rw [if_pos (by omega)]; try with_reducible rfl))
                  try simp only [Act.put, List.setIfInBounds_toArray, List.set_cons_zero, List.set_cons_succ]
                  refine rg_take (v := ?_) 3 rfl (by kernel_rfl) (by kernel_rfl) (by kernel_rfl) (fun _ _ _ h => h) (by rfl) ?_ ?_; rotate_left
                  · (intro x hx; go_simp; first | done | with_reducible rfl | (rw [if_pos (by omega)]; try with_reducible rfl))
                  try simp only [Act.put, List.setIfInBounds_toArray, List.set_cons_zero, List.set_cons_succ]
                  refine rg_take (v := ?_) 4 rfl (by kernel_rfl) (by kernel_rfl) (by kernel_rfl) (fun _ _ _ h => h) (by rfl) ?_ ?_; rotate_left
                  · (intro x hx; go_simp; first | done | with_reducible rfl | (rw [if_pos (by omega)]; try with_reducible rfl))
                  try simp only [Act.put, List.setIfInBounds_toArray, List.set_cons_zero, List.set_cons_succ]
                  refine rg_take (v := ?_) 5 rfl (by kernel_rfl) (by kernel_rfl) (by kernel_rfl) (fun _ _ _ h => h) (by rfl) ?_ ?_; rotate_left
                  · (intro x hx; go_simp; first | done | with_reducible rfl | (rw [if_pos (by omega)]; try with_reducible rfl))
                  try simp only [Act.put, List.setIfInBounds_toArray, List.set_cons_zero, List.set_cons_succ]
                  refine rg_take (v := ?_) 6 rfl (by kernel_rfl) (by kernel_rfl) (by kernel_rfl) (fun _ _ _ h => h) (by rfl) ?_ ?_; rotate_left
                  · (intro x hx; go_simp; first | done | with_reducible rfl | (rw [if_pos (by omega)]; try with_reducible rfl))
                  try simp only [Act.put, List.setIfInBounds_toArray, List.set_cons_zero, List.set_cons_succ]
                  refine rg_take (v := ?_) 7 rfl (by kernel_rfl) (by kernel_rfl) (by kernel_rfl) (fun _ _ _ h => h) (by rfl) ?_ ?_; rotate_left
                  · (intro x hx; go_simp; first | done | with_reducible rfl | (rw [if_pos (by omega)]; try with_reducible rfl))
                  try simp only [Act.put, List.setIfInBounds_toArray, List.set_cons_zero, List.set_cons_succ]
                  refine rg_take (v := ?_) 8 rfl (by kernel_rfl) (by kernel_rfl) (by kernel_rfl) (fun _ _ _ h => h) (by rfl) ?_ ?_; rotate_left
                  · (intro x hx; go_simp; first | done | with_reducible rfl | (rw [if_pos (by omega)]; try with_reducible rfl))
                  try simp only [Act.put, List.setIfInBounds_toArray, List.set_cons_zero, List.set_cons_succ]
                  refine rg_take (v := ?_) 11 rfl (by kernel_rfl) (by kernel_rfl) (by kernel_rfl) (fun _ _ _ h => h) (by rfl) ?_ ?_; rotate_left
                  · (intro x hx; go_simp; first | done | with_reducible rfl | (rw [if_pos (by omega)]; try with_reducible rfl))
                  try simp only [Act.put, List.setIfInBounds_toArray, List.set_cons_zero, List.set_cons_succ]
                  refine rg_take (v := ?_) 12 rfl (by kernel_rfl) (by kernel_rfl) (by kernel_rfl) (fun _ _ _ h => h) (by rfl) ?_ ?_; rotate_left
                  · (intro x hx; go_simp; first | done | with_reducible rfl | (rw [if_pos (by omega)]; try with_reducible rfl))
                  try simp only [Act.put, List.setIfInBounds_toArray, List.set_cons_zero, List.set_cons_succ]
                  refine rg_take (v := ?_) 13 rfl (by kernel_rfl) (by kernel_rfl) (by kernel_rfl) (fun _ _ _ h => h) (by rfl) ?_ ?_; rotate_left
                  · (intro x hx; go_simp; first | done | with_reducible rfl | (rw [if_pos (by omega)]; try with_reducible rfl))
                  try simp only [Act.put, List.setIfInBounds_toArray, List.set_cons_zero, List.set_cons_succ]
                  refine rg_step 9 rfl (by kernel_rfl) (by rfl) (fun K hK => ?_)
                  go_simp
                  refine hK.out _ _ ((Ext.refl _ _).alloc _) ?_
                  clear hK K; try simp only [Act.put, List.setIfInBounds_toArray, List.set_cons_zero, List.set_cons_succ]
                  refine rg_step 10 rfl (by kernel_rfl) (by rfl) (fun K hK => ?_)
                  refine wp_app8 _ _ 24 24 rfl w.heap.size Ab nb cb lb rfl (hob.drew.alloc _) _ _ 2 2 [bN x.code, bN m] rfl (BS.block [bN x.code, bN m] (heap_alloc_new wc.drew _) (by simp [bv, bN_val, IntKind.wrap_u8]) (by simp [maxLen])) (by simp; omega) (by simp; omega) ?_
                  intro A6 n6 c6 w6 ho6 hb6 hg6
                  have hz6 := hb6.size
                  refine hK.out _ _ (Ext.of_below _ hb6 fun k hk _ => hk) ?_
                  clear hK K; try simp only [Act.put, List.setIfInBounds_toArray, List.set_cons_zero, List.set_cons_succ]
                  refine rg_step 14 rfl (by kernel_rfl) (by rfl) (fun K hK => ?_)
                  refine wp_app8 _ _ 24 24 rfl w.heap.size A6 n6 c6 _ rfl ho6 w.heap.size _ m _ (r.take m) rfl ((((hbs.drew.alloc (by simp; omega) _).below hb6).take hmb.2 _ (by omega) (by have := hbs.2.2.1; omega))) (by simp; omega) (by simp at hz6; omega) ?_
                  intro A7 n7 c7 w7 ho7 hb7 hg7
                  refine hK.out _ _ (Ext.of_below _ hb7 fun k hk _ => hk) ?_
                  clear hK K; try simp only [Act.put, List.setIfInBounds_toArray, List.set_cons_zero, List.set_cons_succ]
                  refine rg_take (v := ?_) 15 rfl (by kernel_rfl) (by kernel_rfl) (by kernel_rfl) (fun _ _ _ h => h) (by rfl) ?_ ?_; rotate_left
                  · (intro x hx; go_simp; first | done | with_reducible rfl | (rw [if_pos (by omega)]; try with_reducible rfl))
                  try simp only [Act.put, List.setIfInBounds_toArray, List.set_cons_zero, List.set_cons_succ]
                  refine rg_done (by kernel_rfl) ?_
                  have hq7 : Below w.heap.size w w7 := ((hq3.drew.alloc zq3 _).trans hb6).trans hb7
                  have hbs7 : BS w7 w.heap.size Ar nr cr r := ((hbs.drew.alloc (by simp; omega) _).below hb6).below hb7
                  have G7 : w7.cell? ⟨b, o + i * 2, none⟩ = some (.int .i64 x.code) := (World.cell?_of_block (a := ⟨b, o + i * 2, none⟩) (((((Below.refl w.heap.size wc).drew.alloc zq3 _).trans hb6).trans hb7).block b hbb)).trans hg
                  have hd7 := hbs7.drop hmb.2
                  obtain ⟨Ak, hAk⟩ : ∃ Ak, (if cr = m then Ar else Option.map (fun x => x.add m) Ar) = Ak := ⟨_, rfl⟩
                  rw [hAk] at hd7
                  have hn7 := ho7.1
                  have HN7 := Lib.hid hn7
                  have HPS : Hid (lb ++ [bN x.code, bN m] ++ r.take m ++ (leftP false (byteN x.code) (r.drop m) ++ allO ((obs l).drop (i + 1))) = allO (obs l)) := Lib.hid (by
                    rw [← HA.out, HL.out]
                    have e1 : r.take m = r.take 255 := by
                      rcases Nat.lt_or_ge r.length 255 with h1 | h1
                      · rw [List.take_of_length_le (by have := HM.out; have := HNR.out; omega), List.take_of_length_le (by omega)]
                      · rw [show m = 255 by have := HM.out; have := HNR.out; omega]
                    have e2 : r.drop m = r.drop 255 := by
                      rcases Nat.lt_or_ge r.length 255 with h1 | h1
                      · rw [List.drop_eq_nil_of_le (by have := HM.out; have := HNR.out; omega), List.drop_eq_nil_of_le (by omega)]
                      · rw [show m = 255 by have := HM.out; have := HNR.out; omega]
                    have e3 : bN m = UInt8.ofNat (min r.length 255) := by
                      rw [← HNR.out, HM.out]
                      show UInt8.ofNat ((m : Int) % 256).toNat = _
                      congr 1
                      omega
                    rw [e1, e2, e3]
                    simp [byteN, bN])
                  have hmr : r.length - m ≤ 1099511627776 := by omega
                  have HMM := Lib.hid HM.out
                  clear hg6 hb6 hg7 hb7 ho6 hob hg hn7 hbs hbs7 g0 hq3
                  by_cases hbig : 1200 < n7
                  · have HP : Hid (putO (obs l) = ([], 2)) := Lib.hid (by
                      rw [putO, if_pos HG.out, if_pos]
                      have h1 := congrArg List.length HPS.out
                      have h2 := HN7.out
                      rw [List.length_append] at h1
                      omega)
                    go_wp2_with fail
                    go_ret2
                    rw [HP.out]
                    exact ⟨none, 0, 0, rfl, OB.nil_ _ _, hq7⟩
                  · go_wp2_with fail
                    go_roundw
                    case rel => exact ⟨A7, n7, c7, _, Ak, nr - m, cr - m, r.drop m, false, rfl, rfl, rfl, ho7, hd7, by simp; omega, HPS.out, by have := HN7.out; omega, G7, hq7⟩
                    case measure => have := HMM.out; simp; omega
            · have hff : first = false := by rcases first with _ | _; rfl; exact absurd (.inl rfl) hgo
              subst hff
              have hr0 : nr = 0 := by omega
              have hre : r = [] := List.eq_nil_of_length_eq_zero (by have := HNR.out; omega)
              have HA2 : Hid (lb ++ allO ((obs l).drop (i + 1)) = allO (obs l)) := Lib.hid (by rw [← HA.out, hre]; rfl)
              have hnp : ¬ (0 < nr) := by omega
              clear hgo hr0 hre
              go_wp2_with fail
              go_roundw
              case rel => exact ⟨Ab, nb, cb, lb, i + 1, rfl, by go_num, by omega, hob, HA2.out, hbl, hq3⟩
              case measure => simp [intOf]; omega
        · have hdn : (obs l).drop i = [] := List.drop_eq_nil_of_le (by rw [obs_length]; have := HN.out; omega)
          have HL2 : Hid (lb = allO (obs l)) := Lib.hid (by rw [← HA.out, hdn]; simp [allO])
          have hnb := hob.1
          have HNB := Lib.hid hnb
          have hnbl : nb ≤ 1200 := by omega
          clear hdn hnb
          by_cases hbig : 1199 < nb
          · have HP : Hid (putO (obs l) = ([], 2)) := Lib.hid (by
              rw [putO, if_pos HG.out, if_pos]
              have h1 := congrArg List.length HL2.out
              have h2 := HNB.out
              omega)
            go_wp2_with fail
            go_ret2
            rw [HP.out]
            exact ⟨none, 0, 0, rfl, OB.nil_ _ _, hq2⟩
          · have HP : Hid (putO (obs l) = (lb ++ [255], 0)) := Lib.hid (by
              rw [putO, if_pos HG.out, if_neg, HL2.out]
              have h1 := congrArg List.length HL2.out
              have h2 := HNB.out
              omega)
            go_wp2_with (at_builtin; go_must (refine app8 rfl _ _ rfl w.heap.size Ab nb cb lb rfl (hob.alloc _) _ _ 1 1 [255] rfl (BS.block [255] (heap_alloc_new wr _) rfl (by simp [maxLen])) (by simp; omega) (by simp; omega) ?_))
            intro A7 n7 c7 w7 ho7 hb7 hg7
            have hq7 := (hq2.alloc zq2 (.cells #[.int .u8 255] 5)).trans hb7
            clear hb7 hg7
            go_wp2_with fail
            go_ret2
            rw [HP.out]
            exact ⟨A7, n7, c7, rfl, ho7, hq7⟩
end Go.Proofs.Ytidohmcneoldcaa
