/-
  The reference's GetOpts.
-/
import Derived.Test.YtidohmcneoldcaaOpt7
import Derived.Test.YtidohmcneoldcaaAt
namespace Go.Proofs.Ytidohmcneoldcaa
open Go.RowKit

set_option maxHeartbeats 400000 in
theorem copied_any (w : World) (A : Option Addr) (n c : Nat) (b : List UInt8) (h : BS w w.heap.size A n c b) (hl : b.length ≤ 1099511627776) :
    Calls Try.prog 40 #[.slice A n c] w (OwnPost w b) := by
  go_enter Try.func40, Try.ntmps40
  go_wp2_with (at_builtin; go_must (refine app8 rfl _ _ rfl w.heap.size _ 0 0 [] rfl (OB.empty w _ _ _ rfl (Nat.le_refl _) rfl) w.heap.size A n c b rfl (h.alloc (Nat.le_refl _) _) (by simp; omega) (by simp) ?_))
  intro A' n' c' w1 ho hb _
  go_wp2_with fail
  go_ret
  exact ⟨A', n', c', rfl, ho, ((Below.refl _ w).alloc (Nat.le_refl _) _).trans hb⟩

theorem run_slice8 (W : World) (A : Option Addr) (n c lo hi : Nat) (h1 : lo ≤ hi) (h2 : hi ≤ c) :
    (Instr.slice 24 (.slice A n c) (some (.int .i64 (lo : Int))) (some (.int .i64 (hi : Int))) none).run Try.prog W = .ok (.slice (if c = lo then A else A.map (·.add lo)) (hi - lo) (c - lo)) W := by
  obtain ⟨i0, hi0, hz0, hz1, hz2⟩ := info_parts infoU8
  have he : Try.prog.elem 24 = 5 := by kernel_rfl
  rw [run_slice_lh _ _ _ _ _ (by rw [he]; exact Try.underlying24) _ _ _ _ (by omega) (by omega) (by omega), he]
  simp [sizeOf, typeInfo, hi0, hz1, sliced, Result.andThen]
/-- What the reference's inner loop has done after i rounds. -/
def jTo (l : List Ob) (c : Int) (b : List UInt8) (i : Nat) : List Ob := (l.take i).map (fun o => if o.1 = c then (o.1, o.2 ++ b) else o) ++ l.drop i
def fTo (l : List Ob) (c : Int) (i : Nat) : Bool := (l.take i).any (fun o => o.1 == c)
theorem jTo_zero (l : List Ob) (c : Int) (b : List UInt8) : jTo l c b 0 = l := rfl
theorem jTo_all (l : List Ob) (c : Int) (b : List UInt8) (i : Nat) (h : l.length ≤ i) : jTo l c b i = l.map (fun o => if o.1 = c then (o.1, o.2 ++ b) else o) := by
  rw [jTo, List.take_of_length_le h, List.drop_eq_nil_of_le h, List.append_nil]
theorem fTo_all (l : List Ob) (c : Int) (i : Nat) (h : l.length ≤ i) : fTo l c i = l.any (fun o => o.1 == c) := by
  rw [fTo, List.take_of_length_le h]
theorem jTo_len (l : List Ob) (c : Int) (b : List UInt8) (i : Nat) : (jTo l c b i).length = l.length := by
  unfold jTo; simp; omega
theorem jTo_no (l : List Ob) (c : Int) (b : List UInt8) (i : Nat) (o : Ob) (h : l[i]? = some o) (hc : o.1 ≠ c) : jTo l c b (i + 1) = jTo l c b i := by
  obtain ⟨hi, rfl⟩ := List.getElem?_eq_some_iff.1 h
  rw [jTo, jTo, List.take_succ_eq_append_getElem hi, List.map_append, List.map_cons, List.map_nil, if_neg hc, List.append_assoc, List.drop_eq_getElem_cons hi]
  rfl
theorem jTo_yes (l : List Ob) (c : Int) (b : List UInt8) (i : Nat) (o : Ob) (h : l[i]? = some o) (hc : o.1 = c) : jTo l c b (i + 1) = (jTo l c b i).set i (o.1, o.2 ++ b) := by
  obtain ⟨hi, rfl⟩ := List.getElem?_eq_some_iff.1 h
  rw [jTo, jTo, List.take_succ_eq_append_getElem hi, List.map_append, List.map_cons, List.map_nil, if_pos hc, List.append_assoc, List.drop_eq_getElem_cons hi]
  rw [List.set_append_right _ _ (by rw [List.length_map, List.length_take]; exact Nat.min_le_left _ _), List.length_map, List.length_take, Nat.min_eq_left (Nat.le_of_lt hi), Nat.sub_self, List.set_cons_zero]
  rfl
theorem jTo_at (l : List Ob) (c : Int) (b : List UInt8) (i : Nat) : (jTo l c b i)[i]? = l[i]? := by
  unfold jTo
  by_cases hi : i < l.length
  · rw [List.getElem?_append_right (by simp; omega)]
    simp [Nat.min_eq_left (Nat.le_of_lt hi)]
  · rw [List.getElem?_eq_none (by simp; omega), List.getElem?_eq_none (by omega)]
theorem fTo_snoc (l : List Ob) (c : Int) (i : Nat) (o : Ob) (h : l[i]? = some o) : fTo l c (i + 1) = (fTo l c i || o.1 == c) := by
  obtain ⟨hi, rfl⟩ := List.getElem?_eq_some_iff.1 h
  rw [fTo, fTo, List.take_succ_eq_append_getElem hi, List.any_append]
  simp
theorem jTo_body (l : List Ob) (c : Int) (b : List UInt8) (i m : Nat) (h : ∀ o ∈ l, o.2.length + b.length ≤ m) : ∀ o ∈ jTo l c b i, o.2.length ≤ m := by
  intro o ho
  rcases List.mem_append.1 ho with ho | ho
  · obtain ⟨x, hx, rfl⟩ := List.mem_map.1 ho
    have := h x (List.mem_of_mem_take hx)
    split
    · simp; omega
    · omega
  · have := h o (List.mem_of_mem_drop ho)
    omega
theorem obs_set (l : List Op1) (i : Nat) (x : Op1) : obs (l.set i x) = (obs l).set i x.ob := List.map_set
theorem obs_get (l : List Op1) (i : Nat) : (obs l)[i]? = (l[i]?).map Op1.ob := List.getElem?_map

def RGetPost (w : World) (r : Option (List Ob)) (e : Ending) (w' : World) : Prop :=
  Below w.heap.size w w' ∧ match r with
  | none => e = .returned (.tuple #[.slice none 0 0, .bool false])
  | some l => ∃ A n c l', e = .returned (.tuple #[.slice A n c, .bool true]) ∧ OO w' w.heap.size 72 A n c l' ∧ obs l' = l

set_option maxRecDepth 100000 in
set_option maxHeartbeats 2000000 in
theorem rget_any (w : World) (A : Option Addr) (n c : Nat) (b : List UInt8) (h : BS w w.heap.size A n c b) (hl : b.length ≤ 1099511627776) :
    Calls Try.prog 19 #[.slice A n c] w (RGetPost w (getO b)) := by
  have hnb := h.1
  have hnl : n ≤ 1099511627776 := by omega
  have HNB := Lib.hid hnb
  have hnc := h.2.1
  clear hnb
  go_enter Try.func19, Try.ntmps19
  go_wp2_with fail
  go_loopw [4, 5] (fun v i wr => ∃ (Al : Option Addr) (nl cl : Nat) (l : List Op1) (k j : Nat), v = .slice Al nl cl ∧ i = .int .i64 j ∧ j ≤ n ∧ OO wr w.heap.size 72 Al nl cl l ∧ (b.drop j).length ≤ k ∧ getF k (b.drop j) (obs l) = getO b ∧
      ((obs l).map (·.1)).Nodup ∧ l.length + (b.drop j).length ≤ b.length ∧ (∀ o ∈ l, o.body.length + (b.drop j).length ≤ b.length) ∧ Below w.heap.size w wr) (fun _ i _ => n - (intOf i).toNat)
  case atStart => exact ⟨none, 0, 0, [], b.length, 0, rfl, rfl, Nat.zero_le _, OO.nil_ _ _ _, by simp, rfl, by simp [obs], by simp, by simp, Below.refl _ _⟩
  case round =>
    obtain ⟨Al, nl, cl, l, k, j, rfl, rfl, hj, hoo, hk, hget, hnd, hln, hbl, hq⟩ := hrel
    have HG := Lib.hid hget
    have HND := Lib.hid hnd
    clear hget hnd
    by_cases hlt : j < n
    · have hjl : j < b.length := by have := HNB.out; omega
      obtain ⟨bb, o, rfl, hbb, hc⟩ := (h.below hq).byte (k := j) hlt
      have D0 := hc j hjl
      have HD := Lib.hid (List.drop_eq_getElem_cons hjl)
      obtain ⟨cd, hcd⟩ : ∃ x, b[j] = x := ⟨_, rfl⟩
      rw [hcd] at D0 HD
      clear hcd
      rcases k with _ | k
      · rw [HD.out] at hk; simp at hk
      replace HG := HG.out
      rw [HD.out, getF_cons] at HG
      have hk' : (b.drop (j + 1)).length ≤ k := by rw [HD.out] at hk; simp at hk ⊢; omega
      have hln1 : l.length + 1 + (b.drop (j + 1)).length ≤ b.length := by rw [HD.out] at hln; simp at hln ⊢; omega
      have hbl1 : ∀ o ∈ l, o.body.length + 1 + (b.drop (j + 1)).length ≤ b.length := fun o ho => by have := hbl o ho; rw [HD.out] at this; simp at this ⊢; omega
      have hcl := cd.toNat_lt
      clear hln hbl hk
      have hji : (0 : Int) ≤ (j : Int) ∧ (j : Int) < (n : Int) := ⟨by omega, by omega⟩
      by_cases h0 : cd = 0
      · rw [if_pos h0] at HG
        replace HG := Lib.hid HG
        have ht0 : ((cd.toNat : Int) == 0) = true := by subst h0; rfl
        clear h0 hc
        go_wp2_with fail
        go_roundw
        case rel => exact ⟨Al, nl, cl, l, k, j + 1, rfl, by go_num, by omega, hoo, hk', HG.out, HND.out, by omega, fun o ho => by have := hbl1 o ho; omega, hq⟩
        case measure => simp [intOf]; omega
      rw [if_neg h0] at HG
      have ht0 : ((cd.toNat : Int) == 0) = false := beq_eq_false_iff_ne.2 fun e => h0 (UInt8.toNat_inj.1 (by have : (0 : UInt8).toNat = 0 := rfl; omega))
      by_cases h255 : cd = 255
      · rw [if_pos h255] at HG
        have ht : ((cd.toNat : Int) == 255) = true := by subst h255; rfl
        replace HG := Lib.hid HG
        clear h0 h255 hc
        go_wp2_with fail
        go_ret2
        exact ⟨hq, by rw [← HG.out]; exact ⟨Al, nl, cl, l, rfl, hoo, rfl⟩⟩
      rw [if_neg h255] at HG
      have ht : ((cd.toNat : Int) == 255) = false := beq_eq_false_iff_ne.2 fun e => h255 (UInt8.toNat_inj.1 (by have : (255 : UInt8).toNat = 255 := rfl; omega))
      clear h0 h255
      by_cases hend : j + 1 = n
      · have hte : ((j : Int) + 1 == (n : Int)) = true := beq_iff_eq.2 (by omega)
        have HN : Hid (getO b = none) := Lib.hid (by rw [← HG, List.drop_eq_nil_of_le (by have := HNB.out; omega)])
        clear HG hc hend
        go_wp2_with fail
        go_ret2
        exact ⟨hq, by rw [HN.out]; rfl⟩
      have hte : ((j : Int) + 1 == (n : Int)) = false := beq_eq_false_iff_ne.2 (by omega)
      have hj1 : j + 1 < b.length := by have := HNB.out; omega
      have D1 := hc (j + 1) hj1
      have HD1 := Lib.hid (List.drop_eq_getElem_cons hj1)
      obtain ⟨m, hcm⟩ : ∃ x, b[j + 1] = x := ⟨_, rfl⟩
      rw [hcm] at D1 HD1
      clear hcm hc
      rw [HD1.out] at HG
      dsimp only at HG
      have hml := m.toNat_lt
      have hdl : (b.drop (j + 1 + 1)).length = b.length - (j + 1 + 1) := List.length_drop
      have hji1 : (0 : Int) ≤ (j : Int) + 1 ∧ (j : Int) + 1 < (n : Int) := ⟨by omega, by omega⟩
      have hjt : ((j : Int) + 1).toNat = j + 1 := by omega
      by_cases hm : m.toNat ≤ (b.drop (j + 1 + 1)).length
      · rw [if_pos hm, List.drop_drop] at HG
        replace HG := Lib.hid HG
        have htm : (m.toNat : Int) ≤ (n : Int) - ((j : Int) + 1) - 1 := by have := HNB.out; omega
        have hsub := (h.drop (k := j + 1 + 1) (by omega)).take (k := m.toNat) (by omega) (c - (j + 1 + 1)) (by omega) (by have := h.2.2.1; omega)
        rw [Option.map_some, Addr.add_lit] at hsub
        obtain ⟨Ax, hAx⟩ : ∃ x, (if c = j + 1 + 1 then some (⟨bb, o, none⟩ : Addr) else some ⟨bb, o + (j + 1 + 1), none⟩) = x := ⟨_, rfl⟩
        have hsl : ∀ W : World, (Instr.slice 24 (.slice (some ⟨bb, o, none⟩) n c) (some (.int .i64 ((j : Int) + 1 + 1))) (some (.int .i64 ((j : Int) + 1 + 1 + (m.toNat : Int)))) none).run Try.prog W = .ok (.slice Ax m.toNat (c - (j + 1 + 1))) W := by
          intro W
          have := run_slice8 W (some ⟨bb, o, none⟩) n c (j + 1 + 1) (j + 1 + 1 + m.toNat) (by omega) (by omega)
          rw [Option.map_some, Addr.add_lit, hAx, show j + 1 + 1 + m.toNat - (j + 1 + 1) = m.toNat by omega] at this
          exact this
        rw [hAx] at hsub
        go_wp2_with fail
        have hbt : (((b.drop (j + 1 + 1)).take m.toNat)).length ≤ 255 := by simp; omega
        have hln2 : l.length + 1 + (b.drop (j + 1 + 1 + m.toNat)).length ≤ b.length := by simp at hln1 ⊢; omega
        have hbl2 : ∀ o ∈ obs l, o.2.length + ((b.drop (j + 1 + 1)).take m.toNat).length ≤ b.length - (b.drop (j + 1 + 1 + m.toNat)).length := fun x hx => by
          obtain ⟨y, hy, rfl⟩ := List.mem_map.1 hx
          have := hbl1 y hy
          simp only [Op1.ob]
          simp at this ⊢; omega
        have hlast : ((b.drop (j + 1 + 1)).take m.toNat).length + (b.drop (j + 1 + 1 + m.toNat)).length ≤ b.length := by simp; omega
        have hkk : (b.drop (j + 1 + 1 + m.toNat)).length ≤ k := by simp at hk' ⊢; omega
        have hje : j + 1 + 1 + m.toNat ≤ n := by have := HNB.out; omega
        generalize hbody : (b.drop (j + 1 + 1)).take m.toNat = body at *
        clear hbody hln1 hbl1 hk' D0 D1 hdl hAx hsl
        have hnl := hoo.1
        have HNL := Lib.hid hnl
        have hnl2 : nl ≤ 1099511627776 := by omega
        clear hnl
        obtain ⟨wo, rfl⟩ : ∃ wo : World, wo = wr := ⟨_, rfl⟩
        go_loopw [9, 10] (fun fv iv wi => ∃ (i : Nat) (li : List Op1), i ≤ nl ∧ iv = .int .i64 i ∧ fv = .bool (fTo (obs l) cd.toNat i) ∧ OO wi w.heap.size 72 Al nl cl li ∧ obs li = jTo (obs l) cd.toNat body i ∧ Below w.heap.size w wi) (fun _ iv _ => nl - (intOf iv).toNat)
        case atStart => exact ⟨0, l, Nat.zero_le _, rfl, rfl, hoo, rfl, hq⟩
        case round =>
          obtain ⟨i, li, hi, rfl, rfl, hoo2, hobs, hq2⟩ := hrel
          have HOB := Lib.hid hobs
          clear hobs
          by_cases hlt2 : i < nl
          · obtain ⟨gl, cap, hAl, _⟩ := hoo2.2.1.form (by omega)
            injection hAl with e1 e2 e3
            subst e1
            clear e2 e3
            obtain ⟨bb', oo, y, hA, _, hy, hc0, hc1, hbs⟩ := hoo2.os.at_ (j := i) hlt2
            injection hA with hA
            injection hA with hA1 hA2
            subst hA1 hA2
            rw [Nat.zero_add] at hc0 hc1
            have hob : (obs l)[i]? = some y.ob := by rw [← jTo_at (obs l) cd.toNat body i, ← HOB.out, obs_get, hy]; rfl
            have HY := Lib.hid hy
            have hyb : y.body.length ≤ 1099511627776 := by have := hbl2 y.ob (List.mem_of_getElem? hob); simp only [Op1.ob] at this; omega
            have hii : (0 : Int) ≤ (i : Int) ∧ (i : Int) < (nl : Int) := ⟨by omega, by omega⟩
            by_cases hcc : y.code = cd.toNat
            · have htc : (y.code == (cd.toNat : Int)) = true := by simpa using hcc
              have HJ := Lib.hid (And.intro (jTo_yes (obs l) cd.toNat body i y.ob hob hcc) (fTo_snoc (obs l) cd.toNat i y.ob hob))
              have HCC := Lib.hid hcc
              clear hy hob hcc
              go_wp2_with fail
              refine (copied_any wr y.A y.n y.c y.body hbs hyb).mono ?_
              rintro e w3 ⟨A3, n3, c3, rfl, ho3, hb3⟩
              have hoo3 := hoo2.below hb3
              have hq3 := hq2.trans (hb3.mono hq2.size)
              have z3 := hb3.size
              have zq := hq2.size
              have hx3 := hsub.below hq3
              have hd3 := (World.cell?_of_block (w := wr) (a := ⟨gl, i * 2 + 1, none⟩) (hb3.block gl (by omega))).trans hc1
              clear hc0 hc1 hbs
              go_wp2_with (at_builtin; go_must (refine app8at rfl _ _ rfl wr.heap.size A3 n3 c3 y.body rfl ho3 w.heap.size Ax m.toNat (c - (j + 1 + 1)) body rfl hx3 (by omega) z3 ?_))
              intro A6 n6 c6 w6 ho6 hb6 hg6 hl6
              have hoo6 := hoo2.below (hb3.trans hb6)
              have hrow := hoo6.2.1
              have D6 := (World.cell?_of_block (w := w3) (a := ⟨gl, i * 2 + 1, none⟩) (hb6.block gl (by omega))).trans hd3
              have F6 := hrow.frozenAt (i * 2 + 1)
              obtain ⟨hoo7, hbb⟩ := hoo2.put (by decide) HY.out (by omega) (ho6.lower zq) (grown_of_below y.blk (hb3.trans hb6)) (.inr fun q hq => (ho6.2.lt q hq).1)
              have hq6 := hq2.trans hbb
              clear hrow hd3 hoo3 hoo6 ho3 ho6 hb3 hb6 hg6 hl6
              go_wp2_with fail
              go_roundw
              case rel => exact ⟨i + 1, _, by omega, by go_num, by rw [HJ.out.2, show (y.ob.1 == (cd.toNat : Int)) = true from beq_iff_eq.2 HCC.out, Bool.or_true], hoo7, by rw [HJ.out.1, obs_set, HOB.out]; rfl, hq6⟩
              case measure => simp [intOf]; omega
            · have htc : (y.code == (cd.toNat : Int)) = false := by simpa using hcc
              have HJ := Lib.hid (And.intro (jTo_no (obs l) cd.toNat body i y.ob hob hcc) (fTo_snoc (obs l) cd.toNat i y.ob hob))
              have HCC := Lib.hid htc
              clear hy hob hcc
              go_wp2_with fail
              go_roundw
              case rel => exact ⟨i + 1, li, by omega, by go_num, by rw [HJ.out.2, show (y.ob.1 == (cd.toNat : Int)) = false from HCC.out, Bool.or_false], hoo2, by rw [HJ.out.1]; exact HOB.out, hq2⟩
              case measure => simp [intOf]; omega
          · have hie : i = nl := by omega
            have HF := Lib.hid (fTo_all (obs l) cd.toNat i (by rw [obs_length]; have := HNL.out; omega))
            have HM := Lib.hid (jTo_all (obs l) cd.toNat body i (by rw [obs_length]; have := HNL.out; omega))
            rw [HF.out]
            clear hie
            cases hany : (obs l).any (fun o => o.1 == (cd.toNat : Int))
            · have HJ := Lib.hid (show obs li ++ [((cd.toNat : Int), body)] = joinO (obs l) cd.toNat body by
                rw [← join_eq (obs l) cd.toNat body HND.out, joinR, if_neg (by rw [hany]; simp), HOB.out, HM.out, map_none]
                intro hm
                obtain ⟨x, hx, he⟩ := List.mem_map.1 hm
                have := List.any_eq_false.1 hany x hx
                exact this (by simpa using he))
              have hlil := hoo2.1
              have HLI := Lib.hid hlil
              have hnil : nl ≤ 1099511627776 := hnl2
              have zq := hq2.size
              clear hany hlil
              go_wp2_with fail
              refine (copied_any wr Ax m.toNat (c - (j + 1 + 1)) body ((hsub.below hq2).more zq) (by omega)).mono ?_
              rintro e w3 ⟨A3, n3, c3, rfl, ho3, hb3⟩
              have hoo3 := hoo2.below hb3
              have hq3 := hq2.trans (hb3.mono hq2.size)
              have z3 := hb3.size
              have hfr : ∀ o ∈ li, ∀ k, o.blk = some k → (Value.slice A3 n3 c3).ownBlock ≠ some k := by
                intro o ho k hk hk'
                have h1 := (hoo2.lt o ho k hk).2
                have h2 := (ho3.2.lt k hk').1
                omega
              clear hb3
              go_wp2_with (at_builtin; go_must (refine appO rfl _ _ 31 72 Try.underlying31 infoROpt (by decide) rfl w.heap.size Al nl cl li rfl (hoo3.alloc _) w3.heap.size 1 rfl cd.toNat A3 n3 c3 body (heap_alloc_new w3 _) ((ho3.lower zq).alloc _) hfr (by have := HLI.out; omega) (by simp; omega) ?_))
              intro A6 c6 w6 hoo6 hb6 hg6
              have hq6 := (hq3.alloc hq3.size (.cells #[.int .i64 cd.toNat, .slice A3 n3 c3] 72)).trans hb6
              clear hoo3 hg6 hb6
              go_wp2_with fail
              go_roundw
              case rel =>
                have ho6 : obs (li ++ [⟨cd.toNat, A3, n3, c3, body⟩]) = joinO (obs l) cd.toNat body := by rw [obs_append]; exact HJ.out
                refine ⟨A6, nl + 1, c6, _, k, j + 1 + 1 + m.toNat, rfl, by go_num, hje, hoo6, hkk, by rw [ho6]; exact HG.out, by rw [ho6]; exact (joinO_codes _ _ _ HND.out).1, by have := HLI.out; have := HNL.out; rw [List.length_append, List.length_singleton]; omega, ?_, hq6⟩
                intro o ho
                rcases List.mem_append.1 ho with ho | ho
                · have h1 := jTo_body (obs l) cd.toNat body i _ hbl2
                  rw [← HOB.out] at h1
                  have := h1 o.ob (List.mem_map.2 ⟨o, ho, rfl⟩)
                  simp only [Op1.ob] at this
                  omega
                · rw [List.mem_singleton.1 ho]; exact hlast
              case measure => simp [intOf]; omega
            · have HJ := Lib.hid (show obs li = joinO (obs l) cd.toNat body by
                rw [← join_eq (obs l) cd.toNat body HND.out, joinR, if_pos hany, HOB.out, HM.out])
              have HLI := Lib.hid hoo2.1
              clear hany
              go_wp2_with fail
              go_roundw
              case rel =>
                refine ⟨Al, nl, cl, li, k, j + 1 + 1 + m.toNat, rfl, by go_num, hje, hoo2, hkk, by rw [HJ.out]; exact HG.out, by rw [HJ.out]; exact (joinO_codes _ _ _ HND.out).1, by have := HLI.out; have := HNL.out; omega, ?_, hq2⟩
                intro o ho
                have h1 := jTo_body (obs l) cd.toNat body i _ hbl2
                rw [← HOB.out] at h1
                have := h1 o.ob (List.mem_map.2 ⟨o, ho, rfl⟩)
                simp only [Op1.ob] at this
                omega
              case measure => simp [intOf]; omega
      · have HN : Hid (getO b = none) := Lib.hid (by rw [← HG, if_neg hm])
        have htm : (n : Int) - ((j : Int) + 1) - 1 < (m.toNat : Int) := by have := HNB.out; omega
        clear HG hm hdl
        go_wp2_with fail
        go_ret2
        exact ⟨hq, by rw [HN.out]; rfl⟩
    · have hjb : j = b.length := by have := HNB.out; omega
      have HN : Hid (getO b = none) := Lib.hid (by rw [← HG.out, List.drop_eq_nil_of_le (by omega), getF_nil])
      clear hjb
      go_wp2_with fail
      go_ret2
      exact ⟨hq, by rw [HN.out]; rfl⟩
end Go.Proofs.Ytidohmcneoldcaa
