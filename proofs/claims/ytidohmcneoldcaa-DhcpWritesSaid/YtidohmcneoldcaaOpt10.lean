/-
  opt.Put: options as bytes.
-/
import Derived.Test.YtidohmcneoldcaaOpt9
namespace Go.Proofs.Ytidohmcneoldcaa
open Go.RowKit

def BytesErrPost (w : World) (r : List UInt8 × Int) (e : Ending) (w' : World) : Prop :=
  ∃ A n c, e = .returned (.tuple #[.slice A n c, .int .i64 r.2]) ∧ OB w' w.heap.size A n c r.1 ∧ Below w.heap.size w w'
theorem OB.nil_ (w : World) (H : Nat) : OB w H none 0 0 [] := ⟨rfl, World.ownsRow_nil _ _ _ _⟩

theorem OB.apart {w : World} {H n c g : Nat} {A : Option Addr} {l : List UInt8} {cs : Array Value} {t : TypeId} (h : OB w H A n c l) (hg : w.heap[g]? = some (.cells cs t (0, 0))) (ht : t ≠ 5) :
    ∀ k, (Value.slice A n c).ownBlock = some k → H ≤ k ∧ k ≠ g := by
  intro k hk
  refine ⟨(h.2.lt k hk).1, ?_⟩
  rintro rfl
  rcases h.2.2 with ⟨h', _⟩ | ⟨g', cap, cur, h', _, hh, _⟩
  · rw [h'] at hk; simp [Value.ownBlock] at hk
  · rw [h'] at hk
    simp [Value.ownBlock] at hk
    subst hk
    rw [hh] at hg
    injection hg with hg
    injection hg with _ e _
    exact ht e.symm

/-- What is left to be written of an option. -/
def leftP (first : Bool) (c : UInt8) (r : List UInt8) : List UInt8 := if first || !r.isEmpty then piece c r else []
theorem piece_step (c : UInt8) (b : List UInt8) : piece c b = c :: UInt8.ofNat (min b.length 255) :: (b.take 255 ++ leftP false c (b.drop 255)) := by
  unfold piece leftP
  rw [pieceF]
  by_cases he : (b.drop 255).isEmpty
  · rw [if_pos he, he]; rfl
  · rw [if_neg he, show (b.drop 255).isEmpty = false by simpa using he]
    have : 255 < b.length := by
      rcases Nat.lt_or_ge 255 b.length with h1 | h1
      · exact h1
      · exact absurd (by simp [List.drop_eq_nil_of_le h1]) he
    rw [pieceF_more b.length c (b.drop 255) ((b.drop 255).length + 1) (by simp; omega) (by omega)]
    rfl
theorem leftP_step (first : Bool) (c : UInt8) (r : List UInt8) (h : first = true ∨ r ≠ []) :
    leftP first c r = [c, UInt8.ofNat (min r.length 255)] ++ r.take 255 ++ leftP false c (r.drop 255) := by
  have : (first || !r.isEmpty) = true := by
    rcases h with h | h
    · rw [h]; rfl
    · cases r
      · exact absurd rfl h
      · simp
  rw [leftP, if_pos this, piece_step]
  simp
theorem leftP_done (c : UInt8) : leftP false c [] = [] := rfl
theorem leftP_first (c : UInt8) (r : List UInt8) : leftP true c r = piece c r := rfl
theorem allO_cons (o : Ob) (r : List Ob) : allO (o :: r) = piece (byteN o.1) o.2 ++ allO r := by simp [allO]
theorem allO_drop (l : List Ob) (i : Nat) (o : Ob) (h : l[i]? = some o) : allO (l.drop i) = leftP true (byteN o.1) o.2 ++ allO (l.drop (i + 1)) := by
  obtain ⟨hi, rfl⟩ := List.getElem?_eq_some_iff.1 h
  rw [List.drop_eq_getElem_cons hi, allO_cons]
  rfl

/-- The first so many options may be written. -/
def goodTo (l : List Ob) (j : Nat) : Prop := goodO (l.take j)
theorem goodTo_zero (l : List Ob) : goodTo l 0 := by simp [goodTo, goodO]
theorem goodTo_succ (l : List Ob) (j : Nat) (o : Ob) (h : l[j]? = some o) : goodTo l (j + 1) ↔ goodTo l j ∧ (1 ≤ o.1 ∧ o.1 ≤ 254) ∧ ∀ i y, i < j → l[i]? = some y → y.1 ≠ o.1 := by
  obtain ⟨hj, rfl⟩ := List.getElem?_eq_some_iff.1 h
  unfold goodTo goodO
  rw [List.take_succ_eq_append_getElem hj, List.map_append, List.nodup_append]
  constructor
  · rintro ⟨h1, h2, _, h4⟩
    refine ⟨⟨fun o ho => h1 o (List.mem_append_left _ ho), h2⟩, h1 _ (List.mem_append_right _ (by simp)), fun i y hi hy e => ?_⟩
    refine h4 y.1 ?_ l[j].1 (by simp) e
    exact List.mem_map.2 ⟨y, by
      have := List.getElem?_take_of_lt (l := l) hi
      rw [hy] at this
      exact List.mem_of_getElem? this, rfl⟩
  · rintro ⟨⟨h1, h2⟩, h3, h4⟩
    refine ⟨fun o ho => ?_, h2, by simp, fun a ha b hb => ?_⟩
    · rcases List.mem_append.1 ho with ho | ho
      · exact h1 o ho
      · rw [List.mem_singleton.1 ho]; exact h3
    · obtain ⟨y, hy, rfl⟩ := List.mem_map.1 ha
      obtain ⟨z, hz, rfl⟩ := List.mem_map.1 hb
      rw [List.mem_singleton.1 hz]
      obtain ⟨i, hi⟩ := List.mem_iff_getElem?.1 hy
      have hlt := (List.getElem?_eq_some_iff.1 hi).1
      rw [List.length_take] at hlt
      rw [List.getElem?_take_of_lt (by omega)] at hi
      exact h4 i y (by omega) hi
theorem goodTo_all (l : List Ob) (j : Nat) (h : l.length ≤ j) : goodTo l j ↔ goodO l := by rw [goodTo, List.take_of_length_le h]
theorem goodTo_less (l : List Ob) (j : Nat) (h : ¬ goodTo l j) : ¬ goodO l := by
  intro hg
  refine h ⟨fun o ho => hg.1 o (List.mem_of_mem_take ho), ?_⟩
  rw [List.map_take]
  exact (List.take_sublist _ _).nodup hg.2
/-- Where the first option of a code is: the place itself, where none ahead has the code. -/
theorem opAt_self (l : List Op1) (j : Nat) (x : Op1) (h : l[j]? = some x) : opAt l x.code = (j : Int) ↔ ∀ i y, i < j → (obs l)[i]? = some y → y.1 ≠ x.code := by
  have key : ∀ (i : Nat) (y : Ob), (obs l)[i]? = some y → ∃ z : Op1, l[i]? = some z ∧ y = z.ob := by
    intro i y hy
    rw [obs_get] at hy
    rcases hz : l[i]? with _ | z
    · rw [hz] at hy; cases hy
    · rw [hz] at hy; injection hy with hy; exact ⟨z, rfl, hy.symm⟩
  rcases opAt_at l x.code with ⟨e1, e2⟩ | ⟨k, z, e1, e2, e3, e4, e5⟩
  · exact absurd rfl (e2 x (List.mem_of_getElem? h))
  · rw [e1]
    constructor
    · intro e i y hi hy
      obtain ⟨u, hu, rfl⟩ := key i y hy
      exact e5 i u (by omega) hu
    · intro hf
      rcases Nat.lt_trichotomy k j with h1 | h1 | h1
      · have := hf k z.ob h1 (by rw [obs_get, e2]; rfl)
        exact absurd e4 this
      · rw [h1]
      · exact absurd rfl (e5 j x h1 h)

set_option maxRecDepth 100000 in
set_option maxHeartbeats 2000000 in
theorem oput_any (w : World) (A : Option Addr) (n c : Nat) (l : List Op1) (h : OS w w.heap.size A n c l) (hl : l.length ≤ 1099511627776) (hB : ∀ o ∈ l, o.body.length ≤ 1099511627776) :
    Calls Try.prog 12 #[.slice A n c] w (BytesErrPost w (putO (obs l))) := by
  have hn := h.1
  have HN := Lib.hid hn
  have hnl : n ≤ 1099511627776 := by omega
  clear hn
  go_enter Try.func12, Try.ntmps12
  go_wp2_with fail
  go_loopw [14] (fun i wr => ∃ j : Nat, i = .int .i64 j ∧ j ≤ n ∧ goodTo (obs l) j ∧ Below w.heap.size w wr) (fun i _ => n - (intOf i).toNat)
  case atStart => exact ⟨0, rfl, Nat.zero_le _, goodTo_zero _, Below.refl _ _⟩
  case round =>
    obtain ⟨j, rfl, hj, hgd, hq⟩ := hrel
    have zq := hq.size
    by_cases hlt : j < n
    · obtain ⟨b, o, x, rfl, hbl, hx, h0, h1, hbs⟩ := (h.below hq).at_ hlt
      have hjn : (0 : Int) ≤ (j : Int) ∧ (j : Int) < (n : Int) := ⟨by omega, by omega⟩
      have HX : Hid ((obs l)[j]? = some x.ob) := Lib.hid (by rw [obs_get, hx]; rfl)
      have HS := Lib.hid (goodTo_succ (obs l) j x.ob HX.out)
      have hqa := hq.alloc zq (.cells #[.int .i64 x.code, .slice x.A x.n x.c] 26)
      have HW := Lib.hid (opAt_self l j x hx)
      clear hx
      by_cases hlo : x.code ≤ 0
      · have HP : Hid (putO (obs l) = ([], 1)) := Lib.hid (if_neg (goodTo_less (obs l) (j + 1) fun e => by have := (HS.out.1 e).2.1.1; simp only [Op1.ob] at this; omega))
        go_wp2_with fail
        go_ret2
        rw [HP.out]
        exact ⟨none, 0, 0, rfl, OB.nil_ _ _, hqa⟩
      by_cases hhi : 254 < x.code
      · have HP : Hid (putO (obs l) = ([], 1)) := Lib.hid (if_neg (goodTo_less (obs l) (j + 1) fun e => by have := (HS.out.1 e).2.1.2; simp only [Op1.ob] at this; omega))
        go_wp2_with fail
        go_ret2
        rw [HP.out]
        exact ⟨none, 0, 0, rfl, OB.nil_ _ _, hqa⟩
      have hos := (((h.below hq).below ((Below.refl _ wr).alloc zq (.cells #[.int .i64 x.code, .slice x.A x.n x.c] 26))).more (B' := (wr.alloc (.cells #[.int .i64 x.code, .slice x.A x.n x.c] 26)).heap.size) (by simp; omega))
      obtain ⟨v, hv⟩ : ∃ v, opAt l x.code = v := ⟨_, rfl⟩
      have HV := Lib.hid hv
      clear hv
      go_wp2_with fail
      refine (at_any _ _ n c l x.code hos).mono ?_
      rw [HV.out]
      rintro e w1 ⟨rfl, hb1⟩
      have hq1 := hqa.trans (hb1.mono (by simp; omega))
      clear hqa hos hb1 h0 h1
      by_cases hvj : v = j
      · have ht : (v != (j : Int)) = false := by rw [bne_eq_false_iff_eq]; exact hvj
        have HG := Lib.hid (HS.out.2 ⟨hgd, ⟨by simp only [Op1.ob]; omega, by simp only [Op1.ob]; omega⟩, HW.out.1 (by rw [HV.out]; exact hvj)⟩)
        clear hvj
        go_wp2_with fail
        go_roundw
        case rel => exact ⟨j + 1, by go_num, by omega, HG.out, hq1⟩
        case measure => simp [intOf]; omega
      · have ht : (v != (j : Int)) = true := by rw [bne_iff_ne]; exact hvj
        have HP : Hid (putO (obs l) = ([], 1)) := Lib.hid (if_neg (goodTo_less (obs l) (j + 1) fun e => hvj (by rw [← HV.out]; exact HW.out.2 (HS.out.1 e).2.2)))
        clear hvj
        go_wp2_with fail
        go_ret2
        rw [HP.out]
        exact ⟨none, 0, 0, rfl, OB.nil_ _ _, hq1⟩
    · have hje : l.length ≤ j := by have := HN.out; omega
      have HG := Lib.hid ((goodTo_all (obs l) j (by rw [obs_length]; exact hje)).1 hgd)
      clear hje hgd
      obtain ⟨w0, rfl⟩ : ∃ w0 : World, w0 = wr := ⟨_, rfl⟩
      go_wp2_with fail
      go_loopw [6, 38] (fun bv iv wr => ∃ (Ab : Option Addr) (nb cb : Nat) (lb : List UInt8) (i : Nat), bv = .slice Ab nb cb ∧ iv = .int .i64 i ∧ i ≤ n ∧ OB wr w.heap.size Ab nb cb lb ∧ lb ++ allO ((obs l).drop i) = allO (obs l) ∧ lb.length ≤ 1200 ∧ Below w.heap.size w wr) (fun _ iv _ => n - (intOf iv).toNat)
      case atStart => exact ⟨none, 0, 0, [], 0, rfl, rfl, Nat.zero_le _, OB.nil_ _ _, rfl, by simp, hq⟩
      case round =>
        obtain ⟨Ab, nb, cb, lb, i, rfl, rfl, hi, hob, hall, hbl, hq2⟩ := hrel
        have HA := Lib.hid hall
        have zq2 := hq2.size
        clear hall
        by_cases hlt2 : i < n
        · obtain ⟨b, o, x, rfl, hbb, hx, h0, h1, hbs⟩ := (h.below hq2).at_ hlt2
          have hin : (0 : Int) ≤ (i : Int) ∧ (i : Int) < (n : Int) := ⟨by omega, by omega⟩
          have HD := Lib.hid (allO_drop (obs l) i x.ob (by rw [obs_get, hx]; rfl))
          have hxl : x.body.length ≤ 1099511627776 := hB x (List.mem_of_getElem? hx)
          clear hx
          obtain ⟨w1, rfl⟩ : ∃ w1 : World, w1 = wr := ⟨_, rfl⟩
          go_wp2_with fail
          go_loopw [6, 9, 10] (fun bv rv fv wr => ∃ (Ab : Option Addr) (nb cb : Nat) (lb : List UInt8) (Ar : Option Addr) (nr cr : Nat) (r : List UInt8) (first : Bool), bv = .slice Ab nb cb ∧ rv = .slice Ar nr cr ∧ fv = .bool first ∧
              OB wr w.heap.size Ab nb cb lb ∧ BS wr w.heap.size Ar nr cr r ∧ r.length ≤ 1099511627776 ∧ lb ++ (leftP first (byteN x.code) r ++ allO ((obs l).drop (i + 1))) = allO (obs l) ∧ lb.length ≤ 1200 ∧
              wr.heap[w1.heap.size]? = some (.cells #[.int .i64 x.code, .slice x.A x.n x.c] 26 (0, 0)) ∧ Below w.heap.size w wr)
            (fun _ rv fv _ => (match rv with | .slice _ n _ => n | _ => 0) + (match fv with | .bool true => 1 | _ => 0))
          case atStart => exact ⟨Ab, nb, cb, lb, x.A, x.n, x.c, x.body, true, rfl, rfl, rfl, hob.alloc _, hbs.alloc zq2 _, hxl, by rw [HA.out.symm, HD.out]; rfl, hbl, heap_alloc_new w1 _, hq2.alloc zq2 _⟩
          case round =>
            clear h0 h1 hbs hob hbl zq2 HA
            obtain ⟨Ab, nb, cb, lb, Ar, nr, cr, r, first, rfl, rfl, rfl, hob, hbs, hrl, hall, hbl, hg, hq3⟩ := hrel
            have HA := Lib.hid hall
            have zq3 := hq3.size
            have hnr := hbs.1
            have HNR := Lib.hid hnr
            have hnrl : nr ≤ 1099511627776 := by omega
            clear hall hnr
            by_cases hgo : first = true ∨ 0 < nr
            · have HL := Lib.hid (leftP_step first (byteN x.code) r (hgo.imp_right fun h e => by rw [e] at HNR; have := HNR.out; simp at this; omega))
              have hpm : 1 ≤ nr + first.toNat := by
                rcases hgo with h | h
                · rw [h]; exact Nat.le_add_left _ _
                · omega
              clear hgo
              rcases first with _ | _
              all_goals
                simp only [Bool.toNat_true, Bool.toNat_false] at hpm
                go_upto_region 15 with fail
                go_cut [11] (fun v wx => v = .int .i64 (min nr 255 : Nat) ∧ wx = wr)
                case first =>
                  by_cases hbig : nr ≤ 255
                  · have E1 : Hid (((nr : Nat) : Int) = ((min nr 255 : Nat) : Int)) := Lib.hid (by omega)
                    go_wp2_with fail
                    go_meet
                    exact ⟨by rw [E1.out], rfl⟩
                  · have E1 : Hid (((255 : Int)) = ((min nr 255 : Nat) : Int)) := Lib.hid (by omega)
                    go_wp2_with fail
                    go_meet
                    exact ⟨by rw [E1.out], rfl⟩
                case rest =>
                  obtain ⟨rfl, rfl⟩ := hcut
                  obtain ⟨m, hm⟩ : ∃ m, min nr 255 = m := ⟨_, rfl⟩
                  rw [hm]
                  have hmb : m ≤ 255 ∧ m ≤ nr := ⟨by omega, by omega⟩
                  have HM := Lib.hid hm
                  clear hm
                  go_upto_region 16 with fail
                  have g0 := Ext.cell (w := wc.drew) (M := fun k => w.heap.size ≤ k ∧ k ≠ w1.heap.size) (b := w1.heap.size) (o := 0) (v := .int .i64 x.code) (cell_of_row wc w1.heap.size 0 _ _ _ hg) (by omega)
                  have hrc : nr ≤ cr := hbs.2.1
                  refine rg_begin (fun k => w.heap.size ≤ k ∧ k ≠ w1.heap.size) (by kernel_rfl) ?_
                  refine rg_take (v := ?_) 0 rfl (by kernel_rfl) (by kernel_rfl) (by kernel_rfl) (fun _ _ _ h => h) (by rfl) ?_ ?_; rotate_left
                  · (intro x hx; go_simp; first | done | with_reducible rfl | (rw [if_pos (by omega)]; try with_reducible rfl))
                  try simp only [Act.put, List.setIfInBounds_toArray, List.set_cons_zero, List.set_cons_succ]
                  refine rg_take (v := ?_) 1 rfl (by kernel_rfl) (by kernel_rfl) (by kernel_rfl) (fun _ _ _ h => h) (by rfl) ?_ ?_; rotate_left
                  · (intro x hx; go_simp; first | done | with_reducible rfl | (rw [if_pos (by omega)]; try with_reducible rfl))
                  try simp only [Act.put, List.setIfInBounds_toArray, List.set_cons_zero, List.set_cons_succ]
                  refine rg_take (v := ?_) 2 rfl (by kernel_rfl) (by kernel_rfl) (by kernel_rfl) (fun _ _ _ h => h) (by rfl) ?_ ?_; rotate_left
                  · (intro x hx; go_simp; first | done | with_reducible rfl | (rw [if_pos (by omega)]; try with_reducible rfl))
                  try simp only [Act.put, List.setIfInBounds_toArray, List.set_cons_zero, List.set_cons_succ]
                  refine rg_take (v := ?_) 3 rfl (by kernel_rfl) (by kernel_rfl) (by kernel_rfl) (fun _ _ _ h => h) (by rfl) ?_ ?_; rotate_left
                  · (intro x hx; go_simp; first | done | with_reducible rfl | (rw [if_pos (by omega)]; try with_reducible rfl))
                  try simp only [Act.put, List.setIfInBounds_toArray, List.set_cons_zero, List.set_cons_succ]
                  refine rg_take (v := ?_) 4 rfl (by kernel_rfl) (by kernel_rfl) (by kernel_rfl) (fun _ _ _ h => h) (by rfl) ?_ ?_; rotate_left
                  · (intro x hx; go_simp; first | done | with_reducible rfl | (rw [if_pos (by omega)]; try with_reducible rfl))
                  try simp only [Act.put, List.setIfInBounds_toArray, List.set_cons_zero, List.set_cons_succ]
                  refine rg_take (v := ?_) 5 rfl (by kernel_rfl) (by kernel_rfl) (by kernel_rfl) (fun _ _ _ h => h) (by rfl) ?_ ?_; rotate_left
                  · (intro x hx; go_simp; first | done | with_reducible rfl | (rw [if_pos (by omega)]; try with_reducible rfl))
                  try simp only [Act.put, List.setIfInBounds_toArray, List.set_cons_zero, List.set_cons_succ]
                  refine rg_take (v := ?_) 8 rfl (by kernel_rfl) (by kernel_rfl) (by kernel_rfl) (fun _ _ _ h => h) (by rfl) ?_ ?_; rotate_left
                  · (intro x hx; go_simp; first | done | with_reducible rfl | (rw [if_pos (by omega)]; try with_reducible rfl))
                  try simp only [Act.put, List.setIfInBounds_toArray, List.set_cons_zero, List.set_cons_succ]
                  refine rg_take (v := ?_) 9 rfl (by kernel_rfl) (by kernel_rfl) (by kernel_rfl) (fun _ _ _ h => h) (by rfl) ?_ ?_; rotate_left
                  · (intro x hx; go_simp; first | done | with_reducible rfl | (rw [if_pos (by omega)]; try with_reducible rfl))
                  try simp only [Act.put, List.setIfInBounds_toArray, List.set_cons_zero, List.set_cons_succ]
                  refine rg_take (v := ?_) 10 rfl (by kernel_rfl) (by kernel_rfl) (by kernel_rfl) (fun _ _ _ h => h) (by rfl) ?_ ?_; rotate_left
                  · (intro x hx; go_simp; first | done | with_reducible rfl | (rw [if_pos (by omega)]; try with_reducible rfl))
                  try simp only [Act.put, List.setIfInBounds_toArray, List.set_cons_zero, List.set_cons_succ]
                  refine rg_step 6 rfl (by kernel_rfl) (by rfl) (fun K hK => ?_)
                  go_simp
                  refine hK.out _ _ ((Ext.refl _ _).alloc _) ?_
                  clear hK K; try simp only [Act.put, List.setIfInBounds_toArray, List.set_cons_zero, List.set_cons_succ]
                  refine rg_step 7 rfl (by kernel_rfl) (by rfl) (fun K hK => ?_)
                  refine wp_app8 _ _ 24 24 rfl w.heap.size Ab nb cb lb rfl (hob.drew.alloc _) _ _ 2 2 [bN x.code, bN m] rfl (BS.block [bN x.code, bN m] (heap_alloc_new wc.drew _) (by simp [bv, bN_val, IntKind.wrap_u8]) (by simp [maxLen])) (by simp; omega) (by simp; omega) ?_
                  intro A6 n6 c6 w6 ho6 hb6 hg6
                  have hne := hob.apart hg (by decide)
                  have G6 := (hg6.block w1.heap.size (by have := heap_lt hg; simp; omega) (fun e => (hne _ e.symm).2 rfl)).trans (heap_alloc_of (w := wc.drew) hg)
                  refine hK.out _ _ (Ext.of_grown hg6 hne) ?_
                  clear hK K; try simp only [Act.put, List.setIfInBounds_toArray, List.set_cons_zero, List.set_cons_succ]
                  refine rg_step 11 rfl (by kernel_rfl) (by rfl) (fun K hK => ?_)
                  have hz6 := hg6.size
                  refine wp_app8 _ _ 24 24 rfl w.heap.size A6 n6 c6 _ rfl ho6 w.heap.size _ m _ (r.take m) rfl ((((hbs.drew.alloc (by simp; omega) _).below hb6).take hmb.2 _ (by omega) (by have := hbs.2.2.1; omega))) (by simp; omega) (by simp at hz6; omega) ?_
                  intro A7 n7 c7 w7 ho7 hb7 hg7
                  have hne7 := ho6.apart G6 (by decide)
                  have G7 := (hg7.block w1.heap.size (heap_lt G6) (fun e => (hne7 _ e.symm).2 rfl)).trans G6
                  refine hK.out _ _ (Ext.of_grown hg7 hne7) ?_
                  clear hK K; try simp only [Act.put, List.setIfInBounds_toArray, List.set_cons_zero, List.set_cons_succ]
                  refine rg_take (v := ?_) 12 rfl (by kernel_rfl) (by kernel_rfl) (by kernel_rfl) (fun _ _ _ h => h) (by rfl) ?_ ?_; rotate_left
                  · (intro x hx; go_simp; first | done | with_reducible rfl | (rw [if_pos (by omega)]; try with_reducible rfl))
                  try simp only [Act.put, List.setIfInBounds_toArray, List.set_cons_zero, List.set_cons_succ]
                  refine rg_done (by kernel_rfl) ?_
                  have hq7 : Below w.heap.size w w7 := ((hq3.drew.alloc zq3 _).trans hb6).trans hb7
                  have hbs7 : BS w7 w.heap.size Ar nr cr r := ((hbs.drew.alloc (by simp; omega) _).below hb6).below hb7
                  have hd7 := hbs7.drop hmb.2
                  obtain ⟨Ak, hAk⟩ : ∃ Ak, (if cr = m then Ar else Option.map (fun x => x.add m) Ar) = Ak := ⟨_, rfl⟩
                  rw [hAk] at hd7
                  have hn7 := ho7.1
                  have HN7 := Lib.hid hn7
                  have HPS : Hid (lb ++ [bN x.code, bN m] ++ r.take m ++ (leftP false (byteN x.code) (r.drop m) ++ allO ((obs l).drop (i + 1))) = allO (obs l)) := Lib.hid (by
                    rw [← HA.out, HL.out]
                    have e1 : r.take m = r.take 255 := by
                      rcases Nat.lt_or_ge r.length 255 with h1 | h1
                      · rw [List.take_of_length_le (by have := HM.out; have := HNR.out; omega), List.take_of_length_le (by omega)]
                      · rw [show m = 255 by have := HM.out; have := HNR.out; omega]
                    have e2 : r.drop m = r.drop 255 := by
                      rcases Nat.lt_or_ge r.length 255 with h1 | h1
                      · rw [List.drop_eq_nil_of_le (by have := HM.out; have := HNR.out; omega), List.drop_eq_nil_of_le (by omega)]
                      · rw [show m = 255 by have := HM.out; have := HNR.out; omega]
                    have e3 : bN m = UInt8.ofNat (min r.length 255) := by
                      rw [← HNR.out, HM.out]
                      show UInt8.ofNat ((m : Int) % 256).toNat = _
                      congr 1
                      omega
                    rw [e1, e2, e3]
                    simp [byteN, bN])
                  have hmr : r.length - m ≤ 1099511627776 := by omega
                  have HMM := Lib.hid HM.out
                  clear hg6 hb6 hg7 hb7 ho6 hob hg G6 hn7 hbs hbs7 g0 hq3
                  by_cases hbig : 1200 < n7
                  · have HP : Hid (putO (obs l) = ([], 2)) := Lib.hid (by
                      rw [putO, if_pos HG.out, if_pos]
                      have h1 := congrArg List.length HPS.out
                      have h2 := HN7.out
                      rw [List.length_append] at h1
                      omega)
                    go_wp2_with fail
                    go_ret2
                    rw [HP.out]
                    exact ⟨none, 0, 0, rfl, OB.nil_ _ _, hq7⟩
                  · go_wp2_with fail
                    go_roundw
                    case rel => exact ⟨A7, n7, c7, _, Ak, nr - m, cr - m, r.drop m, false, rfl, rfl, rfl, ho7, hd7, by simp; omega, HPS.out, by have := HN7.out; omega, G7, hq7⟩
                    case measure => have := HMM.out; simp; omega
            · have hff : first = false := by rcases first with _ | _; rfl; exact absurd (.inl rfl) hgo
              subst hff
              have hr0 : nr = 0 := by omega
              have hre : r = [] := List.eq_nil_of_length_eq_zero (by have := HNR.out; omega)
              have HA2 : Hid (lb ++ allO ((obs l).drop (i + 1)) = allO (obs l)) := Lib.hid (by rw [← HA.out, hre]; rfl)
              have hnp : ¬ (0 < nr) := by omega
              clear hgo hr0 hre
              go_wp2_with fail
              go_roundw
              case rel => exact ⟨Ab, nb, cb, lb, i + 1, rfl, by go_num, by omega, hob, HA2.out, hbl, hq3⟩
              case measure => simp [intOf]; omega
        · have hdn : (obs l).drop i = [] := List.drop_eq_nil_of_le (by rw [obs_length]; have := HN.out; omega)
          have HL2 : Hid (lb = allO (obs l)) := Lib.hid (by rw [← HA.out, hdn]; simp [allO])
          have hnb := hob.1
          have HNB := Lib.hid hnb
          have hnbl : nb ≤ 1200 := by omega
          clear hdn hnb
          go_wp2_with (at_builtin; go_must (refine app8 rfl _ _ rfl w.heap.size Ab nb cb lb rfl (hob.alloc _) _ _ 1 1 [255] rfl (BS.block [255] (heap_alloc_new wr _) rfl (by simp [maxLen])) (by simp; omega) (by simp; omega) ?_))
          intro A7 n7 c7 w7 ho7 hb7 hg7
          have hq7 := (hq2.alloc zq2 (.cells #[.int .u8 255] 5)).trans hb7
          have hn7 := ho7.1
          have HN7 := Lib.hid hn7
          clear hn7 hb7 hg7
          by_cases hbig : 1200 < n7
          · have HP : Hid (putO (obs l) = ([], 2)) := Lib.hid (by
              rw [putO, if_pos HG.out, if_pos]
              have h1 := congrArg List.length HL2.out
              have h2 := HN7.out
              rw [List.length_append, List.length_singleton] at h2
              omega)
            go_wp2_with fail
            go_ret2
            rw [HP.out]
            exact ⟨none, 0, 0, rfl, OB.nil_ _ _, hq7⟩
          · have HP : Hid (putO (obs l) = (lb ++ [255], 0)) := Lib.hid (by
              rw [putO, if_pos HG.out, if_neg, HL2.out]
              have h1 := congrArg List.length HL2.out
              have h2 := HN7.out
              rw [List.length_append, List.length_singleton] at h2
              omega)
            go_wp2_with fail
            go_ret2
            rw [HP.out]
            exact ⟨A7, n7, c7, rfl, ho7, hq7⟩
end Go.Proofs.Ytidohmcneoldcaa
