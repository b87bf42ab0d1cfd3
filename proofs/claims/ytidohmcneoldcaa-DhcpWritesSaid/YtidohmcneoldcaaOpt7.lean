/-
  opt.Get: what it reads out of bytes.
-/
import Derived.Test.YtidohmcneoldcaaOpt6
import Derived.Test.YtidohmcneoldcaaOpt2
namespace Go.Proofs.Ytidohmcneoldcaa
open Go.RowKit

def GetOPost (w : World) (r : Option (List Ob)) (e : Ending) (w' : World) : Prop :=
  Below w.heap.size w w' ∧ match r with
  | none => e = .returned (.tuple #[.slice none 0 0, .int .i64 3])
  | some l => ∃ A n c l', e = .returned (.tuple #[.slice A n c, .int .i64 0]) ∧ OO w' w.heap.size 26 A n c l' ∧ obs l' = l

/-- How much a reader has left. -/
def rdLeft (w : World) (g : Nat) : Nat := match w.cell? ⟨g, 0, none⟩ with
  | some (.slice _ n _) => n
  | _ => 0
theorem Rd.left {w : World} {g : Nat} {l : List UInt8} {sh : Bool} (h : Rd w g l sh) : rdLeft w g = l.length := by
  obtain ⟨A, n, c, hg, hb⟩ := h
  have : w.cell? ⟨g, 0, none⟩ = some (.slice A n c) := by simp [World.cell?, hg]
  rw [rdLeft, this]
  exact hb.1

/-- What holds at a round's head of Get's loop. -/
def GRel (w : World) (g : Nat) (b : List UInt8) (v : Value) (wr : World) : Prop :=
  ∃ (A : Option Addr) (n c : Nat) (l : List Op1) (k : Nat) (rest : List UInt8), v = .slice A n c ∧ OO wr (g + 1) 26 A n c l ∧ Rd wr g rest false ∧ rest.length ≤ k ∧ getF k rest (obs l) = getO b ∧
    l.length + rest.length ≤ b.length ∧ (∀ o ∈ l, o.body.length + rest.length ≤ b.length) ∧ Below w.heap.size w wr
/-- What a round leaves: the loop's relation, with less left. -/
def GNext (w : World) (g : Nat) (b : List UInt8) (m : Nat) (v : Value) (wr : World) : Prop := GRel w g b v wr ∧ rdLeft wr g < m

theorem rdSh_1 (c : UInt8) (r : List UInt8) (sh : Bool) : rdSh (c :: r) 1 sh = sh := if_pos ⟨by omega, by simp; omega⟩
theorem rdTake_1 (c : UInt8) (r : List UInt8) : rdTake (c :: r) 1 = [c] := by rw [rdTake, if_pos ⟨by omega, by simp; omega⟩]; rfl
theorem rdDrop_1 (c : UInt8) (r : List UInt8) : rdDrop (c :: r) 1 = r := by rw [rdDrop, if_pos ⟨by omega, by simp; omega⟩]; rfl
theorem beN_1 (c : UInt8) : beN [c] = c.toNat := by simp [beN]

/-- append(own row of options, one that was just made), at one operation. -/
theorem infoOpt : (Try.prog.info? 26).map (fun i => (i.zero, i.size, i.bytes)) = some (some (.agg #[.int .i64 0, .slice none 0 0]), 2, 32) := by kernel_rfl
theorem infoROpt : (Try.prog.info? 72).map (fun i => (i.zero, i.size, i.bytes)) = some (some (.agg #[.int .i64 0, .slice none 0 0]), 2, 32) := by kernel_rfl
theorem wp_appO {w : World} {o : Oper} {a : Act} {K : Act → World → Prop} {Q : Exit → Act → World → Prop} (s x : Operand) (T t : TypeId) (hT : Try.prog.underlying T = some (.slice t))
    (hI : (Try.prog.info? t).map (fun i => (i.zero, i.size, i.bytes)) = some (some (.agg #[.int .i64 0, .slice none 0 0]), 2, 32)) (ht : t ≠ 5)
    (ho : o.op = .call { callee := .builtin .append, args := #[s, x], argTypes := #[T, T] })
    (H : Nat) (A : Option Addr) (n c : Nat) (l : List Op1) (hs : a.eval s = .slice A n c) (hown : OO w H t A n c l)
    (g : Nat) (c2 : Nat) (hx : a.eval x = .slice (some ⟨g, 0, none⟩) 1 c2) (code : Int) (A2 : Option Addr) (n2 cc2 : Nat) (b : List UInt8)
    (hg : w.heap[g]? = some (.cells #[.int .i64 code, .slice A2 n2 cc2] t (0, 0))) (hb : OB w H A2 n2 cc2 b)
    (hf : ∀ o ∈ l, ∀ k, o.blk = some k → (Value.slice A2 n2 cc2).ownBlock ≠ some k)
    (hlen : l.length + 1 ≤ 2199023255552) (hbase : H ≤ w.heap.size)
    (h : ∀ A' c' w', OO w' H t A' (n + 1) c' (l ++ [⟨code, A2, n2, cc2, b⟩]) → Below H w w' → w.grownBy w' (Value.slice A n c).ownBlock → K (a.put o.dst (.slice A' (n + 1) c')) w') : o.wp Try.prog a w K Q := by
  obtain ⟨i0, hi, hz0, hz1, hz2⟩ := info_parts hI
  have hn := hown.1
  obtain ⟨v', w', hrun, h2, h3, _, h5⟩ := run_append_own_at (P := Try.prog) w H T o.type t i0 _ 2 32 hT hi hz0 hz1 hz2 rfl (by omega) _ n (opCells l) hown.2.1 ⟨g, 0, none⟩ 1 c2
    [.int .i64 code, .slice A2 n2 cc2] rfl (fun j u hu => by rw [Addr.add_lit, Nat.zero_add, cell_of_row w g j _ _ _ hg]; simpa using hu) (by simp [Value.oneCell']) (by unfold maxLen; omega) (by omega) hbase
  have hform : ∃ A' c', v' = Value.slice A' (n + 1) c' := by
    rcases h2.2 with ⟨hv, h0⟩ | ⟨g', cap, _, hv, _⟩
    · omega
    · exact ⟨_, _, hv⟩
  obtain ⟨A', c', rfl⟩ := hform
  unfold Oper.wp execOp
  simp only [ho, resolve, invoke, builtin, Sem.run_bind, Sem.run_pure, Result.andThen_ok, List.map_toArray, List.map_cons, List.map_nil, hs, hx, hrun]
  exact h A' c' w' (hown.snoc ht hb hf h2 h3) ((Below.refl H w).grown h3 hbase fun k hk => (hown.2.1.lt k hk).1) h3
theorem appO {w : World} {ops : Array Oper} {rest : List Oper} {o : Oper} {a : Act} {Q : Exit → Act → World → Prop} (hgd : o.guard = none) (s x : Operand) (T t : TypeId) (hT : Try.prog.underlying T = some (.slice t))
    (hI : (Try.prog.info? t).map (fun i => (i.zero, i.size, i.bytes)) = some (some (.agg #[.int .i64 0, .slice none 0 0]), 2, 32)) (ht : t ≠ 5)
    (ho : o.op = .call { callee := .builtin .append, args := #[s, x], argTypes := #[T, T] })
    (H : Nat) (A : Option Addr) (n c : Nat) (l : List Op1) (hs : a.eval s = .slice A n c) (hown : OO w H t A n c l)
    (g : Nat) (c2 : Nat) (hx : a.eval x = .slice (some ⟨g, 0, none⟩) 1 c2) (code : Int) (A2 : Option Addr) (n2 cc2 : Nat) (b : List UInt8)
    (hg : w.heap[g]? = some (.cells #[.int .i64 code, .slice A2 n2 cc2] t (0, 0))) (hb : OB w H A2 n2 cc2 b)
    (hf : ∀ o ∈ l, ∀ k, o.blk = some k → (Value.slice A2 n2 cc2).ownBlock ≠ some k)
    (hlen : l.length + 1 ≤ 2199023255552) (hbase : H ≤ w.heap.size)
    (h : ∀ A' c' w', OO w' H t A' (n + 1) c' (l ++ [⟨code, A2, n2, cc2, b⟩]) → Below H w w' → w.grownBy w' (Value.slice A n c).ownBlock → wpList Try.prog ops Q rest (a.put o.dst (.slice A' (n + 1) c')) w') : wpList Try.prog ops Q (o :: rest) a w :=
  wpList_plain hgd fun _ hK => wp_appO s x T t hT hI ht ho H A n c l hs hown g c2 hx code A2 n2 cc2 b hg hb hf hlen hbase fun A' c' w' h1 h2 h3 => hK _ _ (h A' c' w' h1 h2 h3)

/-- append(own row of bytes, bytes...), and where the new row lies. -/
theorem app8at {w : World} {ops : Array Oper} {rest : List Oper} {o : Oper} {a : Act} {Q : Exit → Act → World → Prop} (hgd : o.guard = none) (s x : Operand)
    (ho : o.op = .call { callee := .builtin .append, args := #[s, x], argTypes := #[24, 24] })
    (H : Nat) (A : Option Addr) (n c : Nat) (l : List UInt8) (hs : a.eval s = .slice A n c) (hown : OB w H A n c l)
    (B : Nat) (A2 : Option Addr) (n2 c2 : Nat) (l2 : List UInt8) (hx : a.eval x = .slice A2 n2 c2) (hr : BS w B A2 n2 c2 l2)
    (hlen : l.length + l2.length ≤ 140737488355328) (hbase : H ≤ w.heap.size)
    (h : ∀ A' n' c' w', OB w' H A' n' c' (l ++ l2) → Below H w w' → w.grownBy w' (Value.slice A n c).ownBlock → ((Value.slice A' n' c').ownBlock = (Value.slice A n c).ownBlock ∨ (Value.slice A' n' c').ownBlock = some w.heap.size) → wpList Try.prog ops Q rest (a.put o.dst (.slice A' n' c')) w') : wpList Try.prog ops Q (o :: rest) a w := by
  obtain ⟨i0, hi, hz0, hz1, hz2⟩ := info_parts infoU8
  obtain ⟨rfl, hown⟩ := hown
  obtain ⟨rfl, hnc, hcm, hr⟩ := hr
  refine wpList_app w hgd s x 24 ho 5 i0 (.int .u8 0) 1 Try.underlying24 hi hz0 hz1 hz2 rfl H _ _ _ hs hown B A2 _ c2 (bv l2) hx hr (bv_length l2) (bv_one l2) (by unfold maxLen; omega) (by omega) hbase ?_
  intro A' c' w' ho' hg hw
  exact h A' (l.length + l2.length) c' w' ⟨by simp, by rw [bv_append]; exact ho'⟩ ((Below.refl H w).grown hg hbase fun k hk => (hown.lt k hk).1) hg hw
theorem opAt_at (l : List Op1) (code : Int) : (opAt l code = -1 ∧ ∀ o ∈ l, o.code ≠ code) ∨
    ∃ (k : Nat) (x : Op1), opAt l code = (k : Int) ∧ l[k]? = some x ∧ k < l.length ∧ x.code = code ∧ ∀ j y, j < k → l[j]? = some y → y.code ≠ code := by
  unfold opAt
  rcases h : l.findIdx? (fun o => o.code == code) with _ | k
  · left
    refine ⟨by rw [h], fun x hx => ?_⟩
    have := List.findIdx?_eq_none_iff.1 h x hx
    simpa using this
  · right
    obtain ⟨hk, hp, hlt⟩ := List.findIdx?_eq_some_iff_getElem.1 h
    refine ⟨k, l[k], by rw [h], List.getElem?_eq_getElem hk, hk, by simpa using hp, fun j y hj hy => ?_⟩
    have h1 := hlt j hj
    rw [List.getElem?_eq_getElem (by omega)] at hy
    injection hy with hy
    rw [← hy]
    simpa using h1

set_option maxRecDepth 100000 in
set_option maxHeartbeats 1000000 in
theorem oget_any (w : World) (A : Option Addr) (n c : Nat) (b : List UInt8) (h : BS w w.heap.size A n c b) (hl : b.length ≤ 1099511627776) :
    Calls Try.prog 15 #[.slice A n c] w (GetOPost w (getO b)) := by
  go_enter Try.func15, Try.ntmps15
  go_wp2_with fail
  refine (read_any w A n c b h hl).mono ?_
  rintro e w1 ⟨g, rfl, hg, hr1, hb1⟩
  go_wp2_with fail
  go_loopw [5] (fun v wr => GRel w g b v wr) (fun _ wr => rdLeft wr g)
  case atStart => exact ⟨none, 0, 0, [], b.length, b, rfl, OO.nil_ _ _ _, hr1, Nat.le_refl _, rfl, by simp, by simp, hb1⟩
  case round =>
    obtain ⟨A0, n0, c0, l, k, rest, rfl, hoo, hrd, hk, hget, hln, hbl, hq⟩ := hrel
    have hrl := hrd.left
    have HRL := Lib.hid hrl
    have HG := Lib.hid hget
    clear hrl hget
    rcases rest with _ | ⟨cd, r⟩
    · have hn : getO b = none := by rw [← HG.out, getF_nil]
      have HN := Lib.hid hn
      clear hn
      go_wp2_with fail
      refine (ru8_any wr g [] false hrd (by simp)).mono ?_
      rw [show rdSh [] 1 false = true from rfl]
      rintro e w2 ⟨rfl, hr2, hg2⟩
      go_wp2_with fail
      refine (short_any w2 g _ _ hr2).mono ?_
      rintro e w3 ⟨rfl, rfl⟩
      go_wp2_with fail
      go_ret2
      exact ⟨below_grown hq hg2 hq.size hg, by rw [HN.out]; rfl⟩
    · have hrl : (cd :: r).length ≤ 1099511627776 := by omega
      have hcl := cd.toNat_lt
      go_wp2_with fail
      refine (ru8_any wr g (cd :: r) false hrd hrl).mono ?_
      rw [rdSh_1, rdDrop_1, rdTake_1, beN_1]
      rintro e w2 ⟨rfl, hr2, hg2⟩
      go_wp2_with fail
      refine (short_any w2 g _ _ hr2).mono ?_
      rintro e w3 ⟨rfl, rfl⟩
      have hoo2 := hoo.grown hg2 (by omega)
      have hq2 := below_grown hq hg2 hq.size hg
      have hz2 := hg2.size
      clear hrd hoo hg2
      by_cases h255 : cd = 255
      · have ht : ((cd.toNat : Int) == 255) = true := by subst h255; rfl
        have hn : getO b = some (obs l) := by
          rw [← HG.out]
          rcases k with _ | k
          · simp at hk
          · subst h255; rfl
        have HN := Lib.hid hn
        clear hn h255
        go_wp2_with fail
        go_ret2
        exact ⟨hq2, by rw [HN.out]; exact ⟨A0, n0, c0, l, rfl, hoo2.lower (by omega), rfl⟩⟩
      by_cases h0 : cd = 0
      · have ht : ((cd.toNat : Int) == 255) = false := by subst h0; rfl
        have ht0 : ((cd.toNat : Int) == 0) = true := by subst h0; rfl
        have hn : ∃ k', r.length ≤ k' ∧ getF k' r (obs l) = getO b := by
          rcases k with _ | k
          · simp at hk
          · refine ⟨k, by simp at hk; omega, ?_⟩
            rw [← HG.out, getF_cons, if_pos h0]
        obtain ⟨k', hk', hn⟩ := hn
        have HN := Lib.hid hn
        clear hn h255 h0
        go_wp2_with fail
        go_roundw
        case rel => exact ⟨A0, n0, c0, l, k', r, rfl, hoo2, hr2, hk', HN.out, by simp at hln; omega, fun o ho => by have := hbl o ho; simp at this; omega, hq2⟩
        case measure =>
          have := hr2.left
          have := HRL.out
          simp at *
          omega
      have ht : ((cd.toNat : Int) == 255) = false := beq_eq_false_iff_ne.2 fun e => h255 (UInt8.toNat_inj.1 (by have : (255 : UInt8).toNat = 255 := rfl; omega))
      have ht0 : ((cd.toNat : Int) == 0) = false := beq_eq_false_iff_ne.2 fun e => h0 (UInt8.toNat_inj.1 (by have : (0 : UInt8).toNat = 0 := rfl; omega))
      have hlr : r.length ≤ 1099511627776 := by simp at hrl; omega
      rcases k with _ | k
      · simp at hk
      replace HG := HG.out
      rw [getF_cons, if_neg h0, if_neg h255] at HG
      clear h0 h255
      rcases r with _ | ⟨m, r'⟩
      · have HN := Lib.hid (show getO b = none from HG.symm)
        clear HG
        go_wp2_with fail
        refine (ru8_any w2 g [] false hr2 (by simp)).mono ?_
        rw [show rdSh [] 1 false = true from rfl, show rdTake [] 1 = [] from rfl, show rdDrop [] 1 = [] from rfl, show beN [] = 0 from rfl]
        rintro e w3 ⟨rfl, hr3, hg3⟩
        go_wp2_with fail
        refine (bytes_any w3 g 0 [] true hr3 (by simp)).mono ?_
        rw [show rdSh [] 0 true = true from rfl]
        rintro e w4 ⟨A4, n4, c4, rfl, ho4, hr4, hg4⟩
        have hq3 := below_grown hq2 hg3 hq2.size hg
        have hq4 := below_grown hq3 hg4 hq3.size hg
        go_wp2_with fail
        refine (short_any w4 g _ _ hr4).mono ?_
        rintro e w5 ⟨rfl, rfl⟩
        go_wp2_with fail
        go_ret2
        exact ⟨hq4, by rw [HN.out]; rfl⟩
      · have hml := m.toNat_lt
        have hlr' : r'.length ≤ 1099511627776 := by simp at hlr; omega
        dsimp only at HG
        by_cases hm : m.toNat ≤ r'.length
        · rw [if_pos hm] at HG
          replace HG := Lib.hid HG
          have hmi : (0 : Int) ≤ (m.toNat : Int) ∧ (m.toNat : Int) ≤ r'.length := ⟨by omega, by omega⟩
          have HT := Lib.hid (show rdTake r' (m.toNat : Int) = r'.take m.toNat by rw [rdTake, if_pos hmi]; rfl)
          have HD := Lib.hid (show rdDrop r' (m.toNat : Int) = r'.drop m.toNat by rw [rdDrop, if_pos hmi]; rfl)
          have HS := Lib.hid (show rdSh r' (m.toNat : Int) false = false by rw [rdSh, if_pos hmi])
          clear hmi
          go_wp2_with fail
          refine (ru8_any w2 g (m :: r') false hr2 hlr).mono ?_
          rw [rdSh_1, rdTake_1, rdDrop_1, beN_1]
          rintro e w3 ⟨rfl, hr3, hg3⟩
          go_wp2_with fail
          refine (bytes_any w3 g m.toNat r' false hr3 hlr').mono ?_
          rw [HT.out, HD.out, HS.out]
          rintro e w4 ⟨A4, n4, c4, rfl, ho4, hr4, hg4⟩
          have hq3 := below_grown hq2 hg3 hq2.size hg
          have hq4 := below_grown hq3 hg4 hq3.size hg
          have hoo3 := hoo2.grown hg3 (by omega)
          have hoo4 := hoo3.grown hg4 (by omega)
          have z1 := hr2.lt
          have z3 := hg3.size
          have z4 := hg4.size
          have hfr : ∀ o ∈ l, ∀ k, o.blk = some k → (Value.slice A4 n4 c4).ownBlock ≠ some k := by
            intro o ho k hk hk'
            have h1 := (hoo3.lt o ho k hk).2
            have h2 := (ho4.2.lt k hk').1
            omega
          have ob4 := ho4.lower (H' := g + 1) (by omega)
          clear ho4 hoo2 hoo3 hr3 hr2 hg3 hg4
          go_wp2_with fail
          refine (short_any w4 g _ _ hr4).mono ?_
          rintro e w5 ⟨rfl, rfl⟩
          go_wp2_with fail
          refine (at_any w4 A0 n0 c0 l cd.toNat hoo4.os).mono ?_
          have hll : l.length ≤ 1099511627776 := by simp at hln; omega
          have hbt : (r'.take m.toNat).length ≤ 255 := by simp; omega
          have hln' : l.length + 1 + (r'.drop m.toNat).length ≤ b.length := by simp at hln ⊢; omega
          have hbl' : ∀ o ∈ l, o.body.length + (r'.take m.toNat).length + (r'.drop m.toNat).length ≤ b.length := fun o ho => by have := hbl o ho; simp at this ⊢; omega
          have hk' : (r'.drop m.toNat).length ≤ k := by simp at hk ⊢; omega
          have hlast : (r'.take m.toNat).length + (r'.drop m.toNat).length ≤ b.length := by simp at hln ⊢; omega
          have hms : (r'.drop m.toNat).length < (cd :: m :: r').length := by simp; omega
          generalize r'.take m.toNat = body at *
          generalize r'.drop m.toNat = rest' at *
          rcases opAt_at l cd.toNat with ⟨e1, e2⟩ | ⟨kk, x, e1, e2, e3, e4, e5⟩
          · rw [e1]
            have HJ := Lib.hid (obs_joinO_new l cd.toNat A4 n4 c4 body e2)
            clear e1 e2
            rintro e w5 ⟨rfl, hb5⟩
            have hoo5 := hoo4.below hb5
            have ob5 := ob4.below hb5
            have hr5 := hr4.below hb5 hr4.lt
            have hq5 := hq4.trans (hb5.mono hq4.size)
            have z5 := hb5.size
            clear hoo4 ob4 hr4
            go_wp2_with (at_builtin; go_must (refine appO rfl _ _ 22 26 Try.underlying22 infoOpt (by decide) rfl (g + 1) A0 n0 c0 l rfl (hoo5.alloc _) w5.heap.size 1 rfl cd.toNat A4 n4 c4 body (heap_alloc_new w5 _) (ob5.alloc _) hfr (by omega) (by simp; omega) ?_))
            intro A6 c6 w6 hoo6 hb6 hg6
            have hr6 := (hr5.alloc (.cells #[.int .i64 cd.toNat, .slice A4 n4 c4] 26)).below hb6 (by omega)
            have hq6 := (hq5.alloc hq5.size (.cells #[.int .i64 cd.toNat, .slice A4 n4 c4] 26)).trans (hb6.mono (by omega))
            clear hoo5 hg6 hb6
            go_wp2_with fail
            go_roundw
            case rel => exact ⟨A6, n0 + 1, c6, _, k, rest', rfl, hoo6, hr6, hk', by rw [HJ.out]; exact HG.out, by simp; omega, fun o ho => by
              rcases List.mem_append.1 ho with ho | ho
              · have := hbl' o ho; omega
              · rw [List.mem_singleton.1 ho]; exact hlast, hq6⟩
            case measure =>
              rw [hr6.left, HRL.out]; exact hms
          · rw [e1]
            have HJ := Lib.hid (fun (A6 : Option Addr) (n6 c6 : Nat) => obs_joinO l kk x A6 n6 c6 body e2 (by rw [e4]; exact e5))
            have hkk : (0 : Int) ≤ (kk : Int) ∧ (kk : Int) < (n0 : Int) := ⟨by omega, by have := hoo4.1; omega⟩
            have hx := List.mem_of_getElem? e2
            have HX := Lib.hid (And.intro e2 e4)
            clear e1 e2 e3 e4 e5
            rintro e w5 ⟨rfl, hb5⟩
            have hoo5 := hoo4.below hb5
            have ob5 := ob4.below hb5
            have hr5 := hr4.below hb5 hr4.lt
            have hq5 := hq4.trans (hb5.mono hq4.size)
            have z5 := hb5.size
            clear hoo4 ob4 hr4 hb5
            obtain ⟨gl, cap, hAl, _⟩ := hoo5.2.1.form (by omega)
            injection hAl with e1 e2 e3
            subst e1
            clear e2 e3
            obtain ⟨bb, oo, y, hA, _, hy, hc0, hc1, _⟩ := hoo5.os.at_ (j := kk) (by omega)
            injection hA with hA
            injection hA with hA1 hA2
            subst hA1 hA2
            have hyx : y = x := by rw [HX.out.1] at hy; injection hy with hy; exact hy.symm
            subst hyx
            clear hy
            rw [Nat.zero_add] at hc0 hc1
            have hyl : y.body.length ≤ 1099511627776 := by have := hbl' y hx; omega
            go_wp2_with (at_builtin; go_must (refine app8at rfl _ _ rfl (g + 1) y.A y.n y.c y.body rfl (hoo5.2.2.1 y hx) w5.heap.size A4 n4 c4 body rfl ob5.bs (by omega) (by omega) ?_))
            intro A6 n6 c6 w6 ho6 hb6 hg6 hl6
            have hne : (Value.slice (some ⟨gl, 0, none⟩) n0 c0).ownBlock ≠ y.blk := fun e => own_ne hoo5.2.1 (hoo5.2.2.1 y hx).2 (by decide) rfl e.symm
            have hrow := hoo5.2.1.kept hg6 (.inr hne)
            have D6 : w6.cell? ⟨gl, kk * 2 + 1, none⟩ = some (.slice y.A y.n y.c) :=
              (hg6.cell hc1 (fun e => hne e))
            have F6 := hrow.frozenAt (kk * 2 + 1)
            obtain ⟨hoo6, hbb⟩ := hoo5.put (by decide) HX.out.1 (by omega) ho6 hg6 (hl6.elim .inl fun h => .inr fun m hm => by rw [h] at hm; injection hm with hm; omega)
            have hr6 := hr5.below hbb (by omega)
            have hq6 := hq5.trans (hbb.mono (by omega))
            clear hoo5 hg6 hb6 hrow hc0 hc1
            go_wp2_with fail
            go_roundw
            case rel => exact ⟨_, n0, c0, _, k, rest', rfl, hoo6, hr6, hk', by rw [HJ.out, HX.out.2]; exact HG.out, by simp; omega, fun o ho => by
              rcases List.mem_or_eq_of_mem_set ho with ho | ho
              · have := hbl' o ho; omega
              · have := hbl' y hx; rw [ho]; simp; omega, hq6⟩
            case measure =>
              rw [hr6.left, HRL.out]; exact hms
        · have HN := Lib.hid (show getO b = none by rw [← HG, if_neg hm])
          clear HG
          go_wp2_with fail
          refine (ru8_any w2 g (m :: r') false hr2 hlr).mono ?_
          rw [rdSh_1, rdTake_1, rdDrop_1, beN_1]
          rintro e w3 ⟨rfl, hr3, hg3⟩
          go_wp2_with fail
          refine (bytes_any w3 g m.toNat r' false hr3 hlr').mono ?_
          rw [show rdSh r' m.toNat false = true from if_neg (by omega)]
          rintro e w4 ⟨A4, n4, c4, rfl, ho4, hr4, hg4⟩
          have hq3 := below_grown hq2 hg3 hq2.size hg
          have hq4 := below_grown hq3 hg4 hq3.size hg
          go_wp2_with fail
          refine (short_any w4 g _ _ hr4).mono ?_
          rintro e w5 ⟨rfl, rfl⟩
          go_wp2_with fail
          go_ret2
          exact ⟨hq4, by rw [HN.out]; rfl⟩
end Go.Proofs.Ytidohmcneoldcaa
