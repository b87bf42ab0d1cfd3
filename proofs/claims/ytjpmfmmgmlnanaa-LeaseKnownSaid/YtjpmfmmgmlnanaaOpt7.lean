/-
  opt.Get: what it reads out of bytes.
-/
import Derived.Test.YtjpmfmmgmlnanaaOpt6
import Derived.Test.YtjpmfmmgmlnanaaOpt2
namespace Go.Proofs.Ytjpmfmmgmlnanaa
open Go.RowKit

def GetOPost (w : World) (r : Option (List Ob)) (e : Ending) (w' : World) : Prop :=
  Below w.heap.size w w' ∧ match r with
  | none => e = .returned (.tuple #[.slice none 0 0, .int .i64 3])
  | some l => ∃ A n c l', e = .returned (.tuple #[.slice A n c, .int .i64 0]) ∧ OO w' w.heap.size 64 A n c l' ∧ obs l' = l

/-- How much a reader has left. -/
def rdLeft (w : World) (g : Nat) : Nat := match w.cell? ⟨g, 0, none⟩ with
  | some (.slice _ n _) => n
  | _ => 0
theorem Rd.left {w : World} {g : Nat} {l : List UInt8} {sh : Bool} (h : Rd w g l sh) : rdLeft w g = l.length := by
  obtain ⟨A, n, c, hg, hb⟩ := h
  have : w.cell? ⟨g, 0, none⟩ = some (.slice A n c) := by simp [World.cell?, hg]
  rw [rdLeft, this]
  exact hb.1

/-- What holds at a round's head of Get's loop. -/
def GRel (w : World) (g : Nat) (b : List UInt8) (v : Value) (wr : World) : Prop :=
  ∃ (A : Option Addr) (n c : Nat) (l : List Op1) (k : Nat) (rest : List UInt8), v = .slice A n c ∧ OO wr (g + 1) 64 A n c l ∧ Rd wr g rest false ∧ rest.length ≤ k ∧ getF k rest (obs l) = getO b ∧
    l.length + rest.length ≤ b.length ∧ (∀ o ∈ l, o.body.length + rest.length ≤ b.length) ∧ Below w.heap.size w wr
/-- What a round leaves: the loop's relation, with less left. -/
def GNext (w : World) (g : Nat) (b : List UInt8) (m : Nat) (v : Value) (wr : World) : Prop := GRel w g b v wr ∧ rdLeft wr g < m

theorem rdSh_1 (c : UInt8) (r : List UInt8) (sh : Bool) : rdSh (c :: r) 1 sh = sh := if_pos ⟨by omega, by simp; omega⟩
theorem rdTake_1 (c : UInt8) (r : List UInt8) : rdTake (c :: r) 1 = [c] := by rw [rdTake, if_pos ⟨by omega, by simp; omega⟩]; rfl
theorem rdDrop_1 (c : UInt8) (r : List UInt8) : rdDrop (c :: r) 1 = r := by rw [rdDrop, if_pos ⟨by omega, by simp; omega⟩]; rfl
theorem beN_1 (c : UInt8) : beN [c] = c.toNat := by simp [beN]

/-- append(own row of options, one that was just made), at one operation. -/
theorem infoOpt : (Try.prog.info? 64).map (fun i => (i.zero, i.size, i.bytes)) = some (some (.agg #[.int .i64 0, .slice none 0 0]), 2, 32) := by kernel_rfl
theorem wp_appO {w : World} {o : Oper} {a : Act} {K : Act → World → Prop} {Q : Exit → Act → World → Prop} (s x : Operand) (T t : TypeId) (hT : Try.prog.underlying T = some (.slice t))
    (hI : (Try.prog.info? t).map (fun i => (i.zero, i.size, i.bytes)) = some (some (.agg #[.int .i64 0, .slice none 0 0]), 2, 32)) (ht : t ≠ 5)
    (ho : o.op = .call { callee := .builtin .append, args := #[s, x], argTypes := #[T, T] })
    (H : Nat) (A : Option Addr) (n c : Nat) (l : List Op1) (hs : a.eval s = .slice A n c) (hown : OO w H t A n c l)
    (g : Nat) (c2 : Nat) (hx : a.eval x = .slice (some ⟨g, 0, none⟩) 1 c2) (code : Int) (A2 : Option Addr) (n2 cc2 : Nat) (b : List UInt8)
    (hg : w.heap[g]? = some (.cells #[.int .i64 code, .slice A2 n2 cc2] t (0, 0))) (hb : OB w H A2 n2 cc2 b)
    (hf : ∀ o ∈ l, ∀ k, o.blk = some k → (Value.slice A2 n2 cc2).ownBlock ≠ some k)
    (hlen : l.length + 1 ≤ 2199023255552) (hbase : H ≤ w.heap.size)
    (h : ∀ A' c' w', OO w' H t A' (n + 1) c' (l ++ [⟨code, A2, n2, cc2, b⟩]) → Below H w w' → w.grownBy w' (Value.slice A n c).ownBlock → K (a.put o.dst (.slice A' (n + 1) c')) w') : o.wp Try.prog a w K Q := by
  obtain ⟨i0, hi, hz0, hz1, hz2⟩ := info_parts hI
  have hn := hown.1
  obtain ⟨v', w', hrun, h2, h3, _, h5⟩ := run_append_own_at (P := Try.prog) w H T o.type t i0 _ 2 32 hT hi hz0 hz1 hz2 rfl (by omega) _ n (opCells l) hown.2.1 ⟨g, 0, none⟩ 1 c2
    [.int .i64 code, .slice A2 n2 cc2] rfl (fun j u hu => by rw [Addr.add_lit, Nat.zero_add, cell_of_row w g j _ _ _ hg]; simpa using hu) (by simp [Value.oneCell']) (by unfold maxLen; omega) (by omega) hbase
  have hform : ∃ A' c', v' = Value.slice A' (n + 1) c' := by
    rcases h2.2 with ⟨hv, h0⟩ | ⟨g', cap, _, hv, _⟩
    · omega
    · exact ⟨_, _, hv⟩
  obtain ⟨A', c', rfl⟩ := hform
  unfold Oper.wp execOp
  simp only [ho, resolve, invoke, builtin, Sem.run_bind, Sem.run_pure, Result.andThen_ok, List.map_toArray, List.map_cons, List.map_nil, hs, hx, hrun]
  exact h A' c' w' (hown.snoc ht hb hf h2 h3) ((Below.refl H w).grown h3 hbase fun k hk => (hown.2.1.lt k hk).1) h3
theorem appO {w : World} {ops : Array Oper} {rest : List Oper} {o : Oper} {a : Act} {Q : Exit → Act → World → Prop} (hgd : o.guard = none) (s x : Operand) (T t : TypeId) (hT : Try.prog.underlying T = some (.slice t))
    (hI : (Try.prog.info? t).map (fun i => (i.zero, i.size, i.bytes)) = some (some (.agg #[.int .i64 0, .slice none 0 0]), 2, 32)) (ht : t ≠ 5)
    (ho : o.op = .call { callee := .builtin .append, args := #[s, x], argTypes := #[T, T] })
    (H : Nat) (A : Option Addr) (n c : Nat) (l : List Op1) (hs : a.eval s = .slice A n c) (hown : OO w H t A n c l)
    (g : Nat) (c2 : Nat) (hx : a.eval x = .slice (some ⟨g, 0, none⟩) 1 c2) (code : Int) (A2 : Option Addr) (n2 cc2 : Nat) (b : List UInt8)
    (hg : w.heap[g]? = some (.cells #[.int .i64 code, .slice A2 n2 cc2] t (0, 0))) (hb : OB w H A2 n2 cc2 b)
    (hf : ∀ o ∈ l, ∀ k, o.blk = some k → (Value.slice A2 n2 cc2).ownBlock ≠ some k)
    (hlen : l.length + 1 ≤ 2199023255552) (hbase : H ≤ w.heap.size)
    (h : ∀ A' c' w', OO w' H t A' (n + 1) c' (l ++ [⟨code, A2, n2, cc2, b⟩]) → Below H w w' → w.grownBy w' (Value.slice A n c).ownBlock → wpList Try.prog ops Q rest (a.put o.dst (.slice A' (n + 1) c')) w') : wpList Try.prog ops Q (o :: rest) a w :=
  wpList_plain hgd fun _ hK => wp_appO s x T t hT hI ht ho H A n c l hs hown g c2 hx code A2 n2 cc2 b hg hb hf hlen hbase fun A' c' w' h1 h2 h3 => hK _ _ (h A' c' w' h1 h2 h3)

/-- append(own row of bytes, bytes...), and where the new row lies. -/
theorem app8at {w : World} {ops : Array Oper} {rest : List Oper} {o : Oper} {a : Act} {Q : Exit → Act → World → Prop} (hgd : o.guard = none) (s x : Operand)
    (ho : o.op = .call { callee := .builtin .append, args := #[s, x], argTypes := #[62, 62] })
    (H : Nat) (A : Option Addr) (n c : Nat) (l : List UInt8) (hs : a.eval s = .slice A n c) (hown : OB w H A n c l)
    (B : Nat) (A2 : Option Addr) (n2 c2 : Nat) (l2 : List UInt8) (hx : a.eval x = .slice A2 n2 c2) (hr : BS w B A2 n2 c2 l2)
    (hlen : l.length + l2.length ≤ 140737488355328) (hbase : H ≤ w.heap.size)
    (h : ∀ A' n' c' w', OB w' H A' n' c' (l ++ l2) → Below H w w' → w.grownBy w' (Value.slice A n c).ownBlock → ((Value.slice A' n' c').ownBlock = (Value.slice A n c).ownBlock ∨ (Value.slice A' n' c').ownBlock = some w.heap.size) → wpList Try.prog ops Q rest (a.put o.dst (.slice A' n' c')) w') : wpList Try.prog ops Q (o :: rest) a w := by
  obtain ⟨i0, hi, hz0, hz1, hz2⟩ := info_parts infoU8
  obtain ⟨rfl, hown⟩ := hown
  obtain ⟨rfl, hnc, hcm, hr⟩ := hr
  refine wpList_app w hgd s x 62 ho 5 i0 (.int .u8 0) 1 Try.underlying62 hi hz0 hz1 hz2 rfl H _ _ _ hs hown B A2 _ c2 (bv l2) hx hr (bv_length l2) (bv_one l2) (by unfold maxLen; omega) (by omega) hbase ?_
  intro A' c' w' ho' hg hw
  exact h A' (l.length + l2.length) c' w' ⟨by simp, by rw [bv_append]; exact ho'⟩ ((Below.refl H w).grown hg hbase fun k hk => (hown.lt k hk).1) hg hw
theorem opAt_at (l : List Op1) (code : Int) : (opAt l code = -1 ∧ ∀ o ∈ l, o.code ≠ code) ∨
    ∃ (k : Nat) (x : Op1), opAt l code = (k : Int) ∧ l[k]? = some x ∧ k < l.length ∧ x.code = code ∧ ∀ j y, j < k → l[j]? = some y → y.code ≠ code := by
  unfold opAt
  rcases h : l.findIdx? (fun o => o.code == code) with _ | k
  · left
    refine ⟨by rw [h], fun x hx => ?_⟩
    have := List.findIdx?_eq_none_iff.1 h x hx
    simpa using this
  · right
    obtain ⟨hk, hp, hlt⟩ := List.findIdx?_eq_some_iff_getElem.1 h
    refine ⟨k, l[k], by rw [h], List.getElem?_eq_getElem hk, hk, by simpa using hp, fun j y hj hy => ?_⟩
    have h1 := hlt j hj
    rw [List.getElem?_eq_getElem (by omega)] at hy
    injection hy with hy
    rw [← hy]
    simpa using h1

end Go.Proofs.Ytjpmfmmgmlnanaa
