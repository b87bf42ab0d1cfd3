/-
  conf: what is kept and what is open: rows of the reading's own; a device kept, a port opened.
-/
import Derived.Test.YtnmdiageigbphaaGreatDoorKq2
import Derived.Test.YtnmdiageigbphaaGreatDoorKp9
import Derived.Test.YtnmdiageigbphaaGreatDoorZeros
import Derived.Maps.AppendAt
import Derived.Test.YtnmdiageigbphaaGreatDoorRegion
namespace Go.Proofs.YtnmdiageigbphaaGreatDoor
section
open Go.RowKit

structure Fx where
  m : Mac6
  a : Ad4
structure Opn where
  pr : Int
  po : Int
  a : Ad4
  tp : Int
abbrev fxC (f : Fx) : Array Value := #[.int .u8 (f.m.a.toNat : Int), .int .u8 (f.m.b.toNat : Int), .int .u8 (f.m.c.toNat : Int), .int .u8 (f.m.d.toNat : Int), .int .u8 (f.m.e.toNat : Int), .int .u8 (f.m.f.toNat : Int),
  .int .u8 (f.a.a.toNat : Int), .int .u8 (f.a.b.toNat : Int), .int .u8 (f.a.c.toNat : Int), .int .u8 (f.a.d.toNat : Int)]
abbrev opC (o : Opn) : Array Value := #[.int .i64 o.pr, .int .i64 o.po, .int .u8 (o.a.a.toNat : Int), .int .u8 (o.a.b.toNat : Int), .int .u8 (o.a.c.toNat : Int), .int .u8 (o.a.d.toNat : Int), .int .i64 o.tp]
def fxL (l : List Fx) : List Value := l.flatMap fun f => (fxC f).toList
def opL (l : List Opn) : List Value := l.flatMap fun o => (opC o).toList
theorem fxL_snoc (l : List Fx) (f : Fx) : fxL (l ++ [f]) = fxL l ++ (fxC f).toList := by simp [fxL]
theorem opL_snoc (l : List Opn) (o : Opn) : opL (l ++ [o]) = opL l ++ (opC o).toList := by simp [opL]
theorem fxL_length (l : List Fx) : (fxL l).length = l.length * 10 := by
  induction l with
  | nil => rfl
  | cons f l ih => rw [show fxL (f :: l) = (fxC f).toList ++ fxL l by simp [fxL], List.length_append, ih]; simp; omega
theorem opL_length (l : List Opn) : (opL l).length = l.length * 7 := by
  induction l with
  | nil => rfl
  | cons f l ih => rw [show opL (f :: l) = (opC f).toList ++ opL l by simp [opL], List.length_append, ih]; simp; omega
/-- A row of the call's own, above block H, of structs of K cells. -/
def TO (w : World) (H : Nat) (t : TypeId) (K : Nat) (A : Option Addr) (n c : Nat) (k : Nat) (l : List Value) : Prop := n = k ∧ w.ownsRow H t K (.slice A n c) n l
abbrev FO (w : World) (H : Nat) (A : Option Addr) (n c : Nat) (l : List Fx) : Prop := TO w H 73 10 A n c l.length (fxL l)
abbrev PO (w : World) (H : Nat) (A : Option Addr) (n c : Nat) (l : List Opn) : Prop := TO w H 48 7 A n c l.length (opL l)
section
variable {w w' : World} {H K n c k : Nat} {t : TypeId} {A : Option Addr} {l : List Value}
theorem TO.nil_ (w : World) (H : Nat) (t : TypeId) (K : Nat) : TO w H t K none 0 0 0 [] := ⟨rfl, World.ownsRow_nil _ _ _ _⟩
theorem TO.ne (h : TO w H t K A n c k l) {g : Nat} {cs : Array Value} {t' : TypeId} {fr : Nat × Nat} (hg : w.heap[g]? = some (.cells cs t' fr)) (ht : t' ≠ t) : (Value.slice A n c).ownBlock = none ∨ (Value.slice A n c).ownBlock ≠ some g := by
  rcases h.2.2 with ⟨hv, _⟩ | ⟨g', cap, cur, hv, _, hh, _⟩
  · injection hv with e _ _
    subst e
    exact .inl rfl
  · right
    intro e
    injection hv with e1 _ _
    subst e1
    have : g' = g := by simpa [Value.ownBlock] using e
    subst this
    rw [hg] at hh
    injection hh with hh
    injection hh with _ hh
    exact ht hh
theorem TO.ne_of (h : TO w H t K A n c k l) {g : Nat} {o : Obj} (hg : w.heap[g]? = some o) (ho : ∀ cs fr, o ≠ .cells cs t fr) : (Value.slice A n c).ownBlock = none ∨ (Value.slice A n c).ownBlock ≠ some g := by
  rcases h.2.2 with ⟨hv, _⟩ | ⟨g', cap, cur, hv, _, hh, _⟩
  · injection hv with e _ _
    subst e
    exact .inl rfl
  · right
    intro e
    injection hv with e1 _ _
    subst e1
    have : g' = g := by simpa [Value.ownBlock] using e
    subst this
    rw [hg] at hh
    injection hh with hh
    exact ho _ _ hh
theorem TO.kept (h : TO w H t K A n c k l) {row : Option Nat} (hg : w.grownBy w' row) (h1 : (Value.slice A n c).ownBlock = none ∨ (Value.slice A n c).ownBlock ≠ row) : TO w' H t K A n c k l := ⟨h.1, h.2.kept hg h1⟩
theorem TO.below (h : TO w H t K A n c k l) (hb : Below w.heap.size w w') : TO w' H t K A n c k l := by
  refine h.kept (grown_of_below none hb) ?_
  rcases (Value.slice A n c).ownBlock with _ | k
  · exact .inl rfl
  · exact .inr (by simp)
theorem TO.lt (h : TO w H t K A n c k l) : ∀ b, (Value.slice A n c).ownBlock = some b → H ≤ b ∧ b < w.heap.size := h.2.lt
end
theorem TO.ext {M : Nat → Prop} {w w' : World} {H K n c k : Nat} {t : TypeId} {A : Option Addr} {l : List Value} (h : TO w H t K A n c k l) (hx : Ext M w w') (hM : ∀ j, (Value.slice A n c).ownBlock = some j → ¬ M j) : TO w' H t K A n c k l := by
  refine ⟨h.1, h.2.1, ?_⟩
  rcases h.2.2 with hn | ⟨g, cap, cur, hv, hb, hg, rest⟩
  · exact .inl hn
  · refine .inr ⟨g, cap, cur, hv, hb, ?_, rest⟩
    refine (hx.block g (heap_lt hg) (hM g ?_)).trans hg
    injection hv with e _ _
    subst e
    rfl
theorem TO.apart {w : World} {H K n c k : Nat} {t : TypeId} {A : Option Addr} {l : List Value} {H2 K2 n2 c2 k2 : Nat} {t2 : TypeId} {A2 : Option Addr} {l2 : List Value} (h : TO w H t K A n c k l) (h2 : TO w H2 t2 K2 A2 n2 c2 k2 l2) (ht : t ≠ t2) :
    ∀ j, (Value.slice A n c).ownBlock = some j → (Value.slice A2 n2 c2).ownBlock ≠ some j := by
  intro j hj
  rcases h.2.2 with ⟨hv, _⟩ | ⟨g, cap, cur, hv, _, hg, _⟩
  · injection hv with e _ _
    subst e
    cases hj
  · injection hv with e _ _
    subst e
    have : g = j := by simpa [Value.ownBlock] using hj
    subst this
    rcases h2.ne hg ht with e | e
    · rw [e]; simp
    · exact e
/-- append(own row of structs, one that was just made), at one operation. -/
theorem wp_appT {w : World} {o : Oper} {a : Act} {Kk : Act → World → Prop} {Q : Exit → Act → World → Prop} (s x : Operand) (T t : TypeId) (K B : Nat) (z : Value) (hT : Tryz.prog.underlying T = some (.slice t))
    (hI : (Tryz.prog.info? t).map (fun i => (i.zero, i.size, i.bytes)) = some (some z, K, B)) (hz : z.cells.size = K) (hK : 0 < K) (hB : B ≤ 1000)
    (ho : o.op = .call { callee := .builtin .append, args := #[s, x], argTypes := #[T, T] })
    (H : Nat) (A : Option Addr) (n c k : Nat) (l : List Value) (hs : a.eval s = .slice A n c) (hown : TO w H t K A n c k l)
    (g c2 : Nat) (hx : a.eval x = .slice (some ⟨g, 0, none⟩) 1 c2) (ys : Array Value) (hy : ys.size = K)
    (hg : w.heap[g]? = some (.cells ys t (0, 0))) (h1 : ys.all (·.oneCell') = true)
    (hlen : k ≤ 1000000) (hbase : H ≤ w.heap.size)
    (h : ∀ A' c' w', TO w' H t K A' (n + 1) c' (k + 1) (l ++ ys.toList) → Below H w w' → w.grownBy w' (Value.slice A n c).ownBlock → Kk (a.put o.dst (.slice A' (n + 1) c')) w') : o.wp Tryz.prog a w Kk Q := by
  obtain ⟨i0, hi, hz0, hz1, hz2⟩ := info_parts hI
  obtain ⟨rfl, hown⟩ := hown
  obtain ⟨v', w', hrun, h2, h3, _, h5⟩ := run_append_own_at (P := Tryz.prog) w H T o.type t i0 z K B hT hi hz0 hz1 hz2 hz hK _ n l hown ⟨g, 0, none⟩ 1 c2
    ys.toList (by simp [hy]) (fun j u hu => by rw [Addr.add_lit, Nat.zero_add, cell_of_row w g j _ _ _ hg]; simpa using hu) (fun u hu => by obtain ⟨i, hi, rfl⟩ := Array.getElem_of_mem (Array.mem_toList_iff.1 hu); exact Array.all_eq_true.1 h1 i hi) (by unfold maxLen; omega)
    (by have : (n + 1) * B ≤ 1000001 * 1000 := Nat.mul_le_mul (by omega) hB; omega) hbase
  have hform : ∃ A' c', v' = Value.slice A' (n + 1) c' := by
    rcases h2.2 with ⟨hv, h0⟩ | ⟨g', cap, _, hv, _⟩
    · omega
    · exact ⟨_, _, hv⟩
  obtain ⟨A', c', rfl⟩ := hform
  unfold Oper.wp execOp
  simp only [ho, resolve, invoke, builtin, Sem.run_bind, Sem.run_pure, Result.andThen_ok, List.map_toArray, List.map_cons, List.map_nil, hs, hx, hrun]
  exact h A' c' w' ⟨rfl, h2⟩ ((Below.refl H w).grown h3 hbase fun k hk => (hown.lt k hk).1) h3
theorem infoFx : (Tryz.prog.info? 73).map (fun i => (i.zero, i.size, i.bytes)) = some (some (.agg (fxC ⟨⟨0, 0, 0, 0, 0, 0⟩, ⟨0, 0, 0, 0⟩⟩)), 10, 10) := by kernel_rfl
theorem infoOp : (Tryz.prog.info? 48).map (fun i => (i.zero, i.size, i.bytes)) = some (some (.agg (opC ⟨0, 0, ⟨0, 0, 0, 0⟩, 0⟩)), 7, 32) := by kernel_rfl
end
section
open Go.RowKit

/-- Behind a value set: one more device. -/
def DevP (w : World) (H g : Nat) (c : Cf) (v0 vo vs : Value) (l : List Fx) (e : Ending) (w' : World) : Prop :=
  ∃ A n k, e = .returned (.tuple #[]) ∧ RB w' g c (.slice A n k) vo vs ∧ FO w' H A n k l ∧ Ext (fun j => j = g ∨ v0.ownBlock = some j) w w'
section
variable (w : World) (m : Mac6) (a : Ad4) (k : Nat)
theorem taAc : (Instr.typeAssert (Vl.a a).val 20 24 false).run Tryz.prog w = .ok (adV a) w := by kernel_rfl
theorem taNc : (Instr.typeAssert (Vl.n k).val 20 3 false).run Tryz.prog w = .ok (.int .i64 (k : Int)) w := by kernel_rfl
end
set_option maxRecDepth 100000 in
set_option maxHeartbeats 8000000 in
theorem device_fx (w : World) (g H : Nat) (c : Cf) (vo vs : Value) (A : Option Addr) (n k : Nat) (lf : List Fx) (hF : FO w H A n k lf) (P : RB w g c (.slice A n k) vo vs) (hgH : g < H) (hH : H ≤ w.heap.size) (hl : lf.length ≤ 100000)
    (m : Mac6) (b o n' c' : Nat) (hn' : 1 ≤ n') (x : Ad4) (hc : w.cell? ⟨b, o, none⟩ = some (Vl.a x).val) (hb : b < w.heap.size) (hbo : b ≠ g) (hbr : (Value.slice A n k).ownBlock ≠ some b) :
    Calls Tryz.prog 94 #[.pointer (some ⟨g, 0, none⟩), .string (str nFixed), macV m, .slice (some ⟨b, o, none⟩) n' c'] w (DevP w H g c (.slice A n k) vo vs (lf ++ [⟨m, x⟩])) := by
  have x1 : ((str nFixed).toList == [108, 97, 110, 109, 97, 99]) = false := by rw [toList_str]; rfl
  have x2 : ((str nFixed).toList == [119, 97, 110, 109, 97, 99]) = false := by rw [toList_str]; rfl
  have t0 := fun w => taAc w x
  obtain ⟨u, hu⟩ : ∃ u, (Vl.a x).val = u := ⟨_, rfl⟩
  rw [hu] at t0 hc
  have P0 : w.heap[g]? = some (.cells (rdC c (.slice A n k) vo vs) 60 (0, 0)) := P
  have P1 : (w.alloc (.cells (maC m) 28)).heap[g]? = some (.cells (rdC c (.slice A n k) vo vs) 60 (0, 0)) := heap_alloc_of P0
  have M1 := heap_alloc_new w (.cells (maC m) 28)
  have q1 : Below w.heap.size w (w.alloc (.cells (maC m) 28)) := (Below.refl _ w).alloc (Nat.le_refl _) _
  have c1 : (w.alloc (.cells (maC m) 28)).cell? ⟨b, o, none⟩ = some u := (World.cell?_of_block (w := w) (a := ⟨b, o, none⟩) (q1.block b hb)).trans hc
  have F1 := hF.below q1
  have hgmn : (Value.slice A n k).ownBlock ≠ some w.heap.size := fun e => by have := (hF.lt _ e).2; omega
  have e1 := Ext.below_all (fun j => j = g ∨ (Value.slice A n k).ownBlock = some j) q1
  have hgl := heap_lt P0
  have hz := q1.size
  obtain ⟨gm, hgm⟩ : ∃ gm, w.heap.size = gm := ⟨_, rfl⟩
  clear hu hc hF P P0
  go_enter Tryz.func94, Tryz.ntmps94
  go_upto_region 2 with fail
  generalize w.alloc (.cells (maC m) 28) = w1 at P1 M1 c1 F1 e1 hz ⊢
  rw [hgm] at M1 hz hb hgl hH hgmn
  clear q1
  have D1 : w1.drew.heap[g]? = some (.cells (rdC c (.slice A n k) vo vs) 60 (0, 0)) := P1
  have bA : Below w1.heap.size w1 (w1.drew.alloc (.cells (fxC ⟨m, x⟩) 73)) := (Below.refl _ w1).drew.alloc (Nat.le_refl _) _
  have P2 := below_at bA P1 (heap_lt P1)
  have F2 := F1.below bA
  have R2 : (w1.drew.alloc (.cells (fxC ⟨m, x⟩) 73)).heap[w1.heap.size]? = some (.cells (fxC ⟨m, x⟩) 73 (0, 0)) := heap_alloc_new w1.drew _
  have kA := (cells_of D1).1 38
  have kB : (w1.alloc (.cells (fxC ⟨m, x⟩) 73)).cell? ⟨g, 38, none⟩ = _ := (cells_of P2).1 38
  have kC : (w1.alloc (.cells (fxC ⟨m, x⟩) 73)).drew.cell? ⟨g, 38, none⟩ = _ := (cells_of P2).1 38
  have hrow := F1.ne P1 (by decide)
  have hrow2 : some g ≠ (Value.slice A n k).ownBlock := by
    rcases hrow with e | e
    · rw [e]; simp
    · exact Ne.symm e
  have HM : ∀ j, j ≠ g → (Value.slice A n k).ownBlock ≠ some j → ¬ (j = g ∨ (Value.slice A n k).ownBlock = some j) := by
    rintro j h1 h2 (h | h)
    · exact h1 h
    · exact h2 h
  have hzb : H ≤ (w1.drew.alloc (.cells (fxC ⟨m, x⟩) 73)).heap.size := by have := bA.size; omega
  have hgmr : (Value.slice A n k).ownBlock ≠ some gm := hgmn
  have KM := Ext.at_ (w := w1.drew) (M := fun j => j = g ∨ (Value.slice A n k).ownBlock = some j) M1 (HM gm (by omega) hgmr)
  have k1 := Ext.cell (w := w1.drew) (M := fun j => j = g ∨ (Value.slice A n k).ownBlock = some j) c1 (HM b hbo hbr)
  have hin : (0 : Int) < (n' : Int) := by omega
  have HMx := Lib.hid HM
  clear HM c1 M1 D1
  refine rg_begin (fun j => j = g ∨ (Value.slice A n k).ownBlock = some j) (by kernel_rfl) ?_
  refine rg_take (v := ?_) 0 rfl (by kernel_rfl) (by kernel_rfl) (by kernel_rfl) (fun _ _ _ h => h) (by rfl) ?_ ?_; rotate_left
  · (intro x hx; go_simp; first | done | with_reducible rfl | (rw [if_pos (by omega)]; try with_reducible rfl) | (rw [if_neg (by omega)]; try with_reducible rfl))
  try simp only [Act.put, List.setIfInBounds_toArray, List.set_cons_zero, List.set_cons_succ]
  refine rg_take (v := ?_) 1 rfl (by kernel_rfl) (by kernel_rfl) (by kernel_rfl) (fun _ _ _ h => h) (by rfl) ?_ ?_; rotate_left
  · (intro x hx; go_simp; first | done | with_reducible rfl | (rw [if_pos (by omega)]; try with_reducible rfl) | (rw [if_neg (by omega)]; try with_reducible rfl))
  try simp only [Act.put, List.setIfInBounds_toArray, List.set_cons_zero, List.set_cons_succ]
  refine rg_take (v := ?_) 2 rfl (by kernel_rfl) (by kernel_rfl) (by kernel_rfl) (fun _ _ _ h => h) (by rfl) ?_ ?_; rotate_left
  · (intro x hx; go_simp; first | done | with_reducible rfl | (rw [if_pos (by omega)]; try with_reducible rfl) | (rw [if_neg (by omega)]; try with_reducible rfl))
  try simp only [Act.put, List.setIfInBounds_toArray, List.set_cons_zero, List.set_cons_succ]
  refine rg_take (v := ?_) 3 rfl (by kernel_rfl) (by kernel_rfl) (by kernel_rfl) (fun _ _ _ h => h) (by rfl) ?_ ?_; rotate_left
  · (intro x hx; go_simp; first | done | with_reducible rfl | (rw [if_pos (by omega)]; try with_reducible rfl) | (rw [if_neg (by omega)]; try with_reducible rfl))
  try simp only [Act.put, List.setIfInBounds_toArray, List.set_cons_zero, List.set_cons_succ]
  refine rg_take (v := ?_) 4 rfl (by kernel_rfl) (by kernel_rfl) (by kernel_rfl) (fun _ _ _ h => h) (by rfl) ?_ ?_; rotate_left
  · (intro x hx; go_simp; first | done | with_reducible rfl | (rw [if_pos (by omega)]; try with_reducible rfl) | (rw [if_neg (by omega)]; try with_reducible rfl))
  try simp only [Act.put, List.setIfInBounds_toArray, List.set_cons_zero, List.set_cons_succ]
  refine rg_take (v := .agg (maC m)) 6 rfl (by kernel_rfl) (by kernel_rfl) (by kernel_rfl) (fun _ _ _ h => h) (by rfl) ?_ ?_
  · (intro x hx; apply run_load_big; (case ho => exact rfl); (case hv => exact rfl); (case hg => exact KM x hx); (case hu => exact Tryz.underlying28); (case hd => rfl); (case hi => kernel_rfl))
  try simp only [Act.put, List.setIfInBounds_toArray, List.set_cons_zero, List.set_cons_succ]
  refine rg_take (v := ?_) 7 rfl (by kernel_rfl) (by kernel_rfl) (by kernel_rfl) (fun _ _ _ h => h) (by rfl) ?_ ?_; rotate_left
  · (intro x hx; go_simp; first | done | with_reducible rfl | (rw [if_pos (by omega)]; try with_reducible rfl) | (rw [if_neg (by omega)]; try with_reducible rfl))
  try simp only [Act.put, List.setIfInBounds_toArray, List.set_cons_zero, List.set_cons_succ]
  refine rg_take (v := ?_) 8 rfl (by kernel_rfl) (by kernel_rfl) (by kernel_rfl) (fun _ _ _ h => h) (by rfl) ?_ ?_; rotate_left
  · (intro x hx; go_simp; first | done | with_reducible rfl | (rw [if_pos (by omega)]; try with_reducible rfl) | (rw [if_neg (by omega)]; try with_reducible rfl))
  try simp only [Act.put, List.setIfInBounds_toArray, List.set_cons_zero, List.set_cons_succ]
  refine rg_take (v := ?_) 9 rfl (by kernel_rfl) (by kernel_rfl) (by kernel_rfl) (fun _ _ _ h => h) (by rfl) ?_ ?_; rotate_left
  · (intro x hx; go_simp; first | done | with_reducible rfl | (rw [if_pos (by omega)]; try with_reducible rfl) | (rw [if_neg (by omega)]; try with_reducible rfl))
  try simp only [Act.put, List.setIfInBounds_toArray, List.set_cons_zero, List.set_cons_succ]
  refine rg_take (v := ?_) 10 rfl (by kernel_rfl) (by kernel_rfl) (by kernel_rfl) (fun _ _ _ h => h) (by rfl) ?_ ?_; rotate_left
  · (intro x hx; go_simp; first | done | with_reducible rfl | (rw [if_pos (by omega)]; try with_reducible rfl) | (rw [if_neg (by omega)]; try with_reducible rfl))
  try simp only [Act.put, List.setIfInBounds_toArray, List.set_cons_zero, List.set_cons_succ]
  refine rg_take (v := ?_) 11 rfl (by kernel_rfl) (by kernel_rfl) (by kernel_rfl) (fun _ _ _ h => h) (by rfl) ?_ ?_; rotate_left
  · (intro x hx; go_simp; first | done | with_reducible rfl | (rw [if_pos (by omega)]; try with_reducible rfl) | (rw [if_neg (by omega)]; try with_reducible rfl))
  try simp only [Act.put, List.setIfInBounds_toArray, List.set_cons_zero, List.set_cons_succ]
  refine rg_two 5 12 rfl rfl (by kernel_rfl) (by rfl) (by rfl) (fun K hK => ?_) (fun K hK => ?_)
  · go_simp
    refine hK.out _ _ (Ext.refl _ _) ?_
    clear hK K; try simp only [Act.put, List.setIfInBounds_toArray, List.set_cons_zero, List.set_cons_succ]
    refine rg_step 12 rfl (by kernel_rfl) (by rfl) (fun K hK => ?_)
    go_simp
    refine hK.out _ _ (Ext.below_all _ ((Below.refl _ _).alloc (Nat.le_refl _) _)) ?_
    clear hK K; try simp only [Act.put, List.setIfInBounds_toArray, List.set_cons_zero, List.set_cons_succ]
    refine rg_step 13 rfl (by kernel_rfl) (by rfl) (fun K hK => ?_)
    refine wp_appT _ _ 29 73 10 10 _ Tryz.underlying29 infoFx rfl (by omega) (by omega) rfl H A n k _ (fxL lf) rfl F2 w1.heap.size 1 rfl (fxC ⟨m, x⟩) rfl R2 (by simp [Value.oneCell']) (by omega) hzb ?_
    intro A2 k2 w3 F3 b3 g3
    have P3 : w3.heap[g]? = some (.cells (rdC c (.slice A n k) vo vs) 60 (0, 0)) := (g3.block g (heap_lt P2) hrow2).trans P2
    refine hK.out _ _ (Ext.of_grown g3 (fun j hj => .inr hj)) ?_
    clear hK K; try simp only [Act.put, List.setIfInBounds_toArray, List.set_cons_zero, List.set_cons_succ]
    refine rg_take (v := ?_) 14 rfl (by kernel_rfl) (by kernel_rfl) (by kernel_rfl) (fun _ _ _ h => h) (by rfl) ?_ ?_; rotate_left
    · (intro x hx; go_simp; first | done | with_reducible rfl | (rw [if_pos (by omega)]; try with_reducible rfl) | (rw [if_neg (by omega)]; try with_reducible rfl))
    try simp only [Act.put, List.setIfInBounds_toArray, List.set_cons_zero, List.set_cons_succ]
    refine rg_take (v := ?_) 15 rfl (by kernel_rfl) (by kernel_rfl) (by kernel_rfl) (fun _ _ _ h => h) (by rfl) ?_ ?_; rotate_left
    · (intro x hx; go_simp; first | done | with_reducible rfl | (rw [if_pos (by omega)]; try with_reducible rfl) | (rw [if_neg (by omega)]; try with_reducible rfl))
    try simp only [Act.put, List.setIfInBounds_toArray, List.set_cons_zero, List.set_cons_succ]
    refine rg_take (v := ?_) 16 rfl (by kernel_rfl) (by kernel_rfl) (by kernel_rfl) (fun _ _ _ h => h) (by rfl) ?_ ?_; rotate_left
    · (intro x hx; go_simp; first | done | with_reducible rfl | (rw [if_pos (by omega)]; try with_reducible rfl) | (rw [if_neg (by omega)]; try with_reducible rfl))
    try simp only [Act.put, List.setIfInBounds_toArray, List.set_cons_zero, List.set_cons_succ]
    refine rg_step 17 rfl (by kernel_rfl) (by rfl) (fun K hK => ?_)
    --RAW
    apply wp_store_one 29
    case ho => exact rfl
    case hx => exact rfl
    case hy => exact rfl
    case hg => exact P3
    case hle => simp
    case hv => rfl
    case hi => kernel_rfl
    case h1 => rfl
    intro w5 g5 P5
    refine hK.out _ _ (Ext.of_grown g5 (fun j h => by injection h with h; exact .inl h.symm)) ?_
    clear hK K
    refine rg_done (by kernel_rfl) ?_
    --TAIL
    go_wp2_with fail
    refine bodyPost_end (v := .tuple #[]) (by simp [results, Tryz.results94]) rfl ?_
    refine ⟨A2, n + 1, k2, rfl, P5, ?_, ?_⟩
    · obtain ⟨f1, f2⟩ := F3.kept g5 (F3.ne P3 (by decide))
      exact ⟨by rw [f1, List.length_append]; rfl, by rw [fxL_snoc]; exact f2⟩
    · exact ((e1.trans (Ext.below_all _ bA)).trans (Ext.of_grown g3 fun j hj => .inr hj)).trans (Ext.of_grown g5 (fun j h => by injection h with h; exact .inl h.symm))
  · go_simp
    refine hK.out _ _ (Ext.below_all _ ((Below.refl _ _).alloc (Nat.le_refl _) _)) ?_
    clear hK K; try simp only [Act.put, List.setIfInBounds_toArray, List.set_cons_zero, List.set_cons_succ]
    refine rg_step 5 rfl (by kernel_rfl) (by rfl) (fun K hK => ?_)
    go_simp
    refine hK.out _ _ (Ext.refl _ _) ?_
    clear hK K; try simp only [Act.put, List.setIfInBounds_toArray, List.set_cons_zero, List.set_cons_succ]
    refine rg_step 13 rfl (by kernel_rfl) (by rfl) (fun K hK => ?_)
    refine wp_appT _ _ 29 73 10 10 _ Tryz.underlying29 infoFx rfl (by omega) (by omega) rfl H A n k _ (fxL lf) rfl F2 w1.heap.size 1 rfl (fxC ⟨m, x⟩) rfl R2 (by simp [Value.oneCell']) (by omega) hzb ?_
    intro A2 k2 w3 F3 b3 g3
    have P3 : w3.heap[g]? = some (.cells (rdC c (.slice A n k) vo vs) 60 (0, 0)) := (g3.block g (heap_lt P2) hrow2).trans P2
    refine hK.out _ _ (Ext.of_grown g3 (fun j hj => .inr hj)) ?_
    clear hK K; try simp only [Act.put, List.setIfInBounds_toArray, List.set_cons_zero, List.set_cons_succ]
    refine rg_take (v := ?_) 14 rfl (by kernel_rfl) (by kernel_rfl) (by kernel_rfl) (fun _ _ _ h => h) (by rfl) ?_ ?_; rotate_left
    · (intro x hx; go_simp; first | done | with_reducible rfl | (rw [if_pos (by omega)]; try with_reducible rfl) | (rw [if_neg (by omega)]; try with_reducible rfl))
    try simp only [Act.put, List.setIfInBounds_toArray, List.set_cons_zero, List.set_cons_succ]
    refine rg_take (v := ?_) 15 rfl (by kernel_rfl) (by kernel_rfl) (by kernel_rfl) (fun _ _ _ h => h) (by rfl) ?_ ?_; rotate_left
    · (intro x hx; go_simp; first | done | with_reducible rfl | (rw [if_pos (by omega)]; try with_reducible rfl) | (rw [if_neg (by omega)]; try with_reducible rfl))
    try simp only [Act.put, List.setIfInBounds_toArray, List.set_cons_zero, List.set_cons_succ]
    refine rg_take (v := ?_) 16 rfl (by kernel_rfl) (by kernel_rfl) (by kernel_rfl) (fun _ _ _ h => h) (by rfl) ?_ ?_; rotate_left
    · (intro x hx; go_simp; first | done | with_reducible rfl | (rw [if_pos (by omega)]; try with_reducible rfl) | (rw [if_neg (by omega)]; try with_reducible rfl))
    try simp only [Act.put, List.setIfInBounds_toArray, List.set_cons_zero, List.set_cons_succ]
    refine rg_step 17 rfl (by kernel_rfl) (by rfl) (fun K hK => ?_)
    --RAW
    apply wp_store_one 29
    case ho => exact rfl
    case hx => exact rfl
    case hy => exact rfl
    case hg => exact P3
    case hle => simp
    case hv => rfl
    case hi => kernel_rfl
    case h1 => rfl
    intro w5 g5 P5
    refine hK.out _ _ (Ext.of_grown g5 (fun j h => by injection h with h; exact .inl h.symm)) ?_
    clear hK K
    refine rg_done (by kernel_rfl) ?_
    --TAIL
    go_wp2_with fail
    refine bodyPost_end (v := .tuple #[]) (by simp [results, Tryz.results94]) rfl ?_
    refine ⟨A2, n + 1, k2, rfl, P5, ?_, ?_⟩
    · obtain ⟨f1, f2⟩ := F3.kept g5 (F3.ne P3 (by decide))
      exact ⟨by rw [f1, List.length_append]; rfl, by rw [fxL_snoc]; exact f2⟩
    · exact ((e1.trans (Ext.below_all _ bA)).trans (Ext.of_grown g3 fun j hj => .inr hj)).trans (Ext.of_grown g5 (fun j h => by injection h with h; exact .inl h.symm))
end
section
open Go.RowKit

/-- Behind a value set: one more port. -/
def OpnP (w : World) (H g : Nat) (c : Cf) (vf v0 vs : Value) (l : List Opn) (e : Ending) (w' : World) : Prop :=
  ∃ A n k, e = .returned (.tuple #[]) ∧ RB w' g c vf (.slice A n k) vs ∧ PO w' H A n k l ∧ Ext (fun j => j = g ∨ v0.ownBlock = some j) w w'
set_option maxRecDepth 100000 in
set_option maxHeartbeats 8000000 in
theorem count_op (w : World) (g H : Nat) (c : Cf) (vf vs : Value) (A : Option Addr) (n k : Nat) (lf : List Opn) (hF : PO w H A n k lf) (P : RB w g c vf (.slice A n k) vs) (hgH : g < H) (hH : H ≤ w.heap.size) (hl : lf.length ≤ 100000)
    (pr po tp : Nat) (b o n' c' : Nat) (hn' : 3 ≤ n') (x : Ad4) (hc : w.cell? ⟨b, o, none⟩ = some (Vl.n po).val ∧ w.cell? ⟨b, o + 1, none⟩ = some (Vl.a x).val ∧ w.cell? ⟨b, o + 2, none⟩ = some (Vl.n tp).val) (hb : b < w.heap.size) (hbo : b ≠ g) (hbr : (Value.slice A n k).ownBlock ≠ some b) :
    Calls Tryz.prog 95 #[.pointer (some ⟨g, 0, none⟩), .string (str nOpen), .int .i64 (pr : Int), .slice (some ⟨b, o, none⟩) n' c'] w (OpnP w H g c vf (.slice A n k) vs (lf ++ [⟨pr, po, x, tp⟩])) := by
  have x1 : ((str nOpen).toList == [116, 105, 109, 101]) = false := by rw [toList_str]; rfl
  have x2 : ((str nOpen).toList == [117, 100, 112, 116, 105, 109, 101]) = false := by rw [toList_str]; rfl
  have x3 : ((str nOpen).toList == [116, 99, 112, 116, 105, 109, 101]) = false := by rw [toList_str]; rfl
  have x4 : ((str nOpen).toList == [105, 99, 109, 112, 116, 105, 109, 101]) = false := by rw [toList_str]; rfl
  have x5 : ((str nOpen).toList == [108, 111, 119]) = false := by rw [toList_str]; rfl
  have t0 := fun w => taAc w x
  have t1 := fun w => taNc w po
  have t2 := fun w => taNc w tp
  obtain ⟨c0, c1, c2⟩ := hc
  obtain ⟨u, hu⟩ : ∃ u, (Vl.a x).val = u := ⟨_, rfl⟩
  obtain ⟨u1, hu1⟩ : ∃ u, (Vl.n po).val = u := ⟨_, rfl⟩
  obtain ⟨u2, hu2⟩ : ∃ u, (Vl.n tp).val = u := ⟨_, rfl⟩
  rw [hu] at t0 c1
  rw [hu1] at t1 c0
  rw [hu2] at t2 c2
  have P1 : w.heap[g]? = some (.cells (rdC c vf (.slice A n k) vs) 60 (0, 0)) := P
  have hgl := heap_lt P1
  clear hu hu1 hu2 P
  go_enter Tryz.func95, Tryz.ntmps95
  go_upto_region 1 with fail
  have D1 : w.drew.heap[g]? = some (.cells (rdC c vf (.slice A n k) vs) 60 (0, 0)) := P1
  have bA : Below w.heap.size w (w.drew.alloc (.cells (opC ⟨pr, po, x, tp⟩) 48)) := (Below.refl _ w).drew.alloc (Nat.le_refl _) _
  have P2 := below_at bA P1 (heap_lt P1)
  have F2 := hF.below bA
  have R2 : (w.drew.alloc (.cells (opC ⟨pr, po, x, tp⟩) 48)).heap[w.heap.size]? = some (.cells (opC ⟨pr, po, x, tp⟩) 48 (0, 0)) := heap_alloc_new w.drew _
  have kA := (cells_of D1).1 39
  have kB : (w.alloc (.cells (opC ⟨pr, po, x, tp⟩) 48)).cell? ⟨g, 39, none⟩ = _ := (cells_of P2).1 39
  have kC : (w.alloc (.cells (opC ⟨pr, po, x, tp⟩) 48)).drew.cell? ⟨g, 39, none⟩ = _ := (cells_of P2).1 39
  have hrow := hF.ne P1 (by decide)
  have hrow2 : some g ≠ (Value.slice A n k).ownBlock := by
    rcases hrow with e | e
    · rw [e]; simp
    · exact Ne.symm e
  have HM : ∀ j, j ≠ g → (Value.slice A n k).ownBlock ≠ some j → ¬ (j = g ∨ (Value.slice A n k).ownBlock = some j) := by
    rintro j h1 h2 (h | h)
    · exact h1 h
    · exact h2 h
  have hzb : H ≤ (w.drew.alloc (.cells (opC ⟨pr, po, x, tp⟩) 48)).heap.size := by have := bA.size; omega
  have k0 := Ext.cell (w := w.drew) (M := fun j => j = g ∨ (Value.slice A n k).ownBlock = some j) c0 (HM b hbo hbr)
  have k1 := Ext.cell (w := w.drew) (M := fun j => j = g ∨ (Value.slice A n k).ownBlock = some j) c1 (HM b hbo hbr)
  have k2 := Ext.cell (w := w.drew) (M := fun j => j = g ∨ (Value.slice A n k).ownBlock = some j) c2 (HM b hbo hbr)
  have hin : (0 : Int) < (n' : Int) := by omega
  have hin1 : (1 : Int) < (n' : Int) := by omega
  have hin2 : (2 : Int) < (n' : Int) := by omega
  clear HM c0 c1 c2 D1
  refine rg_begin (fun j => j = g ∨ (Value.slice A n k).ownBlock = some j) (by kernel_rfl) ?_
  refine rg_take (v := ?_) 0 rfl (by kernel_rfl) (by kernel_rfl) (by kernel_rfl) (fun _ _ _ h => h) (by rfl) ?_ ?_; rotate_left
  · (intro x hx; go_simp; first | done | with_reducible rfl | (rw [if_pos (by omega)]; try with_reducible rfl) | (rw [if_neg (by omega)]; try with_reducible rfl))
  try simp only [Act.put, List.setIfInBounds_toArray, List.set_cons_zero, List.set_cons_succ]
  refine rg_take (v := ?_) 1 rfl (by kernel_rfl) (by kernel_rfl) (by kernel_rfl) (fun _ _ _ h => h) (by rfl) ?_ ?_; rotate_left
  · (intro x hx; go_simp; first | done | with_reducible rfl | (rw [if_pos (by omega)]; try with_reducible rfl) | (rw [if_neg (by omega)]; try with_reducible rfl))
  try simp only [Act.put, List.setIfInBounds_toArray, List.set_cons_zero, List.set_cons_succ]
  refine rg_take (v := ?_) 2 rfl (by kernel_rfl) (by kernel_rfl) (by kernel_rfl) (fun _ _ _ h => h) (by rfl) ?_ ?_; rotate_left
  · (intro x hx; go_simp; first | done | with_reducible rfl | (rw [if_pos (by omega)]; try with_reducible rfl) | (rw [if_neg (by omega)]; try with_reducible rfl))
  try simp only [Act.put, List.setIfInBounds_toArray, List.set_cons_zero, List.set_cons_succ]
  refine rg_take (v := ?_) 3 rfl (by kernel_rfl) (by kernel_rfl) (by kernel_rfl) (fun _ _ _ h => h) (by rfl) ?_ ?_; rotate_left
  · (intro x hx; go_simp; first | done | with_reducible rfl | (rw [if_pos (by omega)]; try with_reducible rfl) | (rw [if_neg (by omega)]; try with_reducible rfl))
  try simp only [Act.put, List.setIfInBounds_toArray, List.set_cons_zero, List.set_cons_succ]
  refine rg_take (v := ?_) 4 rfl (by kernel_rfl) (by kernel_rfl) (by kernel_rfl) (fun _ _ _ h => h) (by rfl) ?_ ?_; rotate_left
  · (intro x hx; go_simp; first | done | with_reducible rfl | (rw [if_pos (by omega)]; try with_reducible rfl) | (rw [if_neg (by omega)]; try with_reducible rfl))
  try simp only [Act.put, List.setIfInBounds_toArray, List.set_cons_zero, List.set_cons_succ]
  refine rg_take (v := ?_) 6 rfl (by kernel_rfl) (by kernel_rfl) (by kernel_rfl) (fun _ _ _ h => h) (by rfl) ?_ ?_; rotate_left
  · (intro x hx; go_simp; first | done | with_reducible rfl | (rw [if_pos (by omega)]; try with_reducible rfl) | (rw [if_neg (by omega)]; try with_reducible rfl))
  try simp only [Act.put, List.setIfInBounds_toArray, List.set_cons_zero, List.set_cons_succ]
  refine rg_take (v := ?_) 7 rfl (by kernel_rfl) (by kernel_rfl) (by kernel_rfl) (fun _ _ _ h => h) (by rfl) ?_ ?_; rotate_left
  · (intro x hx; go_simp; first | done | with_reducible rfl | (rw [if_pos (by omega)]; try with_reducible rfl) | (rw [if_neg (by omega)]; try with_reducible rfl))
  try simp only [Act.put, List.setIfInBounds_toArray, List.set_cons_zero, List.set_cons_succ]
  refine rg_take (v := ?_) 8 rfl (by kernel_rfl) (by kernel_rfl) (by kernel_rfl) (fun _ _ _ h => h) (by rfl) ?_ ?_; rotate_left
  · (intro x hx; go_simp; first | done | with_reducible rfl | (rw [if_pos (by omega)]; try with_reducible rfl) | (rw [if_neg (by omega)]; try with_reducible rfl))
  try simp only [Act.put, List.setIfInBounds_toArray, List.set_cons_zero, List.set_cons_succ]
  refine rg_take (v := ?_) 9 rfl (by kernel_rfl) (by kernel_rfl) (by kernel_rfl) (fun _ _ _ h => h) (by rfl) ?_ ?_; rotate_left
  · (intro x hx; go_simp; first | done | with_reducible rfl | (rw [if_pos (by omega)]; try with_reducible rfl) | (rw [if_neg (by omega)]; try with_reducible rfl))
  try simp only [Act.put, List.setIfInBounds_toArray, List.set_cons_zero, List.set_cons_succ]
  refine rg_take (v := ?_) 10 rfl (by kernel_rfl) (by kernel_rfl) (by kernel_rfl) (fun _ _ _ h => h) (by rfl) ?_ ?_; rotate_left
  · (intro x hx; go_simp; first | done | with_reducible rfl | (rw [if_pos (by omega)]; try with_reducible rfl) | (rw [if_neg (by omega)]; try with_reducible rfl))
  try simp only [Act.put, List.setIfInBounds_toArray, List.set_cons_zero, List.set_cons_succ]
  refine rg_take (v := ?_) 11 rfl (by kernel_rfl) (by kernel_rfl) (by kernel_rfl) (fun _ _ _ h => h) (by rfl) ?_ ?_; rotate_left
  · (intro x hx; go_simp; first | done | with_reducible rfl | (rw [if_pos (by omega)]; try with_reducible rfl) | (rw [if_neg (by omega)]; try with_reducible rfl))
  try simp only [Act.put, List.setIfInBounds_toArray, List.set_cons_zero, List.set_cons_succ]
  refine rg_take (v := ?_) 12 rfl (by kernel_rfl) (by kernel_rfl) (by kernel_rfl) (fun _ _ _ h => h) (by rfl) ?_ ?_; rotate_left
  · (intro x hx; go_simp; first | done | with_reducible rfl | (rw [if_pos (by omega)]; try with_reducible rfl) | (rw [if_neg (by omega)]; try with_reducible rfl))
  try simp only [Act.put, List.setIfInBounds_toArray, List.set_cons_zero, List.set_cons_succ]
  refine rg_take (v := ?_) 13 rfl (by kernel_rfl) (by kernel_rfl) (by kernel_rfl) (fun _ _ _ h => h) (by rfl) ?_ ?_; rotate_left
  · (intro x hx; go_simp; first | done | with_reducible rfl | (rw [if_pos (by omega)]; try with_reducible rfl) | (rw [if_neg (by omega)]; try with_reducible rfl))
  try simp only [Act.put, List.setIfInBounds_toArray, List.set_cons_zero, List.set_cons_succ]
  refine rg_take (v := ?_) 14 rfl (by kernel_rfl) (by kernel_rfl) (by kernel_rfl) (fun _ _ _ h => h) (by rfl) ?_ ?_; rotate_left
  · (intro x hx; go_simp; first | done | with_reducible rfl | (rw [if_pos (by omega)]; try with_reducible rfl) | (rw [if_neg (by omega)]; try with_reducible rfl))
  try simp only [Act.put, List.setIfInBounds_toArray, List.set_cons_zero, List.set_cons_succ]
  refine rg_take (v := ?_) 15 rfl (by kernel_rfl) (by kernel_rfl) (by kernel_rfl) (fun _ _ _ h => h) (by rfl) ?_ ?_; rotate_left
  · (intro x hx; go_simp; first | done | with_reducible rfl | (rw [if_pos (by omega)]; try with_reducible rfl) | (rw [if_neg (by omega)]; try with_reducible rfl))
  try simp only [Act.put, List.setIfInBounds_toArray, List.set_cons_zero, List.set_cons_succ]
  refine rg_take (v := ?_) 16 rfl (by kernel_rfl) (by kernel_rfl) (by kernel_rfl) (fun _ _ _ h => h) (by rfl) ?_ ?_; rotate_left
  · (intro x hx; go_simp; first | done | with_reducible rfl | (rw [if_pos (by omega)]; try with_reducible rfl) | (rw [if_neg (by omega)]; try with_reducible rfl))
  try simp only [Act.put, List.setIfInBounds_toArray, List.set_cons_zero, List.set_cons_succ]
  refine rg_take (v := ?_) 17 rfl (by kernel_rfl) (by kernel_rfl) (by kernel_rfl) (fun _ _ _ h => h) (by rfl) ?_ ?_; rotate_left
  · (intro x hx; go_simp; first | done | with_reducible rfl | (rw [if_pos (by omega)]; try with_reducible rfl) | (rw [if_neg (by omega)]; try with_reducible rfl))
  try simp only [Act.put, List.setIfInBounds_toArray, List.set_cons_zero, List.set_cons_succ]
  refine rg_take (v := ?_) 18 rfl (by kernel_rfl) (by kernel_rfl) (by kernel_rfl) (fun _ _ _ h => h) (by rfl) ?_ ?_; rotate_left
  · (intro x hx; go_simp; first | done | with_reducible rfl | (rw [if_pos (by omega)]; try with_reducible rfl) | (rw [if_neg (by omega)]; try with_reducible rfl))
  try simp only [Act.put, List.setIfInBounds_toArray, List.set_cons_zero, List.set_cons_succ]
  refine rg_take (v := ?_) 19 rfl (by kernel_rfl) (by kernel_rfl) (by kernel_rfl) (fun _ _ _ h => h) (by rfl) ?_ ?_; rotate_left
  · (intro x hx; go_simp; first | done | with_reducible rfl | (rw [if_pos (by omega)]; try with_reducible rfl) | (rw [if_neg (by omega)]; try with_reducible rfl))
  try simp only [Act.put, List.setIfInBounds_toArray, List.set_cons_zero, List.set_cons_succ]
  refine rg_two 5 20 rfl rfl (by kernel_rfl) (by rfl) (by rfl) (fun K hK => ?_) (fun K hK => ?_)
  · go_simp
    refine hK.out _ _ (Ext.refl _ _) ?_
    clear hK K; try simp only [Act.put, List.setIfInBounds_toArray, List.set_cons_zero, List.set_cons_succ]
    refine rg_step 20 rfl (by kernel_rfl) (by rfl) (fun K hK => ?_)
    go_simp
    refine hK.out _ _ (Ext.below_all _ ((Below.refl _ _).alloc (Nat.le_refl _) _)) ?_
    clear hK K; try simp only [Act.put, List.setIfInBounds_toArray, List.set_cons_zero, List.set_cons_succ]
    refine rg_step 21 rfl (by kernel_rfl) (by rfl) (fun K hK => ?_)
    refine wp_appT _ _ 30 48 7 32 _ Tryz.underlying30 infoOp rfl (by omega) (by omega) rfl H A n k _ (opL lf) rfl F2 w.heap.size 1 rfl (opC ⟨pr, po, x, tp⟩) rfl R2 (by simp [Value.oneCell']) (by omega) hzb ?_
    intro A2 kk2 w3 F3 b3 g3
    have P3 : w3.heap[g]? = some (.cells (rdC c vf (.slice A n k) vs) 60 (0, 0)) := (g3.block g (heap_lt P2) hrow2).trans P2
    refine hK.out _ _ (Ext.of_grown g3 (fun j hj => .inr hj)) ?_
    clear hK K; try simp only [Act.put, List.setIfInBounds_toArray, List.set_cons_zero, List.set_cons_succ]
    refine rg_take (v := ?_) 22 rfl (by kernel_rfl) (by kernel_rfl) (by kernel_rfl) (fun _ _ _ h => h) (by rfl) ?_ ?_; rotate_left
    · (intro x hx; go_simp; first | done | with_reducible rfl | (rw [if_pos (by omega)]; try with_reducible rfl) | (rw [if_neg (by omega)]; try with_reducible rfl))
    try simp only [Act.put, List.setIfInBounds_toArray, List.set_cons_zero, List.set_cons_succ]
    refine rg_take (v := ?_) 23 rfl (by kernel_rfl) (by kernel_rfl) (by kernel_rfl) (fun _ _ _ h => h) (by rfl) ?_ ?_; rotate_left
    · (intro x hx; go_simp; first | done | with_reducible rfl | (rw [if_pos (by omega)]; try with_reducible rfl) | (rw [if_neg (by omega)]; try with_reducible rfl))
    try simp only [Act.put, List.setIfInBounds_toArray, List.set_cons_zero, List.set_cons_succ]
    refine rg_take (v := ?_) 24 rfl (by kernel_rfl) (by kernel_rfl) (by kernel_rfl) (fun _ _ _ h => h) (by rfl) ?_ ?_; rotate_left
    · (intro x hx; go_simp; first | done | with_reducible rfl | (rw [if_pos (by omega)]; try with_reducible rfl) | (rw [if_neg (by omega)]; try with_reducible rfl))
    try simp only [Act.put, List.setIfInBounds_toArray, List.set_cons_zero, List.set_cons_succ]
    refine rg_step 25 rfl (by kernel_rfl) (by rfl) (fun K hK => ?_)
    --RAW
    apply wp_store_one 30
    case ho => exact rfl
    case hx => exact rfl
    case hy => exact rfl
    case hg => exact P3
    case hle => simp
    case hv => rfl
    case hi => kernel_rfl
    case h1 => rfl
    intro w5 g5 P5
    refine hK.out _ _ (Ext.of_grown g5 (fun j h => by injection h with h; exact .inl h.symm)) ?_
    clear hK K
    refine rg_done (by kernel_rfl) ?_
    --TAIL
    go_wp2_with fail
    refine bodyPost_end (v := .tuple #[]) (by simp [results, Tryz.results95]) rfl ?_
    refine ⟨A2, n + 1, kk2, rfl, P5, ?_, ?_⟩
    · obtain ⟨f1, f2⟩ := F3.kept g5 (F3.ne P3 (by decide))
      exact ⟨by rw [f1, List.length_append]; rfl, by rw [opL_snoc]; exact f2⟩
    · exact ((Ext.below_all _ bA).trans (Ext.of_grown g3 fun j hj => .inr hj)).trans (Ext.of_grown g5 (fun j h => by injection h with h; exact .inl h.symm))
  · go_simp
    refine hK.out _ _ (Ext.below_all _ ((Below.refl _ _).alloc (Nat.le_refl _) _)) ?_
    clear hK K; try simp only [Act.put, List.setIfInBounds_toArray, List.set_cons_zero, List.set_cons_succ]
    refine rg_step 5 rfl (by kernel_rfl) (by rfl) (fun K hK => ?_)
    go_simp
    refine hK.out _ _ (Ext.refl _ _) ?_
    clear hK K; try simp only [Act.put, List.setIfInBounds_toArray, List.set_cons_zero, List.set_cons_succ]
    refine rg_step 21 rfl (by kernel_rfl) (by rfl) (fun K hK => ?_)
    refine wp_appT _ _ 30 48 7 32 _ Tryz.underlying30 infoOp rfl (by omega) (by omega) rfl H A n k _ (opL lf) rfl F2 w.heap.size 1 rfl (opC ⟨pr, po, x, tp⟩) rfl R2 (by simp [Value.oneCell']) (by omega) hzb ?_
    intro A2 kk2 w3 F3 b3 g3
    have P3 : w3.heap[g]? = some (.cells (rdC c vf (.slice A n k) vs) 60 (0, 0)) := (g3.block g (heap_lt P2) hrow2).trans P2
    refine hK.out _ _ (Ext.of_grown g3 (fun j hj => .inr hj)) ?_
    clear hK K; try simp only [Act.put, List.setIfInBounds_toArray, List.set_cons_zero, List.set_cons_succ]
    refine rg_take (v := ?_) 22 rfl (by kernel_rfl) (by kernel_rfl) (by kernel_rfl) (fun _ _ _ h => h) (by rfl) ?_ ?_; rotate_left
    · (intro x hx; go_simp; first | done | with_reducible rfl | (rw [if_pos (by omega)]; try with_reducible rfl) | (rw [if_neg (by omega)]; try with_reducible rfl))
    try simp only [Act.put, List.setIfInBounds_toArray, List.set_cons_zero, List.set_cons_succ]
    refine rg_take (v := ?_) 23 rfl (by kernel_rfl) (by kernel_rfl) (by kernel_rfl) (fun _ _ _ h => h) (by rfl) ?_ ?_; rotate_left
    · (intro x hx; go_simp; first | done | with_reducible rfl | (rw [if_pos (by omega)]; try with_reducible rfl) | (rw [if_neg (by omega)]; try with_reducible rfl))
    try simp only [Act.put, List.setIfInBounds_toArray, List.set_cons_zero, List.set_cons_succ]
    refine rg_take (v := ?_) 24 rfl (by kernel_rfl) (by kernel_rfl) (by kernel_rfl) (fun _ _ _ h => h) (by rfl) ?_ ?_; rotate_left
    · (intro x hx; go_simp; first | done | with_reducible rfl | (rw [if_pos (by omega)]; try with_reducible rfl) | (rw [if_neg (by omega)]; try with_reducible rfl))
    try simp only [Act.put, List.setIfInBounds_toArray, List.set_cons_zero, List.set_cons_succ]
    refine rg_step 25 rfl (by kernel_rfl) (by rfl) (fun K hK => ?_)
    --RAW
    apply wp_store_one 30
    case ho => exact rfl
    case hx => exact rfl
    case hy => exact rfl
    case hg => exact P3
    case hle => simp
    case hv => rfl
    case hi => kernel_rfl
    case h1 => rfl
    intro w5 g5 P5
    refine hK.out _ _ (Ext.of_grown g5 (fun j h => by injection h with h; exact .inl h.symm)) ?_
    clear hK K
    refine rg_done (by kernel_rfl) ?_
    --TAIL
    go_wp2_with fail
    refine bodyPost_end (v := .tuple #[]) (by simp [results, Tryz.results95]) rfl ?_
    refine ⟨A2, n + 1, kk2, rfl, P5, ?_, ?_⟩
    · obtain ⟨f1, f2⟩ := F3.kept g5 (F3.ne P3 (by decide))
      exact ⟨by rw [f1, List.length_append]; rfl, by rw [opL_snoc]; exact f2⟩
    · exact ((Ext.below_all _ bA).trans (Ext.of_grown g3 fun j hj => .inr hj)).trans (Ext.of_grown g5 (fun j h => by injection h with h; exact .inl h.symm))
end
section
open Go.RowKit

theorem IO.blk {w : World} {H n c b o : Nat} {l : List Value} (h : IO w H (some ⟨b, o, none⟩) n c l) : o = 0 ∧ n ≤ c ∧ ∃ cs fr, w.heap[b]? = some (.cells cs 20 fr) := by
  rcases h.2.2 with ⟨hv, _⟩ | ⟨g, cap, cur, hv, _, hh, h5, _⟩
  · cases hv
  · injection hv with e1 e2 e3
    injection e1 with e1
    injection e1 with e1 e4
    subst e1 e4 e3
    exact ⟨rfl, by omega, _, _, hh⟩
theorem heap_ne {w : World} {b g : Nat} {c1 c2 : Array Value} {t1 t2 : TypeId} {f1 f2 : Nat × Nat} (h1 : w.heap[b]? = some (.cells c1 t1 f1)) (h2 : w.heap[g]? = some (.cells c2 t2 f2)) (ht : t1 ≠ t2) : b ≠ g := by
  rintro rfl
  rw [h1] at h2
  injection h2 with h2
  injection h2 with _ h2
  exact ht h2
theorem own_ne_b {w : World} {H K n c k b : Nat} {t t' : TypeId} {A : Option Addr} {l : List Value} {cs : Array Value} {fr : Nat × Nat} (h : TO w H t K A n c k l) (hb : w.heap[b]? = some (.cells cs t' fr)) (ht : t' ≠ t) : (Value.slice A n c).ownBlock ≠ some b := by
  rcases h.ne hb ht with e | e
  · rw [e]; simp
  · exact e
set_option maxRecDepth 100000 in
set_option maxHeartbeats 8000000 in
theorem set_fx (w : World) (g H Hi : Nat) (c : Cf) (vo vs : Value) (A : Option Addr) (n k : Nat) (lf : List Fx) (hF : FO w H A n k lf) (P : RB w g c (.slice A n k) vo vs) (hgH : g < H) (hH : H ≤ w.heap.size) (hl : lf.length ≤ 100000)
    (m : Mac6) (x : Ad4) (A2 : Option Addr) (n2 cc : Nat) (hio : IO w Hi A2 n2 cc [(Vl.m m).val, (Vl.a x).val]) :
    Calls Tryz.prog 59 #[.pointer (some ⟨g, 0, none⟩), .string (str nFixed), .slice A2 n2 cc] w (DevP w H g c (.slice A n k) vo vs (lf ++ [⟨m, x⟩])) := by
  obtain ⟨b, o, rfl, hbl, hcell⟩ := hio.at_ (k := 0) rfl
  obtain ⟨_, _, e1, _, hcell1⟩ := hio.at_ (k := 1) rfl
  obtain ⟨rfl, rfl⟩ : b = _ ∧ o = _ := by injection e1 with e1; injection e1 with e1 e2; exact ⟨e1, e2⟩
  have hn : n2 = 2 := hio.1
  obtain ⟨ho, hcap, cs, fr, hob⟩ := hio.blk
  subst hn ho
  have P0 : w.heap[g]? = some (.cells (rdC c (.slice A n k) vo vs) 60 (0, 0)) := P
  have hbg := heap_ne hob P0 (by decide)
  have hbr := own_ne_b hF hob (by decide)
  have t0 := fun w => taMm w m
  obtain ⟨u, hu⟩ : ∃ u, (Vl.m m).val = u := ⟨_, rfl⟩
  rw [hu] at hcell t0
  have hgl := heap_lt P0
  have hcc1 : (cc == 1) = false := by rw [beq_eq_false_iff_ne]; omega
  have hcc2 : cc ≠ 1 := by omega
  have HC1 := Lib.hid hcell1
  clear hio hu P e1 hcell1 hob
  go_enter Tryz.func59, Tryz.ntmps59
  go_upto_region 1 with ((with_reducible apply at_store_new 28); (case hx => exact rfl); (case hy => exact rfl); (case hg => first | rfl | simp); (case hi => kernel_rfl); (case hold => rfl); (case h1 => kernel_rfl))
  have q1 : Below w.heap.size w (w.alloc (.cells (maC m) 28)) := (Below.refl _ w).alloc (Nat.le_refl _) _
  have P1 := below_at q1 P0 hgl
  have F1 := hF.below q1
  have c1 : (w.alloc (.cells (maC m) 28)).cell? ⟨b, 0, none⟩ = some u := (World.cell?_of_block (w := w) (a := ⟨b, 0, none⟩) (q1.block b hbl)).trans hcell
  have c2 : (w.alloc (.cells (maC m) 28)).cell? ⟨b, 0 + 1, none⟩ = some (Vl.a x).val := (World.cell?_of_block (w := w) (a := ⟨b, 0 + 1, none⟩) (q1.block b hbl)).trans HC1.out
  have e1 := Ext.below_all (fun j => j = g ∨ (Value.slice A n k).ownBlock = some j) q1
  have M1 := heap_alloc_new w (.cells (maC m) 28)
  have hbl1 : b < (w.alloc (.cells (maC m) 28)).heap.size := by have := q1.size; omega
  have hH1 : H ≤ (w.alloc (.cells (maC m) 28)).heap.size := by have := q1.size; omega
  obtain ⟨gm, hgm⟩ : ∃ gm, w.heap.size = gm := ⟨_, rfl⟩
  rw [hgm] at M1 ⊢
  have fM := fun j => (cells_of M1).1 j
  have HC2 := Lib.hid c2
  generalize w.alloc (.cells (maC m) 28) = w1 at P1 c1 F1 e1 hbl1 hH1 M1 fM HC2 ⊢
  clear q1 P0 hcell hgm c2 M1
  go_upto_region 2 with fail
  refine rg_begin (fun j => j = g ∨ (Value.slice A n k).ownBlock = some j) (by kernel_rfl) ?_
  refine rg_take (v := ?_) 0 rfl (by kernel_rfl) (by kernel_rfl) (by kernel_rfl) (fun _ _ _ h => h) (by rfl) ?_ ?_; rotate_left
  · (intro x hx; go_simp; first | done | with_reducible rfl | (rw [if_pos (by omega)]; try with_reducible rfl) | (rw [if_neg (by omega)]; try with_reducible rfl))
  try simp only [Act.put, List.setIfInBounds_toArray, List.set_cons_zero, List.set_cons_succ]
  refine rg_take (v := ?_) 1 rfl (by kernel_rfl) (by kernel_rfl) (by kernel_rfl) (fun _ _ _ h => h) (by rfl) ?_ ?_; rotate_left
  · (intro x hx; go_simp; first | done | with_reducible rfl | (rw [if_pos (by omega)]; try with_reducible rfl) | (rw [if_neg (by omega)]; try with_reducible rfl))
  try simp only [Act.put, List.setIfInBounds_toArray, List.set_cons_zero, List.set_cons_succ]
  refine rg_take (v := ?_) 3 rfl (by kernel_rfl) (by kernel_rfl) (by kernel_rfl) (fun _ _ _ h => h) (by rfl) ?_ ?_; rotate_left
  · (intro x hx; go_simp; first | done | with_reducible rfl | (rw [if_pos (by omega)]; try with_reducible rfl) | (rw [if_neg (by omega)]; try with_reducible rfl))
  try simp only [Act.put, List.setIfInBounds_toArray, List.set_cons_zero, List.set_cons_succ]
  refine rg_take (v := ?_) 4 rfl (by kernel_rfl) (by kernel_rfl) (by kernel_rfl) (fun _ _ _ h => h) (by rfl) ?_ ?_; rotate_left
  · (intro x hx; go_simp; first | done | with_reducible rfl | (rw [if_pos (by omega)]; try with_reducible rfl) | (rw [if_neg (by omega)]; try with_reducible rfl))
  try simp only [Act.put, List.setIfInBounds_toArray, List.set_cons_zero, List.set_cons_succ]
  refine rg_step 2 rfl (by kernel_rfl) (by rfl) (fun K hK => ?_)
  go_simp
  refine hK.out _ _ (Ext.refl _ _) ?_
  clear hK K; try simp only [Act.put, List.setIfInBounds_toArray, List.set_cons_zero, List.set_cons_succ]
  refine rg_step 5 rfl (by kernel_rfl) (by rfl) (fun K hK => ?_)
  go_simp
  refine (device_fx w1.drew g H c vo vs A n k lf (F1.below (Below.refl _ _).drew) P1 hgH hH1 hl m b (0 + 1) 1 (cc - 1) (by omega) x HC2.out hbl1 hbg hbr).mono ?_
  rintro e w2 ⟨A3, n3, k3, rfl, P2, F2, g2⟩
  refine hK.out _ _ g2 ?_
  clear hK K; try simp only [Act.put, List.setIfInBounds_toArray, List.set_cons_zero, List.set_cons_succ]
  refine rg_done (by kernel_rfl) ?_
  go_wp2_with fail
  refine bodyPost_ret (v := .tuple #[]) (by simp [results, Tryz.results59]) rfl ?_
  exact ⟨A3, n3, k3, rfl, P2, F2, (e1.trans (Ext.below_all _ (Below.refl _ _).drew)).trans g2⟩
set_option maxRecDepth 100000 in
set_option maxHeartbeats 8000000 in
theorem set_op (w : World) (g H Hi : Nat) (c : Cf) (vf vs : Value) (A : Option Addr) (n k : Nat) (lf : List Opn) (hF : PO w H A n k lf) (P : RB w g c vf (.slice A n k) vs) (hgH : g < H) (hH : H ≤ w.heap.size) (hl : lf.length ≤ 100000)
    (pr po tp : Nat) (x : Ad4) (A2 : Option Addr) (n2 cc : Nat) (hio : IO w Hi A2 n2 cc [(Vl.n pr).val, (Vl.n po).val, (Vl.a x).val, (Vl.n tp).val]) :
    Calls Tryz.prog 59 #[.pointer (some ⟨g, 0, none⟩), .string (str nOpen), .slice A2 n2 cc] w (OpnP w H g c vf (.slice A n k) vs (lf ++ [⟨pr, po, x, tp⟩])) := by
  obtain ⟨b, o, rfl, hbl, hcell⟩ := hio.at_ (k := 0) rfl
  obtain ⟨_, _, e1, _, hcell1⟩ := hio.at_ (k := 1) rfl
  obtain ⟨rfl, rfl⟩ : b = _ ∧ o = _ := by injection e1 with e1; injection e1 with e1 e2; exact ⟨e1, e2⟩
  obtain ⟨_, _, e1, _, hcell2⟩ := hio.at_ (k := 2) rfl
  obtain ⟨rfl, rfl⟩ : b = _ ∧ o = _ := by injection e1 with e1; injection e1 with e1 e2; exact ⟨e1, e2⟩
  obtain ⟨_, _, e1, _, hcell3⟩ := hio.at_ (k := 3) rfl
  obtain ⟨rfl, rfl⟩ : b = _ ∧ o = _ := by injection e1 with e1; injection e1 with e1 e2; exact ⟨e1, e2⟩
  have hn : n2 = 4 := hio.1
  obtain ⟨ho, hcap, cs, fr, hob⟩ := hio.blk
  subst hn ho
  have P0 : w.heap[g]? = some (.cells (rdC c vf (.slice A n k) vs) 60 (0, 0)) := P
  have hbg := heap_ne hob P0 (by decide)
  have hbr := own_ne_b hF hob (by decide)
  have t0 := fun w => taMn w pr
  have t1 := fun w => taNn w pr
  obtain ⟨u, hu⟩ : ∃ u, (Vl.n pr).val = u := ⟨_, rfl⟩
  rw [hu] at hcell t0 t1
  have hgl := heap_lt P0
  have hcc2 : cc ≠ 1 := by omega
  have HC1 := Lib.hid (⟨hcell1, hcell2, hcell3⟩ : _ ∧ _ ∧ _)
  clear hio hu P e1 hcell1 hcell2 hcell3 hob
  go_enter Tryz.func59, Tryz.ntmps59
  go_upto_region 1 with ((with_reducible apply at_store_new 28); (case hx => exact rfl); (case hy => exact rfl); (case hg => first | rfl | simp); (case hi => kernel_rfl); (case hold => rfl); (case h1 => kernel_rfl))
  have q1 : Below w.heap.size w (w.alloc (.cells z6 28)) := (Below.refl _ w).alloc (Nat.le_refl _) _
  have P1 := below_at q1 P0 hgl
  have F1 := hF.below q1
  have key : ∀ i v, w.cell? ⟨b, i, none⟩ = some v → (w.alloc (.cells z6 28)).cell? ⟨b, i, none⟩ = some v := fun i v h => (World.cell?_of_block (w := w) (a := ⟨b, i, none⟩) (q1.block b hbl)).trans h
  have c1 := key 0 _ hcell
  have HC2 := Lib.hid (⟨key _ _ HC1.out.1, key _ _ HC1.out.2.1, key _ _ HC1.out.2.2⟩ : _ ∧ _ ∧ _)
  have E1 := Lib.hid (Ext.below_all (fun j => j = g ∨ (Value.slice A n k).ownBlock = some j) q1)
  have hbl1 : b < (w.alloc (.cells z6 28)).heap.size := by have := q1.size; omega
  have hH1 : H ≤ (w.alloc (.cells z6 28)).heap.size := by have := q1.size; omega
  generalize w.alloc (.cells z6 28) = w1 at P1 c1 F1 E1 hbl1 hH1 HC2 ⊢
  clear q1 P0 hcell key HC1
  go_wp2_with fail
  refine (count_op w1 g H c vf vs A n k lf F1 P1 hgH hH1 hl pr po tp b (0 + 1) 3 (cc - 1) (by omega) x HC2.out hbl1 hbg hbr).mono ?_
  rintro e w2 ⟨A3, n3, k3, rfl, P2, F2, g2⟩
  go_wp2_with fail
  refine bodyPost_ret (v := .tuple #[]) (by simp [results, Tryz.results59]) rfl ?_
  exact ⟨A3, n3, k3, rfl, P2, F2, E1.out.trans g2⟩
end
end Go.Proofs.YtnmdiageigbphaaGreatDoor
