/-
  Contract of the client's message.
-/
import Derived.Test.YtjpmfmmgmlnanaaLs2
import Derived.Test.YtjpmfmmgmlnanaaReads
namespace Go.Proofs.Ytjpmfmmgmlnanaa
open Go.RowKit

theorem Row.grownAt {w w' : World} {g : Nat} {A : Option Addr} {xs : List Value} (h : Row w w.heap.size A xs) (hg : w.grownBy w' (some g)) (hA : ∀ b o s, A = some ⟨b, o, s⟩ → g < b) : Row w' w'.heap.size A xs := by
  rcases h with h | ⟨b, o, hA', hb, hc⟩
  · exact .inl h
  · refine .inr ⟨b, o, hA', Nat.lt_of_lt_of_le hb hg.size, fun j u hu => ?_⟩
    exact (World.cell?_of_block (w := w) (a := ⟨b, o + j, none⟩) (hg.block b hb (by intro e; injection e with e; have := hA _ _ _ hA'; omega))).trans (hc j u hu)
theorem BS.grownAt {w w' : World} {g n c : Nat} {A : Option Addr} {l : List UInt8} (h : BS w w.heap.size A n c l) (hg : w.grownBy w' (some g)) (hA : ∀ b o s, A = some ⟨b, o, s⟩ → g < b) : BS w' w'.heap.size A n c l :=
  ⟨h.1, h.2.1, h.2.2.1, h.2.2.2.grownAt hg hA⟩
/-- Options that lie from block H on. -/
structure OA (w : World) (H : Nat) (A : Option Addr) (n c : Nat) (l : List Op1) : Prop where
  os : OS w w.heap.size A n c l
  ar : ∀ b o s, A = some ⟨b, o, s⟩ → H ≤ b
  bd : ∀ x ∈ l, ∀ b o s, x.A = some ⟨b, o, s⟩ → H ≤ b
theorem OA.grown {w w' : World} {H g n c : Nat} {A : Option Addr} {l : List Op1} (h : OA w H A n c l) (hg : w.grownBy w' (some g)) (hH : g < H) : OA w' H A n c l :=
  ⟨⟨h.os.1, h.os.2.1, h.os.2.2.1, h.os.2.2.2.1.grownAt hg (fun b o s e => Nat.lt_of_lt_of_le hH (h.ar b o s e)), fun x hx => (h.os.2.2.2.2 x hx).grownAt hg (fun b o s e => Nat.lt_of_lt_of_le hH (h.bd x hx b o s e))⟩, h.ar, h.bd⟩
theorem OA.below {w w' : World} {H n c : Nat} {A : Option Addr} {l : List Op1} (h : OA w H A n c l) (hb : Below w.heap.size w w') : OA w' H A n c l := ⟨(h.os.below hb).more hb.size, h.ar, h.bd⟩
theorem OB.above {w : World} {H n c : Nat} {A : Option Addr} {l : List UInt8} (h : OB w H A n c l) : ∀ b o s, A = some ⟨b, o, s⟩ → H ≤ b := by
  rintro b o s rfl
  rcases h.2.2 with ⟨hv, _⟩ | ⟨g, cap, cur, hv, hb, _⟩
  · injection hv with e
    cases e
  · injection hv with e
    injection e with e
    injection e with e
    omega
theorem OS.made {w : World} {p : Nat} {t : TypeId} (l : List Op1) (hg : w.heap[p]? = some (.cells (opCells l).toArray t (0, 0))) (hl : l.length ≤ maxLen) (hb : ∀ x ∈ l, BS w w.heap.size x.A x.n x.c x.body) :
    OS w w.heap.size (some ⟨p, 0, none⟩) l.length l.length l := by
  refine ⟨rfl, Nat.le_refl _, hl, .inr ⟨p, 0, rfl, heap_lt hg, fun j u hu => ?_⟩, hb⟩
  rw [Nat.zero_add, cell_of_row w p j _ _ _ hg]
  simpa using hu

/-- Messages that a call hands back: none, or one in blocks from H on. -/
def Msl (w : World) (H : Nat) (v : Value) (ms : Option (Hd × List Ob)) : Prop := match ms with
  | none => v = .slice none 0 0
  | some m => ∃ b A n c l, v = .slice (some ⟨b, 0, none⟩) 1 1 ∧ H ≤ b ∧ w.heap[b]? = some (.cells (msC m.1 A n c) 37 (0, 0)) ∧ OA w H A n c l ∧ obs l = m.2
theorem Msl.grown {w w' : World} {H g : Nat} {v : Value} {ms : Option (Hd × List Ob)} (h : Msl w H v ms) (hg : w.grownBy w' (some g)) (hH : g < H) : Msl w' H v ms := by
  match ms, h with
  | none, h => exact h
  | some m, ⟨b, A, n, c, l, e, hb, hp, ho, hl⟩ => exact ⟨b, A, n, c, l, e, hb, grown_at hg hp (by omega), ho.grown hg hH, hl⟩
theorem Msl.below {w w' : World} {H : Nat} {v : Value} {ms : Option (Hd × List Ob)} (h : Msl w H v ms) (hb : Below w.heap.size w w') : Msl w' H v ms := by
  match ms, h with
  | none, h => exact h
  | some m, ⟨b, A, n, c, l, e, hbb, hp, ho, hl⟩ => exact ⟨b, A, n, c, l, e, hbb, below_at hb hp (heap_lt hp), ho.below hb, hl⟩
def MsgPost (w : World) (m : Hd × List Ob) (e : Ending) (w' : World) : Prop := ∃ v, e = .returned v ∧ Msl w' w.heap.size v (some m) ∧ Below w.heap.size w w'

theorem msC_cl (xid : Int) (m : Mac6) : #[.int .i64 1, .int .i64 0, .int .u32 xid, .int .i64 0, .int .i64 0, .int .u8 0, .int .u8 0, .int .u8 0, .int .u8 0, .int .u8 0, .int .u8 0, .int .u8 0, .int .u8 0,
  .int .u8 0, .int .u8 0, .int .u8 0, .int .u8 0, .int .u8 0, .int .u8 0, .int .u8 0, .int .u8 0, .int .u8 (m.a.toNat : Int), .int .u8 (m.b.toNat : Int), .int .u8 (m.c.toNat : Int), .int .u8 (m.d.toNat : Int), .int .u8 (m.e.toNat : Int), .int .u8 (m.f.toNat : Int), .slice none 0 0] = msC ⟨1, 0, xid, 0, 0, ad0, ad0, ad0, ad0, m⟩ none 0 0 := by
  simp [ad0]

theorem OA.lower {w : World} {H H' n c : Nat} {A : Option Addr} {l : List Op1} (h : OA w H A n c l) (hH : H' ≤ H) : OA w H' A n c l := ⟨h.os, fun b o s e => Nat.le_trans hH (h.ar b o s e), fun x hx b o s e => Nat.le_trans hH (h.bd x hx b o s e)⟩
theorem typed_at (w : World) (t : UInt8) (x : Int) (hx : (t.toNat : Int) = x) : Calls Try.prog 39 #[.int .u8 x] w (TypedPost w t) := by
  subst hx
  exact typed_any w t
/-- Where the message under work lies, and the option that asks. -/
structure MW (w0 w : World) (g p k r : Nat) (c : Cl) (hd : Hd) : Prop where
  bel : Below w0.heap.size w0 w
  C : CB w g c
  P : w.heap[p]? = some (.cells (msC hd none 0 0) 37 (0, 0))
  K : w.heap[k]? = some (.cells #[.int .i64 55, .slice (some ⟨r, 0, none⟩) 3 3] 64 (0, 0))
  Q : BS w w.heap.size (some ⟨r, 0, none⟩) 3 3 [1, 3, 6]
  gp : g < w0.heap.size
  pg : w0.heap.size ≤ p
  pk : p < k
  kg : w0.heap.size ≤ k
  rg : w0.heap.size ≤ r
  rp : p < r
section
variable {w0 w w' : World} {g p k r : Nat} {c : Cl} {hd hd' : Hd}
theorem MW.below (s : MW w0 w g p k r c hd) (hb : Below w.heap.size w w') : MW w0 w' g p k r c hd :=
  ⟨s.bel.trans (hb.mono s.bel.size), s.C.below hb, below_at hb s.P (heap_lt s.P), below_at hb s.K (heap_lt s.K), (s.Q.below hb).more hb.size, s.gp, s.pg, s.pk, s.kg, s.rg, s.rp⟩
theorem MW.put (s : MW w0 w g p k r c hd) (hg : w.grownBy w' (some p)) (hP : w'.heap[p]? = some (.cells (msC hd' none 0 0) 37 (0, 0))) : MW w0 w' g p k r c hd' :=
  ⟨below_grown s.bel hg s.bel.size s.pg, grown_at hg s.C (by have := s.gp; have := s.pg; omega), hP, grown_at hg s.K (by have := s.pk; omega), ⟨s.Q.1, s.Q.2.1, s.Q.2.2.1, by
    rcases s.Q.2.2.2 with h | ⟨b, o, hA', hb, hc⟩
    · exact .inl h
    · refine .inr ⟨b, o, hA', Nat.lt_of_lt_of_le hb hg.size, fun j u hu => ?_⟩
      have hbr : b = r := by injection hA' with e; injection e with e; exact e.symm
      exact (World.cell?_of_block (w := w) (a := ⟨b, o + j, none⟩) (hg.block b hb (by intro e; injection e with e; have := s.rp; omega))).trans (hc j u hu)⟩, s.gp, s.pg, s.pk, s.kg, s.rg, s.rp⟩
theorem MW.drew (s : MW w0 w g p k r c hd) : MW w0 w.drew g p k r c hd := ⟨s.bel.drew, s.C, s.P, s.K, s.Q, s.gp, s.pg, s.pk, s.kg, s.rg, s.rp⟩
end

set_option maxRecDepth 100000 in
set_option maxHeartbeats 4000000 in
theorem cmsg_1 (w : World) (g : Nat) (c : Cl) (h : CB w g c) (hs : c.state = 1) :
    Calls Try.prog 35 #[.pointer (some ⟨g, 0, none⟩)] w (MsgPost w c.msg) := by
  have hm : c.msg = (⟨1, 0, c.xid, 0, 32768, ad0, ad0, ad0, ad0, c.m⟩, [(53, [1]), (55, [1, 3, 6])]) := by rw [Cl.msg, if_pos hs]
  rw [hm]
  have HS := Lib.hid hs
  clear hm hs
  have gl := heap_lt h
  have hcs := Ext.cells (w := w.drew) (M := fun k => w.heap.size ≤ k) h (by omega)
  have HC := Lib.hid h
  clear h
  go_enter Try.func35, Try.ntmps35
  go_upto_region 1 with fail
  refine rg_begin (fun k => w.heap.size ≤ k) (by kernel_rfl) ?_
  refine rg_take (v := ?_) 0 rfl (by kernel_rfl) (by kernel_rfl) (by kernel_rfl) (fun _ _ _ h => h) (by rfl) ?_ ?_; rotate_left
  · (intro x hx; go_simp; first | done | with_reducible rfl | (rw [if_pos (by omega)]; try with_reducible rfl) | (rw [if_neg (by omega)]; try with_reducible rfl))
  try simp only [Act.put, List.setIfInBounds_toArray, List.set_cons_zero, List.set_cons_succ]
  refine rg_take (v := ?_) 1 rfl (by kernel_rfl) (by kernel_rfl) (by kernel_rfl) (fun _ _ _ h => h) (by rfl) ?_ ?_; rotate_left
  · (intro x hx; go_simp; first | done | with_reducible rfl | (rw [if_pos (by omega)]; try with_reducible rfl) | (rw [if_neg (by omega)]; try with_reducible rfl))
  try simp only [Act.put, List.setIfInBounds_toArray, List.set_cons_zero, List.set_cons_succ]
  refine rg_take (v := ?_) 2 rfl (by kernel_rfl) (by kernel_rfl) (by kernel_rfl) (fun _ _ _ h => h) (by rfl) ?_ ?_; rotate_left
  · (intro x hx; go_simp; first | done | with_reducible rfl | (rw [if_pos (by omega)]; try with_reducible rfl) | (rw [if_neg (by omega)]; try with_reducible rfl))
  try simp only [Act.put, List.setIfInBounds_toArray, List.set_cons_zero, List.set_cons_succ]
  refine rg_take (v := ?_) 3 rfl (by kernel_rfl) (by kernel_rfl) (by kernel_rfl) (fun _ _ _ h => h) (by rfl) ?_ ?_; rotate_left
  · (intro x hx; go_simp; first | done | with_reducible rfl | (rw [if_pos (by omega)]; try with_reducible rfl) | (rw [if_neg (by omega)]; try with_reducible rfl))
  try simp only [Act.put, List.setIfInBounds_toArray, List.set_cons_zero, List.set_cons_succ]
  refine rg_take (v := ?_) 4 rfl (by kernel_rfl) (by kernel_rfl) (by kernel_rfl) (fun _ _ _ h => h) (by rfl) ?_ ?_; rotate_left
  · (intro x hx; go_simp; first | done | with_reducible rfl | (rw [if_pos (by omega)]; try with_reducible rfl) | (rw [if_neg (by omega)]; try with_reducible rfl))
  try simp only [Act.put, List.setIfInBounds_toArray, List.set_cons_zero, List.set_cons_succ]
  refine rg_take (v := ?_) 5 rfl (by kernel_rfl) (by kernel_rfl) (by kernel_rfl) (fun _ _ _ h => h) (by rfl) ?_ ?_; rotate_left
  · (intro x hx; go_simp; first | done | with_reducible rfl | (rw [if_pos (by omega)]; try with_reducible rfl) | (rw [if_neg (by omega)]; try with_reducible rfl))
  try simp only [Act.put, List.setIfInBounds_toArray, List.set_cons_zero, List.set_cons_succ]
  refine rg_take (v := ?_) 6 rfl (by kernel_rfl) (by kernel_rfl) (by kernel_rfl) (fun _ _ _ h => h) (by rfl) ?_ ?_; rotate_left
  · (intro x hx; go_simp; first | done | with_reducible rfl | (rw [if_pos (by omega)]; try with_reducible rfl) | (rw [if_neg (by omega)]; try with_reducible rfl))
  try simp only [Act.put, List.setIfInBounds_toArray, List.set_cons_zero, List.set_cons_succ]
  refine rg_take (v := ?_) 7 rfl (by kernel_rfl) (by kernel_rfl) (by kernel_rfl) (fun _ _ _ h => h) (by rfl) ?_ ?_; rotate_left
  · (intro x hx; go_simp; first | done | with_reducible rfl | (rw [if_pos (by omega)]; try with_reducible rfl) | (rw [if_neg (by omega)]; try with_reducible rfl))
  try simp only [Act.put, List.setIfInBounds_toArray, List.set_cons_zero, List.set_cons_succ]
  refine rg_take (v := ?_) 8 rfl (by kernel_rfl) (by kernel_rfl) (by kernel_rfl) (fun _ _ _ h => h) (by rfl) ?_ ?_; rotate_left
  · (intro x hx; go_simp; first | done | with_reducible rfl | (rw [if_pos (by omega)]; try with_reducible rfl) | (rw [if_neg (by omega)]; try with_reducible rfl))
  try simp only [Act.put, List.setIfInBounds_toArray, List.set_cons_zero, List.set_cons_succ]
  refine rg_step 9 rfl (by kernel_rfl) (by rfl) (fun K hK => ?_)
  go_simp
  refine hK.out _ _ ((Ext.refl _ _).alloc _) ?_
  clear hK K; try simp only [Act.put, List.setIfInBounds_toArray, List.set_cons_zero, List.set_cons_succ]
  refine rg_step 10 rfl (by kernel_rfl) (by rfl) (fun K hK => ?_)
  --RAW
  apply wp_store_part 37
  case ho => exact rfl
  case hx => exact rfl
  case hy => exact rfl
  case hg => exact heap_alloc_at rfl
  case hle => simp
  case hi => kernel_rfl
  case h1 => kernel_rfl
  intro w1 g1 P1
  refine hK.out _ _ (Ext.of_grown g1 fun k hk => by injection hk with e; have e' : w.drew.heap.size = w.heap.size := rfl; omega) ?_
  clear hK K
  refine rg_done (by kernel_rfl) ?_
  have P1' : w1.heap[w.heap.size]? = some (.cells (msC ⟨1, 0, c.xid, 0, 0, ad0, ad0, ad0, ad0, c.m⟩ none 0 0) 37 (0, 0)) := by rw [← msC_cl]; exact P1
  have b1 : Below w.heap.size w w1 := below_grown ((Below.refl _ w).drew.alloc (Nat.le_refl _) _) g1 (by simp) (Nat.le_refl _)
  have C1 : CB w1 g c := below_at b1 HC.out gl
  have l1 := heap_lt P1'
  clear P1 g1 hcs
  go_upto_region 3 with fail
  have s2 : MW w ((w1.alloc (.cells #[.int .u8 1, .int .u8 3, .int .u8 6] 5)).alloc (.cells #[.int .i64 55, .slice (some ⟨w1.heap.size, 0, none⟩) 3 3] 64)) g w.heap.size (w1.heap.size + 1) w1.heap.size c _ :=
    ⟨(b1.alloc b1.size _).alloc (by have := b1.size; simp; omega) _, heap_alloc_of (heap_alloc_of C1), heap_alloc_of (heap_alloc_of P1'), heap_alloc_at (by simp),
      ((BS.block [1, 3, 6] (heap_alloc_new w1 _) rfl (by simp [maxLen])).alloc (Nat.le_refl _) _).more (by simp), gl, Nat.le_refl _, by omega, by omega, by omega, by omega⟩
  generalize (w1.alloc (.cells #[.int .u8 1, .int .u8 3, .int .u8 6] 5)).alloc (.cells #[.int .i64 55, .slice (some ⟨w1.heap.size, 0, none⟩) 3 3] 64) = w2 at s2 ⊢
  obtain ⟨k, hk⟩ : ∃ k, w1.heap.size + 1 = k := ⟨_, rfl⟩
  obtain ⟨r, hr⟩ : ∃ r, w1.heap.size = r := ⟨_, rfl⟩
  obtain ⟨p, hp⟩ : ∃ p, w.heap.size = p := ⟨_, rfl⟩
  have s2' := s2
  rw [hk, hr] at s2'
  try rw [hk]
  try rw [hr]
  clear s2
  have s2 : MW w w2 g p k r c ⟨1, 0, c.xid, 0, 0, ad0, ad0, ad0, ad0, c.m⟩ := by rw [← hp]; exact s2'
  try rw [hp]
  have HPP := Lib.hid hp
  have hpw : w.heap.size ≤ p := by omega
  clear hk hr hp s2' P1' b1 C1 l1
  obtain ⟨hc, _⟩ := cells_of s2.C
  have d6 : w2.cell? ⟨g, 6, none⟩ = some (.int .i64 c.state) := hc 6
  clear hc
  rw [HS.out] at d6
  go_wp2_with (((with_reducible apply at_store_one 3); (case hx => exact rfl); (case hy => exact rfl); (case hg => exact s2.P); (case hle => simp); (case hv => rfl); (case hi => kernel_rfl); (case h1 => rfl); (intro w3 g3 P3; replace P3 := Lib.hid P3)); (refine Hid.out ?_))
  refine Lib.hid ?_
  have s3 := s2.put (hd' := ⟨1, 0, c.xid, 0, 32768, ad0, ad0, ad0, ad0, c.m⟩) g3 P3.out
  clear s2 g3 P3 d6
  go_upto_region 8 with fail
  have sd := s3.drew
  have kcs := Ext.cells (w := w3.drew) (M := fun x => x = p ∨ w3.heap.size ≤ x) s3.K (by have := heap_lt s3.K; have := s3.pk; omega)
  refine rg_begin (fun x => x = p ∨ w3.heap.size ≤ x) (by kernel_rfl) ?_
  refine rg_take (v := ?_) 1 rfl (by kernel_rfl) (by kernel_rfl) (by kernel_rfl) (fun _ _ _ h => h) (by rfl) ?_ ?_; rotate_left
  · (intro x hx; go_simp; first | done | with_reducible rfl | (rw [if_pos (by omega)]; try with_reducible rfl) | (rw [if_neg (by omega)]; try with_reducible rfl))
  try simp only [Act.put, List.setIfInBounds_toArray, List.set_cons_zero, List.set_cons_succ]
  refine rg_step 0 rfl (by kernel_rfl) (by rfl) (fun K hK => ?_)
  go_simp
  refine (typed_at _ 1 1 rfl).mono ?_
  rintro e w4 ⟨k1, rfl, hk1, bs1, hb4⟩
  have s4 := sd.below hb4
  refine hK.out _ _ (Ext.below_all _ hb4) ?_
  clear hK K; try simp only [Act.put, List.setIfInBounds_toArray, List.set_cons_zero, List.set_cons_succ]
  refine rg_step 2 rfl (by kernel_rfl) (by rfl) (fun K hK => ?_)
  go_simp
  refine hK.out _ _ ((Ext.refl _ _).alloc _) ?_
  clear hK K; try simp only [Act.put, List.setIfInBounds_toArray, List.set_cons_zero, List.set_cons_succ]
  refine rg_take (v := ?_) 3 rfl (by kernel_rfl) (by kernel_rfl) (by kernel_rfl) (fun _ _ _ h => h) (by rfl) ?_ ?_; rotate_left
  · (intro x hx; go_simp; first | done | with_reducible rfl | (rw [if_pos (by omega)]; try with_reducible rfl) | (rw [if_neg (by omega)]; try with_reducible rfl))
  try simp only [Act.put, List.setIfInBounds_toArray, List.set_cons_zero, List.set_cons_succ]
  refine rg_step 4 rfl (by kernel_rfl) (by rfl) (fun K hK => ?_)
  --RAW
  apply wp_store_one 35
  case ho => exact rfl
  case hx => exact rfl
  case hy => exact rfl
  case hg => exact heap_alloc_of s4.P
  case hle => simp
  case hv => rfl
  case hi => kernel_rfl
  case h1 => rfl
  intro w5 g5 P5
  refine hK.out _ _ (Ext.of_grown g5 fun x hx => by injection hx with e; exact .inl e.symm) ?_
  clear hK K
  refine rg_done (by kernel_rfl) ?_
  have hk1' : p < k1 := by have h1 := s3.P; have h2 := heap_lt h1; have h3 : w3.drew.heap.size = w3.heap.size := rfl; omega
  have oa : OA (w4.alloc (.cells #[.int .i64 53, .slice (some ⟨k1, 0, none⟩) 1 1, .int .i64 55, .slice (some ⟨r, 0, none⟩) 3 3] 64)) (p + 1) (some ⟨w4.heap.size, 0, none⟩) 2 2 [⟨53, some ⟨k1, 0, none⟩, 1, 1, [1]⟩, ⟨55, some ⟨r, 0, none⟩, 3, 3, [1, 3, 6]⟩] := by
    refine ⟨OS.made (t := 64) [⟨53, some ⟨k1, 0, none⟩, 1, 1, [1]⟩, ⟨55, some ⟨r, 0, none⟩, 3, 3, [1, 3, 6]⟩] (heap_alloc_new w4 _) (by simp [maxLen]) ?_, ?_, ?_⟩
    · simp only [List.mem_cons, List.not_mem_nil, or_false, forall_eq_or_imp, forall_eq]
      exact ⟨(bs1.alloc (Nat.le_refl _) _).more (by simp), (s4.Q.alloc (Nat.le_refl _) _).more (by simp)⟩
    · intro b o s e
      have := heap_lt s4.P
      injection e with e; injection e with e; omega
    · simp only [List.mem_cons, List.not_mem_nil, or_false, forall_eq_or_imp, forall_eq]
      have := s4.rp
      exact ⟨fun b o s e => by injection e with e; injection e with e; omega, fun b o s e => by injection e with e; injection e with e; omega⟩
  clear hb4 sd s3 bs1 kcs
  have P5' : w5.heap[p]? = some (.cells (msC ⟨1, 0, c.xid, 0, 32768, ad0, ad0, ad0, ad0, c.m⟩ (some ⟨w4.heap.size, 0, none⟩) 2 2) 37 (0, 0)) := P5
  have z5 := s4.bel.size
  have b5 : Below w.heap.size w w5 := below_grown (s4.bel.alloc z5 _) g5 (by simp; omega) hpw
  have oa5 := oa.grown g5 (by omega)
  clear P5 g5 oa s4
  go_wp2_with ((with_reducible apply at_load_row 37); (case hx => exact rfl); (case hg => exact P5'); (case hu => exact Try.underlying37); (case hd => rfl); (case hi => kernel_rfl))
  go_ret
  exact ⟨_, rfl, ⟨w5.heap.size, _, _, _, [⟨53, some ⟨k1, 0, none⟩, 1, 1, [1]⟩, ⟨55, some ⟨r, 0, none⟩, 3, 3, [1, 3, 6]⟩], rfl, b5.size, heap_alloc_new w5 _, (oa5.lower (by omega)).below ((Below.refl _ _).alloc (Nat.le_refl _) _), rfl⟩, b5.alloc b5.size _⟩
end Go.Proofs.Ytjpmfmmgmlnanaa
