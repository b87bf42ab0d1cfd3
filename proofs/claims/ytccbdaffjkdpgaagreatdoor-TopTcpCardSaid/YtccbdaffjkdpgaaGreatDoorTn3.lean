/-
  The gateway begun: Boot, New, Wan, Now.
-/
import Derived.Test.YtccbdaffjkdpgaaGreatDoorTn2
namespace Go.Proofs.YtccbdaffjkdpgaaGreatDoor
open Go.RowKit

/-- A gateway's 51 cells, of a configuration that lists nothing, at tick 0. -/
abbrev gtC (c : Cf) (n0 n1 s l t n a p : Value) : Array Value := #[.int .u8 (c.own.a.toNat : Int), .int .u8 (c.own.b.toNat : Int), .int .u8 (c.own.c.toNat : Int), .int .u8 (c.own.d.toNat : Int), .int .u8 (c.lanA.a.toNat : Int), .int .u8 (c.lanA.b.toNat : Int), .int .u8 (c.lanA.c.toNat : Int), .int .u8 (c.lanA.d.toNat : Int), .int .i64 c.lanB, .int .u8 (c.lm.a.toNat : Int), .int .u8 (c.lm.b.toNat : Int), .int .u8 (c.lm.c.toNat : Int), .int .u8 (c.lm.d.toNat : Int), .int .u8 (c.lm.e.toNat : Int), .int .u8 (c.lm.f.toNat : Int), .int .u8 (c.wm.a.toNat : Int), .int .u8 (c.wm.b.toNat : Int), .int .u8 (c.wm.c.toNat : Int), .int .u8 (c.wm.d.toNat : Int), .int .u8 (c.wm.e.toNat : Int), .int .u8 (c.wm.f.toNat : Int), .int .u8 (c.fst.a.toNat : Int), .int .u8 (c.fst.b.toNat : Int), .int .u8 (c.fst.c.toNat : Int), .int .u8 (c.fst.d.toNat : Int), .int .u8 (c.lst.a.toNat : Int), .int .u8 (c.lst.b.toNat : Int), .int .u8 (c.lst.c.toNat : Int), .int .u8 (c.lst.d.toNat : Int), .int .i64 c.time, .int .u8 (c.dns.a.toNat : Int), .int .u8 (c.dns.b.toNat : Int), .int .u8 (c.dns.c.toNat : Int), .int .u8 (c.dns.d.toNat : Int), .int .i64 c.udp, .int .i64 c.tcp, .int .i64 c.icmp, .int .i64 c.low, nilS, nilS,
  .int .i64 0, .int .u32 0, n0, n1, s, l, t, n, a, p, .slice none 0 0]
abbrev nilP : Value := .pointer none
abbrev ptr (b : Nat) : Value := .pointer (some ⟨b, 0, none⟩)
abbrev GT (w : World) (g : Nat) (c : Cf) (n0 n1 s l t n a p : Value) : Prop := w.heap[g]? = some (.cells (gtC c n0 n1 s l t n a p) 107 (0, 0))
theorem GT.range {w : World} {g : Nat} {c : Cf} {n0 n1 s l t n a p : Value} (h : GT w g c n0 n1 s l t n a p) : w.rangeAt g 0 (cfC c nilS nilS).toList := by
  have := World.rangeAt_of_block h 0 40
  rwa [show ((gtC c n0 n1 s l t n a p).extract 0 (0 + 40)).toList = (cfC c nilS nilS).toList by simp] at this
theorem spliceGt (c : Cf) (n0 n1 s l t n a p n0' n1' s' l' t' n' a' p' : Value) : spliceAt (gtC c n0 n1 s l t n a p) 0 (gtC c n0' n1' s' l' t' n' a' p').toList = gtC c n0' n1' s' l' t' n' a' p' := by simp [spliceAt]
section
variable {P : Program} {ops : Array Oper} {Q : Exit → Act → World → Prop} {md : Region.Mode} {S : World → Prop}
theorem rs_begin {id : Nat} {a : Act} {w : World} (S : World → Prop) (hm : P.follows .mixedOrders = true)
    (h : wpAnyH P .any ops Q S ops.size (Array.replicate ops.size false) a w.drew) : (Code.region id ops true).wp P Q a w :=
  wp_region_held hm h
theorem rs_take {oi : Oper} {v : Value} {fuel : Nat} {listed : Array Bool} {a : Act} {w : World} (i : Nat) (hi' : ops.toList[i]? = some oi)
    (hs : Region.noSelect ops = true) (hf : Region.free md ops listed i = true) (hr : (Region.ready md ops listed).contains i = true)
    (hQ : ∀ c a w, Q (.panic c) (a.put oi.dst v) w → Q (.panic c) a w)
    (hw : Region.wanted oi (yielded ops a.tmps) = true) (hS : S w) (hv : ∀ x, S x → (execOp a.eval oi).run P x = .ok (.value v) x)
    (h : wpAnyH P md ops Q S fuel (listed.setIfInBounds i true) (a.put oi.dst v) w) : wpAnyH P md ops Q S (fuel + 1) listed a w :=
  wpAnyH_take (by rw [← Array.getElem?_toList]; exact hi') hs hf hr hQ (Or.inl ⟨hw, hv⟩) hS h
theorem rs_step {oi : Oper} {fuel : Nat} {listed : Array Bool} {a : Act} {w : World} (i : Nat) (hi' : ops.toList[i]? = some oi)
    (hr : Region.ready md ops listed = [i]) (hw : Region.wanted oi (yielded ops a.tmps) = true)
    (h : ∀ K : Act → World → Prop, Shut (∀ a' w', S w' → wpAnyH P md ops Q S fuel (listed.setIfInBounds i true) a' w' → K a' w') → Oper.wp P oi a w K Q) :
    wpAnyH P md ops Q S (fuel + 1) listed a w := by
  have hi : ops[i]? = some oi := by rw [← Array.getElem?_toList]; exact hi'
  refine wpAnyH_all hr (by simp) fun j hj => ?_
  obtain rfl : j = i := by simpa using hj
  have h1 := h (fun a' w' => S w' ∧ wpAnyH P md ops Q S fuel (listed.setIfInBounds j true) a' w') (fun a' w' hg hW => ⟨hg, hW⟩)
  unfold wpOp
  simp only [hi, hw, if_true]
  exact .inl h1
end
/-- The gateway's block as it is, but for the cell of what rewrites. -/
structure GS (w : World) (g : Nat) (c : Cf) (n0 n1 s l t a p : Value) (x : World) : Prop where
  e : Ext (fun j => j = g) w x
  h : ∃ v, GT x g c n0 n1 s l t v a p
/-- What Boot leaves: the gateway, and a client that has nothing. -/
def BootPost (w : World) (g : Nat) (c : Cf) (w' : World) : Prop :=
  ∃ n0 n1 s bl t n a p, GT w' g c n0 n1 s (ptr bl) t n a p ∧ bl ≠ g ∧ w'.heap[bl]? = some (.cells (clZ c.wm) 277 (0, 0)) ∧ Ext (fun j => j = g) w w'
set_option maxRecDepth 100000 in
set_option maxHeartbeats 16000000 in
theorem boot_any (w : World) (g : Nat) (c : Cf) (U : UsI c) (P : GT w g c nilP nilP nilP nilP nilP nilP nilP nilP) :
    Calls Tryz.prog 23 #[.pointer (some ⟨g, 0, none⟩)] w (fun e w' => e = .returned (.tuple #[]) ∧ BootPost w g c w') := by
  have HU := Lib.hid U
  have hgl := heap_lt P
  clear U
  go_enter Tryz.func23, Tryz.ntmps23
  go_upto_region 1 with (first | ((with_reducible apply at_load_mid 76); (case hx => exact rfl); (case hc => exact P.range); (case hu => exact Tryz.underlying76); (case hd => rfl); (case hi => kernel_rfl)) | ((with_reducible apply at_store_part 107); (case hx => exact rfl); (case hy => exact rfl); (case hg => exact P); (case hle => simp); (case hi => kernel_rfl); (case h1 => kernel_rfl); (intro w1 g1 Q1; replace Q1 := Lib.hid Q1)))
  have P1 : GT w1 g c nilP nilP nilP nilP nilP nilP nilP nilP := by have := Q1.out; rwa [spliceGt] at this
  have X1 : Ext (fun j => j = g) w w1 := Ext.of_grown g1 (fun j h => by injection h with h; exact h.symm)
  clear P g1 Q1
  have P : GT w1.drew g c nilP nilP nilP nilP nilP nilP nilP nilP := P1
  obtain ⟨wn, hwn⟩ : ∃ y, y = w1.drew := ⟨_, rfl⟩
  rw [← hwn] at P
  have e6 : Ext (fun j => j = g) w wn := by rw [hwn]; exact X1.drew
  have hgl : g < wn.heap.size := heap_lt P
  refine rg_begin (fun j => j = g) (by kernel_rfl) ?_
  rw [← hwn]
  clear hwn P1 X1
  refine rg_take (v := ?_) 0 rfl (by kernel_rfl) (by kernel_rfl) (by kernel_rfl) (fun _ _ _ h => h) (by rfl) ?_ ?_; rotate_left
  · (intro x hx; go_simp; first | done | with_reducible rfl | (rw [if_pos (by omega)]; try with_reducible rfl) | (rw [if_neg (by omega)]; try with_reducible rfl))
  try simp only [Act.put, List.setIfInBounds_toArray, List.set_cons_zero, List.set_cons_succ]
  refine rg_take (v := ?_) 5 rfl (by kernel_rfl) (by kernel_rfl) (by kernel_rfl) (fun _ _ _ h => h) (by rfl) ?_ ?_; rotate_left
  · (intro x hx; go_simp; first | done | with_reducible rfl | (rw [if_pos (by omega)]; try with_reducible rfl) | (rw [if_neg (by omega)]; try with_reducible rfl))
  try simp only [Act.put, List.setIfInBounds_toArray, List.set_cons_zero, List.set_cons_succ]
  refine rg_take (v := ?_) 6 rfl (by kernel_rfl) (by kernel_rfl) (by kernel_rfl) (fun _ _ _ h => h) (by rfl) ?_ ?_; rotate_left
  · (intro x hx; go_simp; first | done | with_reducible rfl | (rw [if_pos (by omega)]; try with_reducible rfl) | (rw [if_neg (by omega)]; try with_reducible rfl))
  try simp only [Act.put, List.setIfInBounds_toArray, List.set_cons_zero, List.set_cons_succ]
  refine rg_step 1 rfl (by kernel_rfl) (by rfl) (fun K hK => ?_)
  go_simp
  refine (nearNew_any _).mono ?_
  rintro e u1 ⟨⟨bn0, _, rfl⟩, p1⟩
  replace P := below_at p1 P (heap_lt P)
  replace e6 := e6.trans (Ext.below_all _ p1)
  refine hK.out _ _ (Ext.below_all _ p1) ?_
  clear hK K; try simp only [Act.put, List.setIfInBounds_toArray, List.set_cons_zero, List.set_cons_succ]
  refine rg_take (v := ?_) 2 rfl (by kernel_rfl) (by kernel_rfl) (by kernel_rfl) (fun _ _ _ h => h) (by rfl) ?_ ?_; rotate_left
  · (intro x hx; go_simp; first | done | with_reducible rfl | (rw [if_pos (by omega)]; try with_reducible rfl) | (rw [if_neg (by omega)]; try with_reducible rfl))
  try simp only [Act.put, List.setIfInBounds_toArray, List.set_cons_zero, List.set_cons_succ]
  refine rg_take (v := ?_) 3 rfl (by kernel_rfl) (by kernel_rfl) (by kernel_rfl) (fun _ _ _ h => h) (by rfl) ?_ ?_; rotate_left
  · (intro x hx; go_simp; first | done | with_reducible rfl | (rw [if_pos (by omega)]; try with_reducible rfl) | (rw [if_neg (by omega)]; try with_reducible rfl))
  try simp only [Act.put, List.setIfInBounds_toArray, List.set_cons_zero, List.set_cons_succ]
  refine rg_take (v := ?_) 4 rfl (by kernel_rfl) (by kernel_rfl) (by kernel_rfl) (fun _ _ _ h => h) (by rfl) ?_ ?_; rotate_left
  · (intro x hx; go_simp; first | done | with_reducible rfl | (rw [if_pos (by omega)]; try with_reducible rfl) | (rw [if_neg (by omega)]; try with_reducible rfl))
  try simp only [Act.put, List.setIfInBounds_toArray, List.set_cons_zero, List.set_cons_succ]
  refine rg_take (v := ?_) 7 rfl (by kernel_rfl) (by kernel_rfl) (by kernel_rfl) (fun _ _ _ h => h) (by rfl) ?_ ?_; rotate_left
  · (intro x hx; go_simp; first | done | with_reducible rfl | (rw [if_pos (by omega)]; try with_reducible rfl) | (rw [if_neg (by omega)]; try with_reducible rfl))
  try simp only [Act.put, List.setIfInBounds_toArray, List.set_cons_zero, List.set_cons_succ]
  refine rg_step 8 rfl (by kernel_rfl) (by rfl) (fun K hK => ?_)
  --RAW
  apply wp_store_one 98
  case ho => exact rfl
  case hx => exact rfl
  case hy => exact rfl
  case hg => exact P
  case hle => simp
  case hv => rfl
  case hi => kernel_rfl
  case h1 => rfl
  intro w2 g5 P5
  have x5 := Ext.of_grown (M := fun j => j = g) g5 (fun j h => by injection h with h; exact h.symm)
  have X2 := e6.trans x5
  have P2 : GT w2 g c (ptr bn0) nilP nilP nilP nilP nilP nilP nilP := P5
  refine hK.out _ _ x5 ?_
  clear x5 g5 P5 P e6 p1
  clear hK K
  refine rg_done (by kernel_rfl) ?_
  go_upto_region 2 with fail
  have P : GT w2.drew g c (ptr bn0) nilP nilP nilP nilP nilP nilP nilP := P2
  obtain ⟨wn, hwn⟩ : ∃ y, y = w2.drew := ⟨_, rfl⟩
  rw [← hwn] at P
  have e6 : Ext (fun j => j = g) w wn := by rw [hwn]; exact X2.drew
  have hgl : g < wn.heap.size := heap_lt P
  refine rg_begin (fun j => j = g) (by kernel_rfl) ?_
  rw [← hwn]
  clear hwn P2 X2
  refine rg_take (v := ?_) 0 rfl (by kernel_rfl) (by kernel_rfl) (by kernel_rfl) (fun _ _ _ h => h) (by rfl) ?_ ?_; rotate_left
  · (intro x hx; go_simp; first | done | with_reducible rfl | (rw [if_pos (by omega)]; try with_reducible rfl) | (rw [if_neg (by omega)]; try with_reducible rfl))
  try simp only [Act.put, List.setIfInBounds_toArray, List.set_cons_zero, List.set_cons_succ]
  refine rg_take (v := ?_) 5 rfl (by kernel_rfl) (by kernel_rfl) (by kernel_rfl) (fun _ _ _ h => h) (by rfl) ?_ ?_; rotate_left
  · (intro x hx; go_simp; first | done | with_reducible rfl | (rw [if_pos (by omega)]; try with_reducible rfl) | (rw [if_neg (by omega)]; try with_reducible rfl))
  try simp only [Act.put, List.setIfInBounds_toArray, List.set_cons_zero, List.set_cons_succ]
  refine rg_take (v := ?_) 6 rfl (by kernel_rfl) (by kernel_rfl) (by kernel_rfl) (fun _ _ _ h => h) (by rfl) ?_ ?_; rotate_left
  · (intro x hx; go_simp; first | done | with_reducible rfl | (rw [if_pos (by omega)]; try with_reducible rfl) | (rw [if_neg (by omega)]; try with_reducible rfl))
  try simp only [Act.put, List.setIfInBounds_toArray, List.set_cons_zero, List.set_cons_succ]
  refine rg_step 1 rfl (by kernel_rfl) (by rfl) (fun K hK => ?_)
  go_simp
  refine (nearNew_any _).mono ?_
  rintro e u1 ⟨⟨bn1, _, rfl⟩, p1⟩
  replace P := below_at p1 P (heap_lt P)
  replace e6 := e6.trans (Ext.below_all _ p1)
  refine hK.out _ _ (Ext.below_all _ p1) ?_
  clear hK K; try simp only [Act.put, List.setIfInBounds_toArray, List.set_cons_zero, List.set_cons_succ]
  refine rg_take (v := ?_) 2 rfl (by kernel_rfl) (by kernel_rfl) (by kernel_rfl) (fun _ _ _ h => h) (by rfl) ?_ ?_; rotate_left
  · (intro x hx; go_simp; first | done | with_reducible rfl | (rw [if_pos (by omega)]; try with_reducible rfl) | (rw [if_neg (by omega)]; try with_reducible rfl))
  try simp only [Act.put, List.setIfInBounds_toArray, List.set_cons_zero, List.set_cons_succ]
  refine rg_take (v := ?_) 3 rfl (by kernel_rfl) (by kernel_rfl) (by kernel_rfl) (fun _ _ _ h => h) (by rfl) ?_ ?_; rotate_left
  · (intro x hx; go_simp; first | done | with_reducible rfl | (rw [if_pos (by omega)]; try with_reducible rfl) | (rw [if_neg (by omega)]; try with_reducible rfl))
  try simp only [Act.put, List.setIfInBounds_toArray, List.set_cons_zero, List.set_cons_succ]
  refine rg_take (v := ?_) 4 rfl (by kernel_rfl) (by kernel_rfl) (by kernel_rfl) (fun _ _ _ h => h) (by rfl) ?_ ?_; rotate_left
  · (intro x hx; go_simp; first | done | with_reducible rfl | (rw [if_pos (by omega)]; try with_reducible rfl) | (rw [if_neg (by omega)]; try with_reducible rfl))
  try simp only [Act.put, List.setIfInBounds_toArray, List.set_cons_zero, List.set_cons_succ]
  refine rg_take (v := ?_) 7 rfl (by kernel_rfl) (by kernel_rfl) (by kernel_rfl) (fun _ _ _ h => h) (by rfl) ?_ ?_; rotate_left
  · (intro x hx; go_simp; first | done | with_reducible rfl | (rw [if_pos (by omega)]; try with_reducible rfl) | (rw [if_neg (by omega)]; try with_reducible rfl))
  try simp only [Act.put, List.setIfInBounds_toArray, List.set_cons_zero, List.set_cons_succ]
  refine rg_step 8 rfl (by kernel_rfl) (by rfl) (fun K hK => ?_)
  --RAW
  apply wp_store_one 98
  case ho => exact rfl
  case hx => exact rfl
  case hy => exact rfl
  case hg => exact P
  case hle => simp
  case hv => rfl
  case hi => kernel_rfl
  case h1 => rfl
  intro w3 g5 P5
  have x5 := Ext.of_grown (M := fun j => j = g) g5 (fun j h => by injection h with h; exact h.symm)
  have X3 := e6.trans x5
  have P3 : GT w3 g c (ptr bn0) (ptr bn1) nilP nilP nilP nilP nilP nilP := P5
  refine hK.out _ _ x5 ?_
  clear x5 g5 P5 P e6 p1
  clear hK K
  refine rg_done (by kernel_rfl) ?_
  go_wp2_with ((with_reducible apply at_load_mid 76); (case hx => exact rfl); (case hc => exact P3.range); (case hu => exact Tryz.underlying76); (case hd => rfl); (case hi => kernel_rfl))
  refine (serveNew_any w3 c HU.out).mono ?_
  rintro e w4 ⟨⟨bs, _, rfl⟩, q4⟩
  have P4 := below_at q4 P3 (heap_lt P3)
  have X4 := X3.trans (Ext.below_all _ q4)
  have f4 := (cells_of P4).1
  clear P3 X3 q4
  go_upto_region 4 with ((with_reducible apply at_store_one 100); (case hx => exact rfl); (case hy => exact rfl); (case hg => exact P4); (case hle => simp); (case hv => rfl); (case hi => kernel_rfl); (case h1 => rfl); (intro w5 g5 Q5; replace Q5 := Lib.hid Q5))
  have P5 : GT w5 g c (ptr bn0) (ptr bn1) (ptr bs) nilP nilP nilP nilP nilP := Q5.out
  have X5 := X4.trans (Ext.of_grown (M := fun j => j = g) g5 (fun j h => by injection h with h; exact h.symm))
  have f5 := (cells_of P5).1
  clear f4 P4 X4 g5 Q5
  go_wp2_with fail
  refine (leaseNew_any w5 c.wm).mono ?_
  rintro e w6 ⟨⟨bl, hbl, rfl, L6⟩, q6⟩
  have hlg : bl ≠ g := by have := heap_lt P5; omega
  have P6 := below_at q6 P5 (heap_lt P5)
  have X6 := X5.trans (Ext.below_all _ q6)
  clear f5 P5 X5 q6 hbl
  go_upto_region 5 with ((with_reducible apply at_store_one 101); (case hx => exact rfl); (case hy => exact rfl); (case hg => exact P6); (case hle => simp); (case hv => rfl); (case hi => kernel_rfl); (case h1 => rfl); (intro w7 g7 Q7; replace Q7 := Lib.hid Q7))
  have P7 : GT w7 g c (ptr bn0) (ptr bn1) (ptr bs) (ptr bl) nilP nilP nilP nilP := Q7.out
  have X7 := X6.trans (Ext.of_grown (M := fun j => j = g) g7 (fun j h => by injection h with h; exact h.symm))
  have L7 := grown_at g7 L6 hlg
  have f7 := (cells_of P7).1
  clear P6 X6 L6 g7 Q7
  go_wp2_with fail
  refine (portsNew_eq w7 c.low HU.out.low).mono ?_
  rintro e w8 ⟨⟨bt, _, rfl⟩, q8⟩
  have P8 := below_at q8 P7 (heap_lt P7)
  have L8 := below_at q8 L7 (heap_lt L7)
  have X8 := X7.trans (Ext.below_all _ q8)
  clear f7 P7 X7 L7 q8
  go_upto_region 6 with ((with_reducible apply at_store_one 102); (case hx => exact rfl); (case hy => exact rfl); (case hg => exact P8); (case hle => simp); (case hv => rfl); (case hi => kernel_rfl); (case h1 => rfl); (intro w9 g9 Q9; replace Q9 := Lib.hid Q9))
  have P9 : GT w9 g c (ptr bn0) (ptr bn1) (ptr bs) (ptr bl) (ptr bt) nilP nilP nilP := Q9.out
  have X9 := X8.trans (Ext.of_grown (M := fun j => j = g) g9 (fun j h => by injection h with h; exact h.symm))
  have L9 := grown_at g9 L8 hlg
  have f9 := (cells_of P9).1
  clear P8 X8 L8 g9 Q9
  go_wp2_with fail
  go_loopw [65] (fun v wr => v = .int .i64 0 ∧ wr = w9) (fun _ _ => 0)
  case atStart => exact ⟨rfl, rfl⟩
  case round =>
    obtain ⟨rfl, rfl⟩ := hrel
    go_upto_region 11 with fail
    clear f9
    have P : GT wr.drew g c (ptr bn0) (ptr bn1) (ptr bs) (ptr bl) (ptr bt) nilP nilP nilP := P9
    have L : wr.drew.heap[bl]? = some (.cells (clZ c.wm) 277 (0, 0)) := L9
    obtain ⟨wn, hwn⟩ : ∃ y, y = wr.drew := ⟨_, rfl⟩
    rw [← hwn] at P L
    have hS : GS w g c (ptr bn0) (ptr bn1) (ptr bs) (ptr bl) (ptr bt) nilP nilP wn := ⟨by rw [hwn]; exact X9.drew, _, P⟩
    refine rs_begin (GS w g c (ptr bn0) (ptr bn1) (ptr bs) (ptr bl) (ptr bt) nilP nilP) (by kernel_rfl) ?_
    rw [← hwn]
    have k1 : ∀ x, GS w g c (ptr bn0) (ptr bn1) (ptr bs) (ptr bl) (ptr bt) nilP nilP x → x.cell? ⟨g, 46, none⟩ = some (ptr bt) := fun x h => by obtain ⟨v, hv⟩ := h.h; exact (cells_of hv).1 46
    have k2 : ∀ x, GS w g c (ptr bn0) (ptr bn1) (ptr bs) (ptr bl) (ptr bt) nilP nilP x → x.cell? ⟨g, 34, none⟩ = some (.int .i64 c.udp) := fun x h => by obtain ⟨v, hv⟩ := h.h; exact (cells_of hv).1 34
    have k3 : ∀ x, GS w g c (ptr bn0) (ptr bn1) (ptr bs) (ptr bl) (ptr bt) nilP nilP x → x.cell? ⟨g, 35, none⟩ = some (.int .i64 c.tcp) := fun x h => by obtain ⟨v, hv⟩ := h.h; exact (cells_of hv).1 35
    have k4 : ∀ x, GS w g c (ptr bn0) (ptr bn1) (ptr bs) (ptr bl) (ptr bt) nilP nilP x → x.cell? ⟨g, 36, none⟩ = some (.int .i64 c.icmp) := fun x h => by obtain ⟨v, hv⟩ := h.h; exact (cells_of hv).1 36
    clear hwn P9 L9 X9
    refine rs_take (v := ?_) 0 rfl (by kernel_rfl) (by kernel_rfl) (by kernel_rfl) (fun _ _ _ h => h) (by rfl) hS ?_ ?_; rotate_left
    · (intro x hx; go_simp; first | done | with_reducible rfl | (rw [if_pos (by omega)]; try with_reducible rfl) | (rw [if_neg (by omega)]; try with_reducible rfl))
    try simp only [Act.put, List.setIfInBounds_toArray, List.set_cons_zero, List.set_cons_succ]
    refine rs_take (v := ?_) 1 rfl (by kernel_rfl) (by kernel_rfl) (by kernel_rfl) (fun _ _ _ h => h) (by rfl) hS ?_ ?_; rotate_left
    · (intro x hx; go_simp; first | done | with_reducible rfl | (rw [if_pos (by omega)]; try with_reducible rfl) | (rw [if_neg (by omega)]; try with_reducible rfl))
    try simp only [Act.put, List.setIfInBounds_toArray, List.set_cons_zero, List.set_cons_succ]
    refine rs_take (v := ?_) 2 rfl (by kernel_rfl) (by kernel_rfl) (by kernel_rfl) (fun _ _ _ h => h) (by rfl) hS ?_ ?_; rotate_left
    · (intro x hx; go_simp; first | done | with_reducible rfl | (rw [if_pos (by omega)]; try with_reducible rfl) | (rw [if_neg (by omega)]; try with_reducible rfl))
    try simp only [Act.put, List.setIfInBounds_toArray, List.set_cons_zero, List.set_cons_succ]
    refine rs_take (v := ?_) 3 rfl (by kernel_rfl) (by kernel_rfl) (by kernel_rfl) (fun _ _ _ h => h) (by rfl) hS ?_ ?_; rotate_left
    · (intro x hx; go_simp; first | done | with_reducible rfl | (rw [if_pos (by omega)]; try with_reducible rfl) | (rw [if_neg (by omega)]; try with_reducible rfl))
    try simp only [Act.put, List.setIfInBounds_toArray, List.set_cons_zero, List.set_cons_succ]
    refine rs_take (v := ?_) 4 rfl (by kernel_rfl) (by kernel_rfl) (by kernel_rfl) (fun _ _ _ h => h) (by rfl) hS ?_ ?_; rotate_left
    · (intro x hx; go_simp; first | done | with_reducible rfl | (rw [if_pos (by omega)]; try with_reducible rfl) | (rw [if_neg (by omega)]; try with_reducible rfl))
    try simp only [Act.put, List.setIfInBounds_toArray, List.set_cons_zero, List.set_cons_succ]
    refine rs_take (v := ?_) 5 rfl (by kernel_rfl) (by kernel_rfl) (by kernel_rfl) (fun _ _ _ h => h) (by rfl) hS ?_ ?_; rotate_left
    · (intro x hx; go_simp; first | done | with_reducible rfl | (rw [if_pos (by omega)]; try with_reducible rfl) | (rw [if_neg (by omega)]; try with_reducible rfl))
    try simp only [Act.put, List.setIfInBounds_toArray, List.set_cons_zero, List.set_cons_succ]
    refine rs_take (v := ?_) 6 rfl (by kernel_rfl) (by kernel_rfl) (by kernel_rfl) (fun _ _ _ h => h) (by rfl) hS ?_ ?_; rotate_left
    · (intro x hx; go_simp; first | done | with_reducible rfl | (rw [if_pos (by omega)]; try with_reducible rfl) | (rw [if_neg (by omega)]; try with_reducible rfl))
    try simp only [Act.put, List.setIfInBounds_toArray, List.set_cons_zero, List.set_cons_succ]
    refine rs_take (v := ?_) 7 rfl (by kernel_rfl) (by kernel_rfl) (by kernel_rfl) (fun _ _ _ h => h) (by rfl) hS ?_ ?_; rotate_left
    · (intro x hx; go_simp; first | done | with_reducible rfl | (rw [if_pos (by omega)]; try with_reducible rfl) | (rw [if_neg (by omega)]; try with_reducible rfl))
    try simp only [Act.put, List.setIfInBounds_toArray, List.set_cons_zero, List.set_cons_succ]
    refine rs_take (v := ?_) 8 rfl (by kernel_rfl) (by kernel_rfl) (by kernel_rfl) (fun _ _ _ h => h) (by rfl) hS ?_ ?_; rotate_left
    · (intro x hx; go_simp; first | done | with_reducible rfl | (rw [if_pos (by omega)]; try with_reducible rfl) | (rw [if_neg (by omega)]; try with_reducible rfl))
    try simp only [Act.put, List.setIfInBounds_toArray, List.set_cons_zero, List.set_cons_succ]
    refine rs_take (v := ?_) 9 rfl (by kernel_rfl) (by kernel_rfl) (by kernel_rfl) (fun _ _ _ h => h) (by rfl) hS ?_ ?_; rotate_left
    · (intro x hx; go_simp; first | done | with_reducible rfl | (rw [if_pos (by omega)]; try with_reducible rfl) | (rw [if_neg (by omega)]; try with_reducible rfl))
    try simp only [Act.put, List.setIfInBounds_toArray, List.set_cons_zero, List.set_cons_succ]
    refine rs_take (v := ?_) 10 rfl (by kernel_rfl) (by kernel_rfl) (by kernel_rfl) (fun _ _ _ h => h) (by rfl) hS ?_ ?_; rotate_left
    · (intro x hx; go_simp; first | done | with_reducible rfl | (rw [if_pos (by omega)]; try with_reducible rfl) | (rw [if_neg (by omega)]; try with_reducible rfl))
    try simp only [Act.put, List.setIfInBounds_toArray, List.set_cons_zero, List.set_cons_succ]
    refine rs_take (v := ?_) 11 rfl (by kernel_rfl) (by kernel_rfl) (by kernel_rfl) (fun _ _ _ h => h) (by rfl) hS ?_ ?_; rotate_left
    · (intro x hx; go_simp; first | done | with_reducible rfl | (rw [if_pos (by omega)]; try with_reducible rfl) | (rw [if_neg (by omega)]; try with_reducible rfl))
    try simp only [Act.put, List.setIfInBounds_toArray, List.set_cons_zero, List.set_cons_succ]
    refine rs_take (v := ?_) 12 rfl (by kernel_rfl) (by kernel_rfl) (by kernel_rfl) (fun _ _ _ h => h) (by rfl) hS ?_ ?_; rotate_left
    · (intro x hx; go_simp; first | done | with_reducible rfl | (rw [if_pos (by omega)]; try with_reducible rfl) | (rw [if_neg (by omega)]; try with_reducible rfl))
    try simp only [Act.put, List.setIfInBounds_toArray, List.set_cons_zero, List.set_cons_succ]
    refine rs_take (v := ?_) 13 rfl (by kernel_rfl) (by kernel_rfl) (by kernel_rfl) (fun _ _ _ h => h) (by rfl) hS ?_ ?_; rotate_left
    · (intro x hx; go_simp; first | done | with_reducible rfl | (rw [if_pos (by omega)]; try with_reducible rfl) | (rw [if_neg (by omega)]; try with_reducible rfl))
    try simp only [Act.put, List.setIfInBounds_toArray, List.set_cons_zero, List.set_cons_succ]
    refine rs_take (v := ?_) 14 rfl (by kernel_rfl) (by kernel_rfl) (by kernel_rfl) (fun _ _ _ h => h) (by rfl) hS ?_ ?_; rotate_left
    · (intro x hx; go_simp; first | done | with_reducible rfl | (rw [if_pos (by omega)]; try with_reducible rfl) | (rw [if_neg (by omega)]; try with_reducible rfl))
    try simp only [Act.put, List.setIfInBounds_toArray, List.set_cons_zero, List.set_cons_succ]
    refine rs_take (v := ?_) 15 rfl (by kernel_rfl) (by kernel_rfl) (by kernel_rfl) (fun _ _ _ h => h) (by rfl) hS ?_ ?_; rotate_left
    · (intro x hx; go_simp; first | done | with_reducible rfl | (rw [if_pos (by omega)]; try with_reducible rfl) | (rw [if_neg (by omega)]; try with_reducible rfl))
    try simp only [Act.put, List.setIfInBounds_toArray, List.set_cons_zero, List.set_cons_succ]
    refine rs_take (v := ?_) 16 rfl (by kernel_rfl) (by kernel_rfl) (by kernel_rfl) (fun _ _ _ h => h) (by rfl) hS ?_ ?_; rotate_left
    · (intro x hx; go_simp; first | done | with_reducible rfl | (rw [if_pos (by omega)]; try with_reducible rfl) | (rw [if_neg (by omega)]; try with_reducible rfl))
    try simp only [Act.put, List.setIfInBounds_toArray, List.set_cons_zero, List.set_cons_succ]
    refine rs_take (v := ?_) 17 rfl (by kernel_rfl) (by kernel_rfl) (by kernel_rfl) (fun _ _ _ h => h) (by rfl) hS ?_ ?_; rotate_left
    · (intro x hx; go_simp; first | done | with_reducible rfl | (rw [if_pos (by omega)]; try with_reducible rfl) | (rw [if_neg (by omega)]; try with_reducible rfl))
    try simp only [Act.put, List.setIfInBounds_toArray, List.set_cons_zero, List.set_cons_succ]
    refine rs_take (v := ?_) 18 rfl (by kernel_rfl) (by kernel_rfl) (by kernel_rfl) (fun _ _ _ h => h) (by rfl) hS ?_ ?_; rotate_left
    · (intro x hx; go_simp; first | done | with_reducible rfl | (rw [if_pos (by omega)]; try with_reducible rfl) | (rw [if_neg (by omega)]; try with_reducible rfl))
    try simp only [Act.put, List.setIfInBounds_toArray, List.set_cons_zero, List.set_cons_succ]
    refine rs_take (v := ?_) 19 rfl (by kernel_rfl) (by kernel_rfl) (by kernel_rfl) (fun _ _ _ h => h) (by rfl) hS ?_ ?_; rotate_left
    · (intro x hx; go_simp; first | done | with_reducible rfl | (rw [if_pos (by omega)]; try with_reducible rfl) | (rw [if_neg (by omega)]; try with_reducible rfl))
    try simp only [Act.put, List.setIfInBounds_toArray, List.set_cons_zero, List.set_cons_succ]
    refine rs_take (v := ?_) 20 rfl (by kernel_rfl) (by kernel_rfl) (by kernel_rfl) (fun _ _ _ h => h) (by rfl) hS ?_ ?_; rotate_left
    · (intro x hx; go_simp; first | done | with_reducible rfl | (rw [if_pos (by omega)]; try with_reducible rfl) | (rw [if_neg (by omega)]; try with_reducible rfl))
    try simp only [Act.put, List.setIfInBounds_toArray, List.set_cons_zero, List.set_cons_succ]
    refine rs_step 21 rfl (by kernel_rfl) (by rfl) (fun K hK => ?_)
    go_simp
    refine (natNew_eq _ bt c.udp c.tcp c.icmp HU.out.u HU.out.t HU.out.i).mono ?_
    rintro e u1 ⟨⟨ba, _, rfl⟩, p1⟩
    replace P := below_at p1 P (heap_lt P)
    replace L := below_at p1 L (heap_lt L)
    replace hS : GS w g c (ptr bn0) (ptr bn1) (ptr bs) (ptr bl) (ptr bt) nilP nilP u1 := ⟨hS.e.trans (Ext.below_all _ p1), _, P⟩
    refine hK.out _ _ hS ?_
    clear hK K; try simp only [Act.put, List.setIfInBounds_toArray, List.set_cons_zero, List.set_cons_succ]
    refine rs_take (v := ?_) 22 rfl (by kernel_rfl) (by kernel_rfl) (by kernel_rfl) (fun _ _ _ h => h) (by rfl) hS ?_ ?_; rotate_left
    · (intro x hx; go_simp; first | done | with_reducible rfl | (rw [if_pos (by omega)]; try with_reducible rfl) | (rw [if_neg (by omega)]; try with_reducible rfl))
    try simp only [Act.put, List.setIfInBounds_toArray, List.set_cons_zero, List.set_cons_succ]
    refine rs_take (v := ?_) 23 rfl (by kernel_rfl) (by kernel_rfl) (by kernel_rfl) (fun _ _ _ h => h) (by rfl) hS ?_ ?_; rotate_left
    · (intro x hx; go_simp; first | done | with_reducible rfl | (rw [if_pos (by omega)]; try with_reducible rfl) | (rw [if_neg (by omega)]; try with_reducible rfl))
    try simp only [Act.put, List.setIfInBounds_toArray, List.set_cons_zero, List.set_cons_succ]
    refine rs_take (v := ?_) 24 rfl (by kernel_rfl) (by kernel_rfl) (by kernel_rfl) (fun _ _ _ h => h) (by rfl) hS ?_ ?_; rotate_left
    · (intro x hx; go_simp; first | done | with_reducible rfl | (rw [if_pos (by omega)]; try with_reducible rfl) | (rw [if_neg (by omega)]; try with_reducible rfl))
    try simp only [Act.put, List.setIfInBounds_toArray, List.set_cons_zero, List.set_cons_succ]
    refine rs_take (v := ?_) 25 rfl (by kernel_rfl) (by kernel_rfl) (by kernel_rfl) (fun _ _ _ h => h) (by rfl) hS ?_ ?_; rotate_left
    · (intro x hx; go_simp; first | done | with_reducible rfl | (rw [if_pos (by omega)]; try with_reducible rfl) | (rw [if_neg (by omega)]; try with_reducible rfl))
    try simp only [Act.put, List.setIfInBounds_toArray, List.set_cons_zero, List.set_cons_succ]
    refine rs_take (v := ?_) 26 rfl (by kernel_rfl) (by kernel_rfl) (by kernel_rfl) (fun _ _ _ h => h) (by rfl) hS ?_ ?_; rotate_left
    · (intro x hx; go_simp; first | done | with_reducible rfl | (rw [if_pos (by omega)]; try with_reducible rfl) | (rw [if_neg (by omega)]; try with_reducible rfl))
    try simp only [Act.put, List.setIfInBounds_toArray, List.set_cons_zero, List.set_cons_succ]
    refine rs_step 27 rfl (by kernel_rfl) (by rfl) (fun K hK => ?_)
    --RAW
    apply wp_store_one 103
    case ho => exact rfl
    case hx => exact rfl
    case hy => exact rfl
    case hg => exact P
    case hle => simp
    case hv => rfl
    case hi => kernel_rfl
    case h1 => rfl
    intro w11 g5 P5
    have x5 := Ext.of_grown (M := fun j => j = g) g5 (fun j h => by injection h with h; exact h.symm)
    have X11 := hS.e.trans x5
    have P11 : GT w11 g c (ptr bn0) (ptr bn1) (ptr bs) (ptr bl) (ptr bt) (ptr ba) nilP nilP := P5
    have L11 := grown_at g5 L hlg
    replace hS : GS w g c (ptr bn0) (ptr bn1) (ptr bs) (ptr bl) (ptr bt) nilP nilP w11 := ⟨X11, _, P11⟩
    refine hK.out _ _ hS ?_
    clear x5 g5 P5 P L p1
    clear hK K
    refine rg_done (by kernel_rfl) ?_
    clear hS k1 k2 k3 k4
    go_wp2_with fail
    refine (askNew_any w11).mono ?_
    rintro e w12 ⟨⟨bk, _, rfl⟩, q12⟩
    have P12 := below_at q12 P11 (heap_lt P11)
    have L12 := below_at q12 L11 (heap_lt L11)
    have X12 := X11.trans (Ext.below_all _ q12)
    clear P11 L11 X11 q12
    go_upto_region 13 with ((with_reducible apply at_store_one 104); (case hx => exact rfl); (case hy => exact rfl); (case hg => exact P12); (case hle => simp); (case hv => rfl); (case hi => kernel_rfl); (case h1 => rfl); (intro w13 g13 Q13; replace Q13 := Lib.hid Q13))
    have P13 : GT w13 g c (ptr bn0) (ptr bn1) (ptr bs) (ptr bl) (ptr bt) (ptr ba) (ptr bk) nilP := Q13.out
    have X13 := X12.trans (Ext.of_grown (M := fun j => j = g) g13 (fun j h => by injection h with h; exact h.symm))
    have L13 := grown_at g13 L12 hlg
    have f13 := (cells_of P13).1
    clear P12 X12 L12 g13 Q13
    go_wp2_with fail
    refine (pmpNew_any w13 bt).mono ?_
    rintro e w14 ⟨⟨bp, _, rfl⟩, q14⟩
    have P14 := below_at q14 P13 (heap_lt P13)
    have L14 := below_at q14 L13 (heap_lt L13)
    have X14 := X13.trans (Ext.below_all _ q14)
    clear f13 P13 L13 X13 q14
    go_wp2_with ((with_reducible apply at_store_one 105); (case hx => exact rfl); (case hy => exact rfl); (case hg => exact P14); (case hle => simp); (case hv => rfl); (case hi => kernel_rfl); (case h1 => rfl); (intro w15 g15 Q15; replace Q15 := Lib.hid Q15))
    have P15 : GT w15 g c (ptr bn0) (ptr bn1) (ptr bs) (ptr bl) (ptr bt) (ptr ba) (ptr bk) (ptr bp) := Q15.out
    have X15 := X14.trans (Ext.of_grown (M := fun j => j = g) g15 (fun j h => by injection h with h; exact h.symm))
    have L15 := grown_at g15 L14 hlg
    refine bodyPost_end (v := .tuple #[]) (by simp [results, Tryz.results23]) rfl ?_
    exact ⟨rfl, _, _, _, bl, _, _, _, _, P15, hlg, L15, X15⟩
end Go.Proofs.YtccbdaffjkdpgaaGreatDoor
