/-
  Contracts of the reference's addr, PutArp, Ask, Answer, and of the statements' own.
-/
import Derived.Test.YtjmeehmbccilkaaArp4
namespace Go.Proofs.Ytjmeehmbccilkaa
open Go.RowKit

theorem adOf_four (a b c d : UInt8) (l : List UInt8) : adOf (a :: b :: c :: d :: l) = ⟨a, b, c, d⟩ := by simp [adOf]
theorem four_of (l : List UInt8) (h : 4 ≤ l.length) : ∃ a b c d r, l = a :: b :: c :: d :: r := by
  match l, h with
  | a :: b :: c :: d :: r, _ => exact ⟨a, b, c, d, r, rfl⟩

set_option maxRecDepth 100000 in
set_option maxHeartbeats 1000000 in
theorem rfaddr_any (w : World) (A : Option Addr) (n c : Nat) (l : List UInt8) (h : BS w w.heap.size A n c l) (hn : 4 ≤ n) (hmx : n ≤ 9223372036854775807) :
    Calls Try.prog 49 #[.slice A n c] w (ValPost w (adV (adOf l))) := by
  obtain ⟨b, o, rfl, hb, hc⟩ := h.byte (k := 0) (by omega)
  obtain ⟨x0, x1, x2, x3, r, rfl⟩ := four_of l (by have := h.1; omega)
  have d0 : w.cell? ⟨b, o, none⟩ = some (.int .u8 (x0.toNat : Int)) := hc 0 (by simp)
  have d1 : w.cell? ⟨b, o + 1, none⟩ = some (.int .u8 (x1.toNat : Int)) := hc 1 (by simp)
  have d2 : w.cell? ⟨b, o + 2, none⟩ = some (.int .u8 (x2.toNat : Int)) := hc 2 (by simp)
  have d3 : w.cell? ⟨b, o + 3, none⟩ = some (.int .u8 (x3.toNat : Int)) := hc 3 (by simp)
  rw [adOf_four]
  clear hc h
  go_enter Try.func49, Try.ntmps49
  go_wp2_with fail
  have hal : ∀ q, q.block < w.heap.size → (w.alloc (.cells #[.int .u8 0, .int .u8 0, .int .u8 0, .int .u8 0] 46)).drew.cell? q = w.cell? q := fun q hq => World.cell?_alloc_lt w _ q hq
  have g0 := Ext.cell (M := fun k => w.heap.size ≤ k) ((hal ⟨b, o, none⟩ hb).trans d0) (by omega)
  have g1 := Ext.cell (M := fun k => w.heap.size ≤ k) ((hal ⟨b, o + 1, none⟩ hb).trans d1) (by omega)
  have g2 := Ext.cell (M := fun k => w.heap.size ≤ k) ((hal ⟨b, o + 2, none⟩ hb).trans d2) (by omega)
  have g3 := Ext.cell (M := fun k => w.heap.size ≤ k) ((hal ⟨b, o + 3, none⟩ hb).trans d3) (by omega)
  clear d0 d1 d2 d3 hal
  refine rg_begin (fun k => w.heap.size ≤ k) (by kernel_rfl) ?_
  refine rg_take (v := ?_) 0 rfl (by kernel_rfl) (by kernel_rfl) (by kernel_rfl) (fun _ _ _ h => h) (by rfl) ?_ ?_; rotate_left
  · (intro x hx; go_simp; first | done | with_reducible rfl | (rw [if_pos (by omega)]; try with_reducible rfl))
  try simp only [Act.put, List.setIfInBounds_toArray, List.set_cons_zero, List.set_cons_succ]
  refine rg_take (v := ?_) 1 rfl (by kernel_rfl) (by kernel_rfl) (by kernel_rfl) (fun _ _ _ h => h) (by rfl) ?_ ?_; rotate_left
  · (intro x hx; go_simp; first | done | with_reducible rfl | (rw [if_pos (by omega)]; try with_reducible rfl))
  try simp only [Act.put, List.setIfInBounds_toArray, List.set_cons_zero, List.set_cons_succ]
  refine rg_take (v := ?_) 2 rfl (by kernel_rfl) (by kernel_rfl) (by kernel_rfl) (fun _ _ _ h => h) (by rfl) ?_ ?_; rotate_left
  · (intro x hx; go_simp; first | done | with_reducible rfl | (rw [if_pos (by omega)]; try with_reducible rfl))
  try simp only [Act.put, List.setIfInBounds_toArray, List.set_cons_zero, List.set_cons_succ]
  refine rg_take (v := ?_) 3 rfl (by kernel_rfl) (by kernel_rfl) (by kernel_rfl) (fun _ _ _ h => h) (by rfl) ?_ ?_; rotate_left
  · (intro x hx; go_simp; first | done | with_reducible rfl | (rw [if_pos (by omega)]; try with_reducible rfl))
  try simp only [Act.put, List.setIfInBounds_toArray, List.set_cons_zero, List.set_cons_succ]
  refine rg_take (v := ?_) 4 rfl (by kernel_rfl) (by kernel_rfl) (by kernel_rfl) (fun _ _ _ h => h) (by rfl) ?_ ?_; rotate_left
  · (intro x hx; go_simp; first | done | with_reducible rfl | (rw [if_pos (by omega)]; try with_reducible rfl))
  try simp only [Act.put, List.setIfInBounds_toArray, List.set_cons_zero, List.set_cons_succ]
  refine rg_take (v := ?_) 5 rfl (by kernel_rfl) (by kernel_rfl) (by kernel_rfl) (fun _ _ _ h => h) (by rfl) ?_ ?_; rotate_left
  · (intro x hx; go_simp; first | done | with_reducible rfl | (rw [if_pos (by omega)]; try with_reducible rfl))
  try simp only [Act.put, List.setIfInBounds_toArray, List.set_cons_zero, List.set_cons_succ]
  refine rg_take (v := ?_) 6 rfl (by kernel_rfl) (by kernel_rfl) (by kernel_rfl) (fun _ _ _ h => h) (by rfl) ?_ ?_; rotate_left
  · (intro x hx; go_simp; first | done | with_reducible rfl | (rw [if_pos (by omega)]; try with_reducible rfl))
  try simp only [Act.put, List.setIfInBounds_toArray, List.set_cons_zero, List.set_cons_succ]
  refine rg_take (v := ?_) 7 rfl (by kernel_rfl) (by kernel_rfl) (by kernel_rfl) (fun _ _ _ h => h) (by rfl) ?_ ?_; rotate_left
  · (intro x hx; go_simp; first | done | with_reducible rfl | (rw [if_pos (by omega)]; try with_reducible rfl))
  try simp only [Act.put, List.setIfInBounds_toArray, List.set_cons_zero, List.set_cons_succ]
  refine rg_take (v := ?_) 8 rfl (by kernel_rfl) (by kernel_rfl) (by kernel_rfl) (fun _ _ _ h => h) (by rfl) ?_ ?_; rotate_left
  · (intro x hx; go_simp; first | done | with_reducible rfl | (rw [if_pos (by omega)]; try with_reducible rfl))
  try simp only [Act.put, List.setIfInBounds_toArray, List.set_cons_zero, List.set_cons_succ]
  refine rg_take (v := ?_) 9 rfl (by kernel_rfl) (by kernel_rfl) (by kernel_rfl) (fun _ _ _ h => h) (by rfl) ?_ ?_; rotate_left
  · (intro x hx; go_simp; first | done | with_reducible rfl | (rw [if_pos (by omega)]; try with_reducible rfl))
  try simp only [Act.put, List.setIfInBounds_toArray, List.set_cons_zero, List.set_cons_succ]
  refine rg_take (v := ?_) 10 rfl (by kernel_rfl) (by kernel_rfl) (by kernel_rfl) (fun _ _ _ h => h) (by rfl) ?_ ?_; rotate_left
  · (intro x hx; go_simp; first | done | with_reducible rfl | (rw [if_pos (by omega)]; try with_reducible rfl))
  try simp only [Act.put, List.setIfInBounds_toArray, List.set_cons_zero, List.set_cons_succ]
  refine rg_take (v := ?_) 11 rfl (by kernel_rfl) (by kernel_rfl) (by kernel_rfl) (fun _ _ _ h => h) (by rfl) ?_ ?_; rotate_left
  · (intro x hx; go_simp; first | done | with_reducible rfl | (rw [if_pos (by omega)]; try with_reducible rfl))
  try simp only [Act.put, List.setIfInBounds_toArray, List.set_cons_zero, List.set_cons_succ]
  refine rg_take (v := ?_) 12 rfl (by kernel_rfl) (by kernel_rfl) (by kernel_rfl) (fun _ _ _ h => h) (by rfl) ?_ ?_; rotate_left
  · (intro x hx; go_simp; first | done | with_reducible rfl | (rw [if_pos (by omega)]; try with_reducible rfl))
  try simp only [Act.put, List.setIfInBounds_toArray, List.set_cons_zero, List.set_cons_succ]
  refine rg_step 13 rfl (by kernel_rfl) (by rfl) (fun K hK => ?_)
  go_simp
  refine hK.out _ _ (Ext.realloc _ _ _ (Nat.le_refl _)) ?_
  clear hK K; try simp only [Act.put, List.setIfInBounds_toArray, List.set_cons_zero, List.set_cons_succ]
  refine rg_done (by kernel_rfl) ?_
  go_wp2_with fail
  refine bodyPost_ret (v := adV ⟨x0, x1, x2, x3⟩) (by simp [results, Try.results49, go_sem]) rfl ?_
  exact ⟨rfl, by go_grown⟩

set_option maxHeartbeats 400000 in
theorem rbroad_any (w : World) : Calls Try.prog 50 #[] w (ValPost w (macV broad6)) := by
  go_enter Try.func50, Try.ntmps50
  go_wp2
  refine bodyPost_ret (v := macV broad6) (by simp [results, Try.results50, go_sem, broad6]) rfl ?_
  exact ⟨rfl, by go_grown⟩

/-- The bytes as the reference writes them, whatever the kind. -/
def rpkB (p : Pk) : List UInt8 := [0, 1, 8, 0, 6, 4, 0, bN p.op] ++ p.fm.bytes ++ p.fr.bytes ++ p.tm.bytes ++ p.ta.bytes
theorem rpkB_eq (p : Pk) (hp : p.op = 1 ∨ p.op = 2) : rpkB p = pkB p := by
  have : b16 p.op = [0, bN p.op] := by
    unfold b16
    congr 1
    rcases hp with h | h <;> rw [h] <;> decide
  rw [rpkB, pkB, this]
  rfl

set_option maxRecDepth 100000 in
set_option maxHeartbeats 2000000 in
theorem rput5_any (w : World) (p : Pk) : Calls Try.prog 31 #[pkV p] w (OwnPost w (rpkB p)) := by
  obtain ⟨op, fm, fr, tm, ta⟩ := p
  have hbn : IntKind.u8.wrap op = ((bN op).toNat : Int) := by rw [bN_val]; exact IntKind.wrap_u8 op
  have C0 := Ext.cells (M := fun k => w.heap.size < k) (w := (w.alloc (.cells (pkC ⟨op, fm, fr, tm, ta⟩) 55)).drew) (heap_alloc_at rfl) (by omega)
  go_enter Try.func31, Try.ntmps31
  go_wp2_with fail
  refine rg_begin (fun k => w.heap.size < k) (by kernel_rfl) ?_
  refine rg_take (v := ?_) 0 rfl (by kernel_rfl) (by kernel_rfl) (by kernel_rfl) (fun _ _ _ h => h) (by rfl) ?_ ?_; rotate_left
  · (intro x hx; go_simp; first | done | with_reducible rfl | (rw [if_pos (by omega)]; try with_reducible rfl))
  try simp only [Act.put, List.setIfInBounds_toArray, List.set_cons_zero, List.set_cons_succ]
  refine rg_take (v := ?_) 1 rfl (by kernel_rfl) (by kernel_rfl) (by kernel_rfl) (fun _ _ _ h => h) (by rfl) ?_ ?_; rotate_left
  · (intro x hx; go_simp; first | done | with_reducible rfl | (rw [if_pos (by omega)]; try with_reducible rfl))
  try simp only [Act.put, List.setIfInBounds_toArray, List.set_cons_zero, List.set_cons_succ]
  refine rg_take (v := ?_) 2 rfl (by kernel_rfl) (by kernel_rfl) (by kernel_rfl) (fun _ _ _ h => h) (by rfl) ?_ ?_; rotate_left
  · (intro x hx; go_simp; first | done | with_reducible rfl | (rw [if_pos (by omega)]; try with_reducible rfl))
  try simp only [Act.put, List.setIfInBounds_toArray, List.set_cons_zero, List.set_cons_succ]
  refine rg_take (v := ?_) 4 rfl (by kernel_rfl) (by kernel_rfl) (by kernel_rfl) (fun _ _ _ h => h) (by rfl) ?_ ?_; rotate_left
  · (intro x hx; go_simp; first | done | with_reducible rfl | (rw [if_pos (by omega)]; try with_reducible rfl))
  try simp only [Act.put, List.setIfInBounds_toArray, List.set_cons_zero, List.set_cons_succ]
  refine rg_take (v := ?_) 5 rfl (by kernel_rfl) (by kernel_rfl) (by kernel_rfl) (fun _ _ _ h => h) (by rfl) ?_ ?_; rotate_left
  · (intro x hx; go_simp; first | done | with_reducible rfl | (rw [if_pos (by omega)]; try with_reducible rfl))
  try simp only [Act.put, List.setIfInBounds_toArray, List.set_cons_zero, List.set_cons_succ]
  refine rg_step 3 rfl (by kernel_rfl) (by rfl) (fun K hK => ?_)
  go_simp
  refine hK.out _ _ ((Ext.refl _ _).alloc _) ?_
  clear hK K; try simp only [Act.put, List.setIfInBounds_toArray, List.set_cons_zero, List.set_cons_succ]
  refine rg_step 6 rfl (by kernel_rfl) (by rfl) (fun K hK => ?_)
  refine wp_app8 _ _ 0 0 rfl (w.heap.size + 1) _ 8 8 [0, 1, 8, 0, 6, 4, 0, bN op] rfl (OB.drew (OB.made _ (w.heap.size + 1) [0, 1, 8, 0, 6, 4, 0, bN op] (w.heap.size + 1) (by simp) (Nat.le_refl _) (by simp [maxLen]) _ rfl)) (w.heap.size + 1) _ 6 6 fm.bytes rfl
    (BS.part (t := 55) (fr := (0, 0)) fm.bytes 6 (heap_alloc_of (heap_alloc_at rfl)) rfl (by simp [Mac6.bytes]) (by simp [maxLen])) (by simp [Mac6.bytes]) (by simp) ?_
  intro A1 n1 c1 w1 ho1 hb1 hg1
  have hbox1 := (hb1.block w.heap.size (by omega)).trans (heap_alloc_of (heap_alloc_at rfl))
  have z1 := hb1.size
  simp at z1
  refine hK.out _ _ (Ext.of_below _ hb1 fun k hk _ => by omega) ?_
  clear hK K; try simp only [Act.put, List.setIfInBounds_toArray, List.set_cons_zero, List.set_cons_succ]
  refine rg_take (v := ?_) 7 rfl (by kernel_rfl) (by kernel_rfl) (by kernel_rfl) (fun _ _ _ h => h) (by rfl) ?_ ?_; rotate_left
  · (intro x hx; go_simp; first | done | with_reducible rfl | (rw [if_pos (by omega)]; try with_reducible rfl))
  try simp only [Act.put, List.setIfInBounds_toArray, List.set_cons_zero, List.set_cons_succ]
  refine rg_done (by kernel_rfl) ?_
  have q1 : Below w.heap.size w w1 := ((((Below.refl _ w).alloc (Nat.le_refl _) _).alloc (by simp) _).drew).trans (hb1.mono (by omega))
  have B1 := Lib.hid hbox1
  clear C0 hbox1 hg1 hb1
  go_wp2_with (at_builtin; go_must (refine app8 rfl _ _ rfl (w.heap.size + 1) _ n1 c1 _ rfl ho1 (w.heap.size + 1) _ 4 4 fr.bytes rfl (BS.part (t := 55) (fr := (0, 0)) fr.bytes 4 B1.out rfl (by simp [Mac6.bytes, Ad4.bytes]) (by simp [maxLen])) (by simp [Mac6.bytes, Ad4.bytes]) (by omega) ?_))
  intro A2 n2 c2 w2 ho2 hb2 _
  have z2 := hb2.size
  have q2 : Below w.heap.size w w2 := q1.trans (hb2.mono (by omega))
  have B2 := Lib.hid ((hb2.block w.heap.size (by omega)).trans B1.out)
  go_wp2_with (at_builtin; go_must (refine app8 rfl _ _ rfl (w.heap.size + 1) _ n2 c2 _ rfl ho2 (w.heap.size + 1) _ 6 6 tm.bytes rfl (BS.part (t := 55) (fr := (0, 0)) tm.bytes 6 B2.out rfl (by simp [Mac6.bytes, Ad4.bytes]) (by simp [maxLen])) (by simp [Mac6.bytes, Ad4.bytes]) (by omega) ?_))
  intro A3 n3 c3 w3 ho3 hb3 _
  have z3 := hb3.size
  have q3 : Below w.heap.size w w3 := q2.trans (hb3.mono (by omega))
  have B3 := Lib.hid ((hb3.block w.heap.size (by omega)).trans B2.out)
  go_wp2_with (at_builtin; go_must (refine app8 rfl _ _ rfl (w.heap.size + 1) _ n3 c3 _ rfl ho3 (w.heap.size + 1) _ 4 4 ta.bytes rfl (BS.part (t := 55) (fr := (0, 0)) ta.bytes 4 B3.out rfl (by simp [Mac6.bytes, Ad4.bytes]) (by simp [maxLen])) (by simp [Mac6.bytes, Ad4.bytes]) (by omega) ?_))
  intro A4 n4 c4 w4 ho4 hb4 _
  have z4 := hb4.size
  have q4 : Below w.heap.size w w4 := q3.trans (hb4.mono (by omega))
  have B4 := Lib.hid ((hb4.block w.heap.size (by omega)).trans B3.out)
  go_wp2_with fail
  go_ret
  exact ⟨A4, n4, c4, rfl, ho4.lower (by omega), q4⟩

set_option maxRecDepth 100000 in
set_option maxHeartbeats 400000 in
theorem own5_any (w : World) (p : Pk) : Calls Try.prog 30 #[pkV p] w (ValPost w (pkV p)) := by
  go_enter Try.func30, Try.ntmps30
  go_wp2_with ((with_reducible apply at_store_new 55); (case hx => exact rfl); (case hy => exact rfl); (case hg => first | rfl | simp); (case hi => kernel_rfl); (case hold => rfl); (case h1 => kernel_rfl))
  refine bodyPost_cell (w.heap.size + 1) _ _ _ rfl rfl (heap_alloc_at (by simp)) Try.underlying55 rfl (by kernel_rfl) rfl ?_
  exact ⟨rfl, by go_grown⟩

set_option maxRecDepth 100000 in
set_option maxHeartbeats 1000000 in
theorem same5_eq (w : World) (t f : Mac6) (k : Int) (A A' : Option Addr) (n n' c c' : Nat) (l : List UInt8) (h : BS w w.heap.size A n c l) (h' : BS w w.heap.size A' n' c' l) :
    Calls Try.prog 32 #[frV t f k A n c, frV t f k A' n' c'] w (TruePost w) := by
  have e1 := fun w => run_eql_mac w t t
  have e2 := fun w => run_eql_mac w f f
  rw [(meq_iff t t).2 rfl] at e1
  rw [(meq_iff f f).2 rfl] at e2
  have x1 : ∀ o o', (convert 25 9 (.slice A n c)).run Try.prog ((w.alloc o).alloc o') = .ok (.string (str l)) ((w.alloc o).alloc o') := fun o o' => run_str ((h.alloc (Nat.le_refl _) _).alloc (by simp) _)
  have x2 : ∀ o o', (convert 25 9 (.slice A' n' c')).run Try.prog ((w.alloc o).alloc o') = .ok (.string (str l)) ((w.alloc o).alloc o') := fun o o' => run_str ((h'.alloc (Nat.le_refl _) _).alloc (by simp) _)
  go_enter Try.func32, Try.ntmps32
  go_wp2_with fail
  go_ret
  exact ⟨rfl, by go_grown⟩

set_option maxRecDepth 100000 in
set_option maxHeartbeats 1000000 in
theorem rask5_any (w : World) (o : Mac6) (f t : Ad4) : Calls Try.prog 33 #[macV o, adV f, adV t] w (FramePost w broad6 o (rpkB (askPk o f t))) := by
  go_enter Try.func33, Try.ntmps33
  go_wp2_with fail
  refine rg_begin_with (fun k => w.heap.size + 1 + 1 < k) (fun W => (∀ x, Ext (fun k => w.heap.size + 1 + 1 < k) W x → ∀ j, x.cell? ⟨w.heap.size, j, none⟩ = o.cells[j]?) ∧
    (∀ x, Ext (fun k => w.heap.size + 1 + 1 < k) W x → ∀ j, x.cell? ⟨w.heap.size + 1, j, none⟩ = f.cells[j]?) ∧ (∀ x, Ext (fun k => w.heap.size + 1 + 1 < k) W x → ∀ j, x.cell? ⟨w.heap.size + 1 + 1, j, none⟩ = t.cells[j]?))
    (by kernel_rfl) ⟨Ext.cells (heap_alloc_of (heap_alloc_of (heap_alloc_of (heap_alloc_at rfl)))) (by omega), Ext.cells (heap_alloc_of (heap_alloc_of (heap_alloc_at (by simp)))) (by omega), Ext.cells (heap_alloc_of (heap_alloc_at (by simp))) (by omega)⟩ ?_
  rintro ⟨C0, C1, C2⟩
  simp only [Mac6.cells, Ad4.cells] at C0 C1 C2
  refine rg_take (v := ?_) 1 rfl (by kernel_rfl) (by kernel_rfl) (by kernel_rfl) (fun _ _ _ h => h) (by rfl) ?_ ?_; rotate_left
  · (intro x hx; go_simp; first | done | with_reducible rfl | (rw [if_pos (by omega)]; try with_reducible rfl))
  try simp only [Act.put, List.setIfInBounds_toArray, List.set_cons_zero, List.set_cons_succ]
  refine rg_take (v := ?_) 2 rfl (by kernel_rfl) (by kernel_rfl) (by kernel_rfl) (fun _ _ _ h => h) (by rfl) ?_ ?_; rotate_left
  · (intro x hx; go_simp; first | done | with_reducible rfl | (rw [if_pos (by omega)]; try with_reducible rfl))
  try simp only [Act.put, List.setIfInBounds_toArray, List.set_cons_zero, List.set_cons_succ]
  refine rg_take (v := ?_) 3 rfl (by kernel_rfl) (by kernel_rfl) (by kernel_rfl) (fun _ _ _ h => h) (by rfl) ?_ ?_; rotate_left
  · (intro x hx; go_simp; first | done | with_reducible rfl | (rw [if_pos (by omega)]; try with_reducible rfl))
  try simp only [Act.put, List.setIfInBounds_toArray, List.set_cons_zero, List.set_cons_succ]
  refine rg_take (v := ?_) 4 rfl (by kernel_rfl) (by kernel_rfl) (by kernel_rfl) (fun _ _ _ h => h) (by rfl) ?_ ?_; rotate_left
  · (intro x hx; go_simp; first | done | with_reducible rfl | (rw [if_pos (by omega)]; try with_reducible rfl))
  try simp only [Act.put, List.setIfInBounds_toArray, List.set_cons_zero, List.set_cons_succ]
  refine rg_take (v := ?_) 5 rfl (by kernel_rfl) (by kernel_rfl) (by kernel_rfl) (fun _ _ _ h => h) (by rfl) ?_ ?_; rotate_left
  · (intro x hx; go_simp; first | done | with_reducible rfl | (rw [if_pos (by omega)]; try with_reducible rfl))
  try simp only [Act.put, List.setIfInBounds_toArray, List.set_cons_zero, List.set_cons_succ]
  refine rg_step 0 rfl (by kernel_rfl) (by rfl) (fun K hK => ?_)
  go_simp
  refine (rbroad_any _).mono ?_
  rintro e w1 ⟨rfl, hb1⟩
  have R1 : w1.heap[w.heap.size + 1 + 1 + 1]? = some (.cells fz 35 (0, 0)) := below_at hb1 (heap_alloc_at (by simp)) (by simp)
  have z1 := hb1.size
  simp at z1
  have q1 : Below w.heap.size w w1 := (((((Below.refl _ w).alloc (Nat.le_refl _) _).alloc (by simp) _).alloc (by simp; omega) _).alloc (by simp; omega) _).drew.trans (hb1.mono (by simp; omega))
  refine hK.out _ _ (Ext.below_all _ hb1) ?_
  clear hK K; try simp only [Act.put, List.setIfInBounds_toArray, List.set_cons_zero, List.set_cons_succ]
  refine rg_step 6 rfl (by kernel_rfl) (by rfl) (fun K hK => ?_)
  go_simp
  refine (rput5_any _ (askPk o f t)).mono ?_
  rintro e w2 ⟨A, n, c, rfl, ho, hb2⟩
  have R2 := below_at hb2 R1 (by omega)
  have z2 := hb2.size
  have q2 : Below w.heap.size w w2 := q1.trans (hb2.mono (by omega))
  obtain ⟨k2, f2⟩ := cells_of R2
  clear C0 C1 C2
  refine hK.out _ _ (Ext.below_all _ hb2) ?_
  clear hK K; try simp only [Act.put, List.setIfInBounds_toArray, List.set_cons_zero, List.set_cons_succ]
  refine rg_take (v := ?_) 7 rfl (by kernel_rfl) (by kernel_rfl) (by kernel_rfl) (fun _ _ _ h => h) (by rfl) ?_ ?_; rotate_left
  · (intro x hx; go_simp; first | done | with_reducible rfl | (rw [if_pos (by omega)]; try with_reducible rfl))
  try simp only [Act.put, List.setIfInBounds_toArray, List.set_cons_zero, List.set_cons_succ]
  refine rg_step 8 rfl (by kernel_rfl) (by rfl) (fun K hK => ?_)
  go_simp
  refine hK.out _ _ ?_ ?_
  · repeat (refine Ext.set ?_ (.inr (Nat.lt_succ_self (w.heap.size + 1 + 1))) _)
    exact Ext.refl _ _
  clear hK K; try simp only [Act.put, List.setIfInBounds_toArray, List.set_cons_zero, List.set_cons_succ]
  refine rg_done (by kernel_rfl) ?_
  go_wp2_with fail
  refine bodyPost_ret (v := frV broad6 o 2054 A n c) (by simp [results, Try.results33, go_sem, k2, broad6]) rfl ?_
  refine ⟨A, n, c, rfl, ?_, ?_⟩
  · refine OB.lower (H := w1.heap.size) ?_ (by omega)
    repeat (refine OB.setLow ?_ (by simp; omega) _)
    exact ho
  · refine q2.trans ?_
    go_grown

set_option maxRecDepth 100000 in
set_option maxHeartbeats 1000000 in
theorem rans5_any (w : World) (o : Mac6) (p : Pk) : Calls Try.prog 34 #[macV o, pkV p] w (FramePost w p.fm o (rpkB (ansPk o p))) := by
  obtain ⟨op, fm, fr, tm, ta⟩ := p
  go_enter Try.func34, Try.ntmps34
  go_wp2_with fail
  refine rg_begin_with (fun k => w.heap.size + 1 < k) (fun W => (∀ x, Ext (fun k => w.heap.size + 1 < k) W x → ∀ j, x.cell? ⟨w.heap.size, j, none⟩ = o.cells[j]?) ∧
    (∀ x, Ext (fun k => w.heap.size + 1 < k) W x → ∀ j, x.cell? ⟨w.heap.size + 1, j, none⟩ = (pkC ⟨op, fm, fr, tm, ta⟩)[j]?))
    (by kernel_rfl) ⟨Ext.cells (heap_alloc_of (heap_alloc_of (heap_alloc_at rfl))) (by omega), Ext.cells (heap_alloc_of (heap_alloc_at (by simp))) (by omega)⟩ ?_
  rintro ⟨C0, C1⟩
  simp only [Mac6.cells] at C0
  refine rg_take (v := ?_) 0 rfl (by kernel_rfl) (by kernel_rfl) (by kernel_rfl) (fun _ _ _ h => h) (by rfl) ?_ ?_; rotate_left
  · (intro x hx; go_simp; first | done | with_reducible rfl | (rw [if_pos (by omega)]; try with_reducible rfl))
  try simp only [Act.put, List.setIfInBounds_toArray, List.set_cons_zero, List.set_cons_succ]
  refine rg_take (v := ?_) 1 rfl (by kernel_rfl) (by kernel_rfl) (by kernel_rfl) (fun _ _ _ h => h) (by rfl) ?_ ?_; rotate_left
  · (intro x hx; go_simp; first | done | with_reducible rfl | (rw [if_pos (by omega)]; try with_reducible rfl))
  try simp only [Act.put, List.setIfInBounds_toArray, List.set_cons_zero, List.set_cons_succ]
  refine rg_take (v := ?_) 2 rfl (by kernel_rfl) (by kernel_rfl) (by kernel_rfl) (fun _ _ _ h => h) (by rfl) ?_ ?_; rotate_left
  · (intro x hx; go_simp; first | done | with_reducible rfl | (rw [if_pos (by omega)]; try with_reducible rfl))
  try simp only [Act.put, List.setIfInBounds_toArray, List.set_cons_zero, List.set_cons_succ]
  refine rg_take (v := ?_) 3 rfl (by kernel_rfl) (by kernel_rfl) (by kernel_rfl) (fun _ _ _ h => h) (by rfl) ?_ ?_; rotate_left
  · (intro x hx; go_simp; first | done | with_reducible rfl | (rw [if_pos (by omega)]; try with_reducible rfl))
  try simp only [Act.put, List.setIfInBounds_toArray, List.set_cons_zero, List.set_cons_succ]
  refine rg_take (v := ?_) 4 rfl (by kernel_rfl) (by kernel_rfl) (by kernel_rfl) (fun _ _ _ h => h) (by rfl) ?_ ?_; rotate_left
  · (intro x hx; go_simp; first | done | with_reducible rfl | (rw [if_pos (by omega)]; try with_reducible rfl))
  try simp only [Act.put, List.setIfInBounds_toArray, List.set_cons_zero, List.set_cons_succ]
  refine rg_take (v := ?_) 5 rfl (by kernel_rfl) (by kernel_rfl) (by kernel_rfl) (fun _ _ _ h => h) (by rfl) ?_ ?_; rotate_left
  · (intro x hx; go_simp; first | done | with_reducible rfl | (rw [if_pos (by omega)]; try with_reducible rfl))
  try simp only [Act.put, List.setIfInBounds_toArray, List.set_cons_zero, List.set_cons_succ]
  refine rg_take (v := ?_) 6 rfl (by kernel_rfl) (by kernel_rfl) (by kernel_rfl) (fun _ _ _ h => h) (by rfl) ?_ ?_; rotate_left
  · (intro x hx; go_simp; first | done | with_reducible rfl | (rw [if_pos (by omega)]; try with_reducible rfl))
  try simp only [Act.put, List.setIfInBounds_toArray, List.set_cons_zero, List.set_cons_succ]
  refine rg_take (v := ?_) 7 rfl (by kernel_rfl) (by kernel_rfl) (by kernel_rfl) (fun _ _ _ h => h) (by rfl) ?_ ?_; rotate_left
  · (intro x hx; go_simp; first | done | with_reducible rfl | (rw [if_pos (by omega)]; try with_reducible rfl))
  try simp only [Act.put, List.setIfInBounds_toArray, List.set_cons_zero, List.set_cons_succ]
  refine rg_take (v := ?_) 8 rfl (by kernel_rfl) (by kernel_rfl) (by kernel_rfl) (fun _ _ _ h => h) (by rfl) ?_ ?_; rotate_left
  · (intro x hx; go_simp; first | done | with_reducible rfl | (rw [if_pos (by omega)]; try with_reducible rfl))
  try simp only [Act.put, List.setIfInBounds_toArray, List.set_cons_zero, List.set_cons_succ]
  refine rg_take (v := ?_) 9 rfl (by kernel_rfl) (by kernel_rfl) (by kernel_rfl) (fun _ _ _ h => h) (by rfl) ?_ ?_; rotate_left
  · (intro x hx; go_simp; first | done | with_reducible rfl | (rw [if_pos (by omega)]; try with_reducible rfl))
  try simp only [Act.put, List.setIfInBounds_toArray, List.set_cons_zero, List.set_cons_succ]
  refine rg_take (v := ?_) 10 rfl (by kernel_rfl) (by kernel_rfl) (by kernel_rfl) (fun _ _ _ h => h) (by rfl) ?_ ?_; rotate_left
  · (intro x hx; go_simp; first | done | with_reducible rfl | (rw [if_pos (by omega)]; try with_reducible rfl))
  try simp only [Act.put, List.setIfInBounds_toArray, List.set_cons_zero, List.set_cons_succ]
  refine rg_step 11 rfl (by kernel_rfl) (by rfl) (fun K hK => ?_)
  go_simp
  refine (rput5_any _ (ansPk o ⟨op, fm, fr, tm, ta⟩)).mono ?_
  rintro e w2 ⟨A, n, c, rfl, ho, hb2⟩
  have R2 : w2.heap[w.heap.size + 1 + 1]? = some (.cells fz 35 (0, 0)) := below_at hb2 (heap_alloc_at (by simp)) (by simp)
  have z2 := hb2.size
  simp at z2
  have q2 : Below w.heap.size w w2 := ((((Below.refl _ w).alloc (Nat.le_refl _) _).alloc (by simp) _).alloc (by simp; omega) _).drew.trans (hb2.mono (by simp; omega))
  obtain ⟨k2, f2⟩ := cells_of R2
  clear C0 C1
  refine hK.out _ _ (Ext.below_all _ hb2) ?_
  clear hK K; try simp only [Act.put, List.setIfInBounds_toArray, List.set_cons_zero, List.set_cons_succ]
  refine rg_take (v := ?_) 12 rfl (by kernel_rfl) (by kernel_rfl) (by kernel_rfl) (fun _ _ _ h => h) (by rfl) ?_ ?_; rotate_left
  · (intro x hx; go_simp; first | done | with_reducible rfl | (rw [if_pos (by omega)]; try with_reducible rfl))
  try simp only [Act.put, List.setIfInBounds_toArray, List.set_cons_zero, List.set_cons_succ]
  refine rg_step 13 rfl (by kernel_rfl) (by rfl) (fun K hK => ?_)
  go_simp
  refine hK.out _ _ ?_ ?_
  · repeat (refine Ext.set ?_ (.inr (Nat.lt_succ_self (w.heap.size + 1))) _)
    exact Ext.refl _ _
  clear hK K; try simp only [Act.put, List.setIfInBounds_toArray, List.set_cons_zero, List.set_cons_succ]
  refine rg_done (by kernel_rfl) ?_
  go_wp2_with fail
  refine bodyPost_ret (v := frV fm o 2054 A n c) (by simp [results, Try.results34, go_sem, k2]) rfl ?_
  refine ⟨A, n, c, rfl, ?_, ?_⟩
  · refine OB.lower (H := w.heap.size + 1 + 1 + 1) ?_ (by omega)
    repeat (refine OB.setLow ?_ (by simp) _)
    exact ho.lower (by simp)
  · refine q2.trans ?_
    go_grown
end Go.Proofs.Ytjmeehmbccilkaa
