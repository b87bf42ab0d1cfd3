/-
  Contracts of lease's small calls: New, time, Lose, seconds, State, Bound, typed; slices.Clone; the statements' mac, num.
-/
import Derived.Test.YtjpmfmmgmlnanaaLs1
import Derived.Test.YtjpmfmmgmlnanaaDh2
import Derived.Lib.SliceRun
import Derived.Test.YtjpmfmmgmlnanaaZeros
import Derived.Test.YtjpmfmmgmlnanaaBig2
import Derived.Test.YtjpmfmmgmlnanaaRegion2
namespace Go.Proofs.Ytjpmfmmgmlnanaa
open Go.RowKit

/-- A client that lies at block g. -/
abbrev CB (w : World) (g : Nat) (c : Cl) : Prop := w.heap[g]? = some (.cells (clC c) 51 (0, 0))
def CPost (w : World) (g : Nat) (c' : Cl) (v : Value) (e : Ending) (w' : World) : Prop := e = .returned v ∧ CB w' g c' ∧ w.grownBy w' (some g)

theorem CB.ne {w : World} {g b : Nat} {c : Cl} {cs : Array Value} {t : TypeId} (h : CB w g c) (hb : w.heap[b]? = some (.cells cs t (0, 0))) (ht : t ≠ 51) : b ≠ g := by
  rintro rfl
  have h1 := hb.symm.trans h
  injection h1 with h1
  injection h1 with _ e _
  exact ht e
theorem CB.below {w w' : World} {g : Nat} {c : Cl} (h : CB w g c) (hb : Below w.heap.size w w') : CB w' g c := below_at hb h (heap_lt h)
theorem grown_trans {a b c : World} {r : Option Nat} (h : a.grownBy b r) (k : b.grownBy c r) : a.grownBy c r :=
  ⟨k.os.trans h.os, k.tape.trans h.tape, k.output.trans h.output, Nat.le_trans h.size k.size, fun i hi hn => (k.block i (Nat.lt_of_lt_of_le hi h.size) hn).trans (h.block i hi hn)⟩

set_option maxHeartbeats 1000000 in
theorem ctime_any (w : World) (g : Nat) (c : Cl) (t : Int) (h : CB w g c) :
    Calls Try.prog 19 #[.pointer (some ⟨g, 0, none⟩), .int .i64 t] w (CPost w g (c.time t) (.int .i64 (c.time t).now)) := by
  obtain ⟨hc, _⟩ := cells_of h
  have d7 : w.cell? ⟨g, 7, none⟩ = some (.int .i64 c.now) := hc 7
  have HC := Lib.hid h
  clear hc h
  by_cases h1 : c.now < t
  · have t1 : decide (c.now < t) = true := decide_eq_true h1
    by_cases h2 : t ≤ 1099511627776
    · have t2 : decide (t ≤ 1099511627776) = true := decide_eq_true h2
      have HE := Lib.hid (show c.time t = { c with now := t } by rw [Cl.time, if_pos ⟨h1, h2⟩])
      go_enter Try.func19, Try.ntmps19
      go_upto_region 3 with ((with_reducible apply at_store_one 2); (case hx => exact rfl); (case hy => exact rfl); (case hg => exact HC.out); (case hle => simp); (case hv => rfl); (case hi => kernel_rfl); (case h1 => rfl); (intro w1 g1 P1; replace P1 := Lib.hid P1))
      have P1' : CB w1 g { c with now := t } := P1.out
      obtain ⟨hc, _⟩ := cells_of P1'
      have e7 : w1.cell? ⟨g, 7, none⟩ = some (.int .i64 t) := hc 7
      have HP1 := Lib.hid P1'
      clear hc P1 d7 P1'
      go_wp2_with fail
      go_ret
      rw [HE.out]
      exact ⟨rfl, HP1.out, g1⟩
    · have t2 : decide (t ≤ 1099511627776) = false := decide_eq_false h2
      have HE := Lib.hid (show c.time t = c by rw [Cl.time, if_neg (fun hh => h2 hh.2)])
      go_enter Try.func19, Try.ntmps19
      go_wp2_with fail
      go_ret
      rw [HE.out]
      exact ⟨rfl, HC.out, World.grownBy.refl _ _⟩
  · have t1 : decide (c.now < t) = false := decide_eq_false h1
    have HE := Lib.hid (show c.time t = c by rw [Cl.time, if_neg (fun hh => h1 hh.1)])
    go_enter Try.func19, Try.ntmps19
    go_wp2_with fail
    go_ret
    rw [HE.out]
    exact ⟨rfl, HC.out, World.grownBy.refl _ _⟩

theorem cstate_any (w : World) (g : Nat) (c : Cl) (h : CB w g c) :
    Calls Try.prog 15 #[.pointer (some ⟨g, 0, none⟩)] w (fun e w' => e = .returned (.int .i64 c.state) ∧ w = w') := by
  obtain ⟨hc, _⟩ := cells_of h
  have d6 : w.cell? ⟨g, 6, none⟩ = some (.int .i64 c.state) := hc 6
  clear hc h
  go_enter Try.func15, Try.ntmps15
  go_wp2_with fail
  go_ret
  exact ⟨rfl, rfl⟩

set_option maxHeartbeats 1000000 in
theorem csecs_any (w : World) (g : Nat) (c : Cl) (h : CB w g c) (k : c.ok) :
    Calls Try.prog 22 #[.pointer (some ⟨g, 0, none⟩)] w (ValPost w (.int .i64 (c.til - c.had))) := by
  obtain ⟨hc, _⟩ := cells_of h
  have g25 := Ext.cell (w := w.drew) (M := fun _ => False) (show w.cell? ⟨g, 25, none⟩ = some (.int .i64 c.til) from hc 25) (fun h => h)
  have g26 := Ext.cell (w := w.drew) (M := fun _ => False) (show w.cell? ⟨g, 26, none⟩ = some (.int .i64 c.had) from hc 26) (fun h => h)
  have k1 := k.had0
  have k2 := k.had1
  have k3 := k.til1
  have e1 : IntKind.i64.wrap (c.til - c.had) = c.til - c.had := IntWalk.i64_in _ (by omega)
  clear hc h k
  go_enter Try.func22, Try.ntmps22
  go_wp2_with fail
  refine rg_begin (fun _ => False) (by kernel_rfl) ?_
  refine rg_take (v := ?_) 0 rfl (by kernel_rfl) (by kernel_rfl) (by kernel_rfl) (fun _ _ _ h => h) (by rfl) ?_ ?_; rotate_left
  · (intro x hx; go_simp; first | done | with_reducible rfl | (rw [if_pos (by omega)]; try with_reducible rfl) | (rw [if_neg (by omega)]; try with_reducible rfl))
  try simp only [Act.put, List.setIfInBounds_toArray, List.set_cons_zero, List.set_cons_succ]
  refine rg_take (v := ?_) 1 rfl (by kernel_rfl) (by kernel_rfl) (by kernel_rfl) (fun _ _ _ h => h) (by rfl) ?_ ?_; rotate_left
  · (intro x hx; go_simp; first | done | with_reducible rfl | (rw [if_pos (by omega)]; try with_reducible rfl) | (rw [if_neg (by omega)]; try with_reducible rfl))
  try simp only [Act.put, List.setIfInBounds_toArray, List.set_cons_zero, List.set_cons_succ]
  refine rg_take (v := ?_) 2 rfl (by kernel_rfl) (by kernel_rfl) (by kernel_rfl) (fun _ _ _ h => h) (by rfl) ?_ ?_; rotate_left
  · (intro x hx; go_simp; first | done | with_reducible rfl | (rw [if_pos (by omega)]; try with_reducible rfl) | (rw [if_neg (by omega)]; try with_reducible rfl))
  try simp only [Act.put, List.setIfInBounds_toArray, List.set_cons_zero, List.set_cons_succ]
  refine rg_take (v := ?_) 3 rfl (by kernel_rfl) (by kernel_rfl) (by kernel_rfl) (fun _ _ _ h => h) (by rfl) ?_ ?_; rotate_left
  · (intro x hx; go_simp; first | done | with_reducible rfl | (rw [if_pos (by omega)]; try with_reducible rfl) | (rw [if_neg (by omega)]; try with_reducible rfl))
  try simp only [Act.put, List.setIfInBounds_toArray, List.set_cons_zero, List.set_cons_succ]
  refine rg_take (v := ?_) 4 rfl (by kernel_rfl) (by kernel_rfl) (by kernel_rfl) (fun _ _ _ h => h) (by rfl) ?_ ?_; rotate_left
  · (intro x hx; go_simp; first | done | with_reducible rfl | (rw [if_pos (by omega)]; try with_reducible rfl) | (rw [if_neg (by omega)]; try with_reducible rfl))
  try simp only [Act.put, List.setIfInBounds_toArray, List.set_cons_zero, List.set_cons_succ]
  refine rg_take (v := ?_) 5 rfl (by kernel_rfl) (by kernel_rfl) (by kernel_rfl) (fun _ _ _ h => h) (by rfl) ?_ ?_; rotate_left
  · (intro x hx; go_simp; first | done | with_reducible rfl | (rw [if_pos (by omega)]; try with_reducible rfl) | (rw [if_neg (by omega)]; try with_reducible rfl))
  try simp only [Act.put, List.setIfInBounds_toArray, List.set_cons_zero, List.set_cons_succ]
  refine rg_take (v := ?_) 6 rfl (by kernel_rfl) (by kernel_rfl) (by kernel_rfl) (fun _ _ _ h => h) (by rfl) ?_ ?_; rotate_left
  · (intro x hx; go_simp; first | done | with_reducible rfl | (rw [if_pos (by omega)]; try with_reducible rfl) | (rw [if_neg (by omega)]; try with_reducible rfl))
  try simp only [Act.put, List.setIfInBounds_toArray, List.set_cons_zero, List.set_cons_succ]
  refine rg_take (v := ?_) 7 rfl (by kernel_rfl) (by kernel_rfl) (by kernel_rfl) (fun _ _ _ h => h) (by rfl) ?_ ?_; rotate_left
  · (intro x hx; go_simp; first | done | with_reducible rfl | (rw [if_pos (by omega)]; try with_reducible rfl) | (rw [if_neg (by omega)]; try with_reducible rfl))
  try simp only [Act.put, List.setIfInBounds_toArray, List.set_cons_zero, List.set_cons_succ]
  refine rg_take (v := ?_) 8 rfl (by kernel_rfl) (by kernel_rfl) (by kernel_rfl) (fun _ _ _ h => h) (by rfl) ?_ ?_; rotate_left
  · (intro x hx; go_simp; first | done | with_reducible rfl | (rw [if_pos (by omega)]; try with_reducible rfl) | (rw [if_neg (by omega)]; try with_reducible rfl))
  try simp only [Act.put, List.setIfInBounds_toArray, List.set_cons_zero, List.set_cons_succ]
  refine rg_take (v := ?_) 9 rfl (by kernel_rfl) (by kernel_rfl) (by kernel_rfl) (fun _ _ _ h => h) (by rfl) ?_ ?_; rotate_left
  · (intro x hx; go_simp; first | done | with_reducible rfl | (rw [if_pos (by omega)]; try with_reducible rfl) | (rw [if_neg (by omega)]; try with_reducible rfl))
  try simp only [Act.put, List.setIfInBounds_toArray, List.set_cons_zero, List.set_cons_succ]
  refine rg_take (v := ?_) 10 rfl (by kernel_rfl) (by kernel_rfl) (by kernel_rfl) (fun _ _ _ h => h) (by rfl) ?_ ?_; rotate_left
  · (intro x hx; go_simp; first | done | with_reducible rfl | (rw [if_pos (by omega)]; try with_reducible rfl) | (rw [if_neg (by omega)]; try with_reducible rfl))
  try simp only [Act.put, List.setIfInBounds_toArray, List.set_cons_zero, List.set_cons_succ]
  refine rg_done (by kernel_rfl) ?_
  go_wp2_with fail
  go_ret
  exact ⟨rfl, (Below.refl _ w).drew⟩

set_option maxHeartbeats 1000000 in
theorem close_any (w : World) (g : Nat) (c : Cl) (h : CB w g c) :
    Calls Try.prog 20 #[.pointer (some ⟨g, 0, none⟩)] w (CPost w g c.lose (.tuple #[])) := by
  have HC := Lib.hid h
  clear h
  go_enter Try.func20, Try.ntmps20
  go_wp2_with (((with_reducible apply at_store_one 3); (case hx => exact rfl); (case hy => exact rfl); (case hg => exact HC.out); (case hle => simp); (case hv => rfl); (case hi => kernel_rfl); (case h1 => rfl); (intro w1 g1 P1; replace P1 := Lib.hid P1)); (refine Hid.out ?_))
  refine Lib.hid ?_
  have P1' : CB w1 g { c with state := 0 } := P1.out
  clear P1
  go_wp2_with ((with_reducible apply at_store_part 41); (case hx => exact rfl); (case hy => exact rfl); (case hg => exact P1'); (case hle => simp); (case hi => kernel_rfl); (case h1 => kernel_rfl); (intro w2 g2 P2; replace P2 := Lib.hid P2))
  have P2' : CB w2 g c.lose := P2.out
  have HP2 := Lib.hid P2'
  clear P2 P2'
  refine bodyPost_ret (v := .tuple #[]) (by simp [results, Try.results20]) rfl ?_
  exact ⟨rfl, HP2.out, grown_trans g1 g2⟩

theorem clC_new (m : Mac6) : #[.int .u8 (m.a.toNat : Int), .int .u8 (m.b.toNat : Int), .int .u8 (m.c.toNat : Int), .int .u8 (m.d.toNat : Int), .int .u8 (m.e.toNat : Int), .int .u8 (m.f.toNat : Int),
  .int .i64 0, .int .i64 0, .int .u32 0, .int .u8 0, .int .u8 0, .int .u8 0, .int .u8 0, .int .u8 0, .int .u8 0, .int .u8 0, .int .u8 0, .int .u8 0, .int .u8 0, .int .u8 0, .int .u8 0, .int .u8 0, .int .u8 0, .int .u8 0, .int .u8 0,
  .int .i64 0, .int .i64 0, .int .u8 0, .int .u8 0, .int .u8 0, .int .u8 0, .int .u8 0, .int .u8 0, .int .u8 0, .int .u8 0, .int .i64 0, .int .i64 0, .int .i64 0] = clC (Cl.new m) := by
  simp [Cl.new, ad0]
def NewPost (w : World) (c : Cl) (e : Ending) (w' : World) : Prop := ∃ g, e = .returned (.pointer (some ⟨g, 0, none⟩)) ∧ w.heap.size ≤ g ∧ CB w' g c ∧ Below w.heap.size w w'
set_option maxHeartbeats 1000000 in
theorem cnew_any (w : World) (m : Mac6) : Calls Try.prog 10 #[macV m] w (NewPost w (Cl.new m)) := by
  go_enter Try.func10, Try.ntmps10
  go_wp2_with fail
  go_ret
  refine ⟨_, rfl, by simp, ?_, ((Below.refl _ w).alloc (Nat.le_refl _) _).alloc (by simp) _⟩
  rw [clC_new]
  exact heap_alloc_at (by simp)

def lmac : Mac6 := ⟨2, 0, 0, 0, 0, 2⟩
theorem lmac_any (w : World) : Calls Try.prog 11 #[] w (ValPost w (macV lmac)) := by
  go_enter Try.func11, Try.ntmps11
  go_wp2_with ((with_reducible apply at_store_new 26); (case hx => exact rfl); (case hy => exact rfl); (case hg => first | rfl | simp); (case hi => kernel_rfl); (case hold => rfl); (case h1 => kernel_rfl))
  refine bodyPost_cell w.heap.size _ _ _ rfl rfl (heap_alloc_at rfl) Try.underlying26 rfl (by kernel_rfl) rfl ⟨rfl, (Below.refl _ w).alloc (Nat.le_refl _) _⟩

theorem lnum_any (w : World) (v : Int) (h0 : 0 ≤ v) (h1 : v < 4294967296) : Calls Try.prog 29 #[.int .u32 v] w (OwnPost w (b32 v)) := by
  have e1 := bN_val (v / 16777216)
  have e2 := bN_val (v / 65536)
  have e3 := bN_val (v / 256)
  have e4 := bN_val v
  go_enter Try.func29, Try.ntmps29
  go_wp2_with fail
  go_ret
  refine ⟨some ⟨w.heap.size, 0, none⟩, 4, 4, rfl, OB.made w _ (b32 v) _ rfl (Nat.le_refl _) (by simp [b32, maxLen]) _ ?_, by go_grown⟩
  simp [bv, b32, bN_val]
  omega

/-- A slice of the bytes that lie at some place, copied. -/
theorem clone_any (w : World) (b o n c : Nat) (l : List UInt8) (h : BS w w.heap.size (some ⟨b, o, none⟩) n c l) (hl : l.length ≤ 1099511627776) :
    Calls Try.prog 40 #[.slice (some ⟨b, o, none⟩) n c] w (OwnPost w l) := by
  have hnil : ∀ w, (binOp .eql 62 (.slice (some ⟨b, o, none⟩) n c) (.slice none 0 0)).run Try.prog w = .ok (.bool false) w := fun w => Lib.run_eql_slice_nil w _ _ _ n c 0 0 Try.underlying62
  go_enter Try.func40, Try.ntmps40
  go_wp2_with (at_builtin; go_must (refine app8 rfl _ _ rfl w.heap.size _ 0 0 [] rfl (OB.empty w _ _ _ rfl (Nat.le_refl _) rfl) w.heap.size _ n c l rfl (h.alloc (Nat.le_refl _) _) (by simp; omega) (by simp) ?_))
  intro A' n' c' w1 ho hb _
  go_wp2_with fail
  go_ret
  exact ⟨A', n', c', rfl, ho, ((Below.refl _ w).alloc (Nat.le_refl _) _).trans hb⟩

/-- An option of a message's type, just made. -/
def TypedPost (w : World) (t : UInt8) (e : Ending) (w' : World) : Prop :=
  ∃ k, e = .returned (.agg #[.int .i64 53, .slice (some ⟨k, 0, none⟩) 1 1]) ∧ w.heap.size ≤ k ∧ BS w' w'.heap.size (some ⟨k, 0, none⟩) 1 1 [t] ∧ Below w.heap.size w w'
set_option maxHeartbeats 1000000 in
theorem typed_any (w : World) (t : UInt8) : Calls Try.prog 39 #[.int .u8 (t.toNat : Int)] w (TypedPost w t) := by
  go_enter Try.func39, Try.ntmps39
  go_wp2_with fail
  refine bodyPost_cell w.heap.size _ _ _ rfl rfl (heap_alloc_of (heap_alloc_new w _)) Try.underlying64 rfl (by kernel_rfl) rfl ?_
  exact ⟨w.heap.size + 1, rfl, by omega, BS.block [t] (heap_alloc_at (by simp)) rfl (by simp [maxLen]), ((Below.refl _ w).alloc (Nat.le_refl _) _).alloc (by simp) _⟩
end Go.Proofs.Ytjpmfmmgmlnanaa
