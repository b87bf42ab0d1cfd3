/-
  conf: netOf; set.
-/
import Derived.Test.YtnmdiageigbphaaGreatDoorKp8
import Derived.Test.YtnmdiageigbphaaGreatDoorAt
import Derived.Test.YtnmdiageigbphaaGreatDoorRegion
namespace Go.Proofs.YtnmdiageigbphaaGreatDoor
open Go.RowKit

abbrev z5 : Array Value := #[.int .u8 0, .int .u8 0, .int .u8 0, .int .u8 0, .int .i64 0]
theorem splice5 (a : Ad4) (b : Int) : spliceAt z5 0 (netC a b).toList = netC a b := by simp [spliceAt]
theorem netC_one (a : Ad4) (b : Int) : (netC a b).all (·.oneCell') = true := by simp [Value.oneCell']
set_option maxRecDepth 100000 in
set_option maxHeartbeats 4000000 in
theorem netof_any (w : World) (a : Ad4) (b : Int) : Calls Tryz.prog 52 #[adV a, .int .i64 b] w (fun e w' => e = .returned (netV (firstA a b) b) ∧ Below w.heap.size w w') := by
  have A0 : ((w.alloc (.cells (adC a) 24)).alloc (.cells z5 26)).heap[w.heap.size]? = some (.cells (adC a) 24 (0, 0)) := heap_alloc_of (heap_alloc_new w _)
  have R0 : ((w.alloc (.cells (adC a) 24)).alloc (.cells z5 26)).heap[w.heap.size + 1]? = some (.cells z5 26 (0, 0)) := heap_alloc_at (by simp)
  have b0 : Below w.heap.size w ((w.alloc (.cells (adC a) 24)).alloc (.cells z5 26)) := ((Below.refl _ w).alloc (Nat.le_refl _) _).alloc (by simp) _
  go_enter Tryz.func52, Tryz.ntmps52
  go_upto_region 1 with fail
  generalize (w.alloc (.cells (adC a) 24)).alloc (.cells z5 26) = w1 at A0 R0 b0 ⊢
  obtain ⟨g, hg⟩ : ∃ g, w.heap.size = g := ⟨_, rfl⟩
  rw [hg] at A0 R0 ⊢
  have HG := Lib.hid hg
  clear hg
  go_upto_region 2 with (first | ((with_reducible apply at_load_row 24); (case hx => exact rfl); (case hg => exact A0); (case hu => exact Tryz.underlying24); (case hd => rfl); (case hi => kernel_rfl)) | ((with_reducible apply at_store_new 26); (case hx => exact rfl); (case hy => exact rfl); (case hg => first | rfl | simp); (case hi => kernel_rfl); (case hold => rfl); (case h1 => kernel_rfl)))
  have q2 : Below w1.heap.size w1 (w1.alloc (.cells (netC a b) 26)) := (Below.refl _ w1).alloc (Nat.le_refl _) _
  have R2 := below_at q2 R0 (heap_lt R0)
  have N2 := heap_alloc_new w1 (.cells (netC a b) 26)
  have b2 := b0.trans (q2.mono b0.size)
  obtain ⟨gn, hgn⟩ : ∃ gn, w1.heap.size = gn := ⟨_, rfl⟩
  have HGN := Lib.hid (show g + 1 < gn by have := heap_lt R0; omega)
  have HGW := Lib.hid (show w.heap.size ≤ gn by have := HG.out; have := HGN.out; omega)
  rw [hgn] at N2 ⊢
  generalize w1.alloc (.cells (netC a b) 26) = w2 at R2 N2 b2 ⊢
  clear hgn q2 A0 R0 b0
  go_wp2_with ((with_reducible apply at_load_row 26); (case hx => exact rfl); (case hg => exact N2); (case hu => exact Tryz.underlying26); (case hd => rfl); (case hi => kernel_rfl))
  refine (first_any w2 a b).mono ?_
  rintro e w3 ⟨rfl, q3⟩
  have R3 := below_at q3 R2 (heap_lt R2)
  have N3 := below_at q3 N2 (heap_lt N2)
  have b3 := b2.trans (q3.mono b2.size)
  clear R2 N2 b2 q3
  rw [show of4 (firstN (numA a) (behN b)) = firstA a b from rfl]
  obtain ⟨f, hf⟩ : ∃ f, firstA a b = f := ⟨_, rfl⟩
  rw [hf]
  go_upto_region 3 with ((with_reducible apply at_store_part 24); (case hx => exact rfl); (case hy => exact rfl); (case hg => exact N3); (case hle => simp); (case hi => kernel_rfl); (case h1 => kernel_rfl); (intro w4 g4 P4; replace P4 := Lib.hid P4))
  have N4 : w4.heap[gn]? = some (.cells (netC f b) 26 (0, 0)) := P4.out
  have R4 := grown_at g4 R3 (by have := HGN.out; omega)
  have b4 := below_grown b3 g4 b3.size HGW.out
  clear R3 N3 b3 g4 P4
  go_wp2_with (first | ((with_reducible apply at_load_row 26); (case hx => exact rfl); (case hg => exact N4); (case hu => exact Tryz.underlying26); (case hd => rfl); (case hi => kernel_rfl)) | ((with_reducible apply at_store_part 26); (case hx => exact rfl); (case hy => exact rfl); (case hg => exact R4); (case hle => simp); (case hi => kernel_rfl); (case h1 => kernel_rfl); (intro w5 g5 P5; replace P5 := Lib.hid P5)))
  have P6 := P5.out
  rw [splice5] at P6
  refine bodyPost_cell (g + 1) _ _ _ rfl rfl P6 Tryz.underlying26 rfl (by kernel_rfl) rfl ?_
  exact ⟨rfl, below_grown b4 g5 b4.size (by have := HG.out; omega)⟩
section
variable (w : World) (m : Mac6) (a : Ad4) (k : Nat)
theorem taMm : (Instr.typeAssert (Vl.m m).val 20 28 true).run Tryz.prog w = .ok (.tuple #[macV m, .bool true]) w := by kernel_rfl
theorem taMa : (Instr.typeAssert (Vl.a a).val 20 28 true).run Tryz.prog w = .ok (.tuple #[.agg z6, .bool false]) w := by kernel_rfl
theorem taMn : (Instr.typeAssert (Vl.n k).val 20 28 true).run Tryz.prog w = .ok (.tuple #[.agg z6, .bool false]) w := by kernel_rfl
theorem taMo : (Instr.typeAssert (Vl.o a k).val 20 28 true).run Tryz.prog w = .ok (.tuple #[.agg z6, .bool false]) w := by kernel_rfl
theorem taNa : (Instr.typeAssert (Vl.a a).val 20 3 true).run Tryz.prog w = .ok (.tuple #[.int .i64 0, .bool false]) w := by kernel_rfl
theorem taNn : (Instr.typeAssert (Vl.n k).val 20 3 true).run Tryz.prog w = .ok (.tuple #[.int .i64 (k : Int), .bool true]) w := by kernel_rfl
theorem taNo : (Instr.typeAssert (Vl.o a k).val 20 3 true).run Tryz.prog w = .ok (.tuple #[.int .i64 0, .bool false]) w := by kernel_rfl
theorem taAa : (Instr.typeAssert (Vl.a a).val 20 24 true).run Tryz.prog w = .ok (.tuple #[adV a, .bool true]) w := by kernel_rfl
theorem taAo : (Instr.typeAssert (Vl.o a k).val 20 24 true).run Tryz.prog w = .ok (.tuple #[.agg z4, .bool false]) w := by kernel_rfl
theorem taOo : (Instr.typeAssert (Vl.o a k).val 20 138 false).run Tryz.prog w = .ok (.agg (owC a k)) w := by kernel_rfl
end
set_option maxRecDepth 100000 in
set_option maxHeartbeats 4000000 in
theorem set_a (w : World) (g : Nat) (c c' : Cf) (vf vo vs : Value) (P : RB w g c vf vo vs) (nm : List UInt8) (x : Ad4) (H : Nat) (A : Option Addr) (n cc : Nat) (hio : IO w H A n cc [(Vl.a x).val])
    (hc : ∀ w, RB w g c vf vo vs → Calls Tryz.prog 96 #[.pointer (some ⟨g, 0, none⟩), .string (str nm), adV x] w (SetP w g c' vf vo vs)) :
    Calls Tryz.prog 59 #[.pointer (some ⟨g, 0, none⟩), .string (str nm), .slice A n cc] w (SetP w g c' vf vo vs) := by
  obtain ⟨b, o, rfl, hbl, hcell⟩ := hio.at_ (k := 0) rfl
  have hn : n = 1 := hio.1
  have hcap : 1 ≤ cc := by
    rcases hio.2.2 with ⟨hv, _⟩ | ⟨_, _, _, hv, _, _, h5, _⟩
    · cases hv
    · injection hv with _ e2 e3
      omega
  subst hn
  rw [Nat.add_zero] at hcell
  have t0 := fun w => taMa w x
  have t1 := fun w => taNa w x
  have t2 := fun w => taAa w x
  obtain ⟨u, hu⟩ : ∃ u, (Vl.a x).val = u := ⟨_, rfl⟩
  rw [hu] at hcell t0 t1 t2
  have hgl := heap_lt P
  have P0 : w.heap[g]? = some (.cells (rdC c vf vo vs) 60 (0, 0)) := P
  clear hio hu P
  go_enter Tryz.func59, Tryz.ntmps59
  go_upto_region 1 with ((with_reducible apply at_store_new 28); (case hx => exact rfl); (case hy => exact rfl); (case hg => first | rfl | simp); (case hi => kernel_rfl); (case hold => rfl); (case h1 => kernel_rfl))
  have q1 : Below w.heap.size w (w.alloc (.cells z6 28)) := (Below.refl _ w).alloc (Nat.le_refl _) _
  have P1 := below_at q1 P0 hgl
  have c1 : (w.alloc (.cells z6 28)).cell? ⟨b, o, none⟩ = some u := (World.cell?_of_block (w := w) (a := ⟨b, o, none⟩) (q1.block b hbl)).trans hcell
  have g1 := grown_of_below (some g) q1
  have M1 := heap_alloc_new w (.cells z6 28)
  have hbl1 : b < (w.alloc (.cells z6 28)).heap.size := by have := q1.size; omega
  obtain ⟨gm, hgm⟩ : ∃ gm, w.heap.size = gm := ⟨_, rfl⟩
  have HGM := Lib.hid (show g < gm by omega)
  rw [hgm] at M1 ⊢
  generalize w.alloc (.cells z6 28) = w1 at P1 c1 g1 hbl1 M1 ⊢
  clear q1 P0 hcell hgm
  clear M1
  go_wp2_with fail
  refine (hc _ (heap_alloc_of P1)).mono ?_
  rintro e w2 ⟨rfl, P2, g2⟩
  go_wp2_with fail
  refine bodyPost_ret (v := .tuple #[]) (by simp [results, Tryz.results59]) rfl ?_
  exact ⟨rfl, P2, (g1.trans (World.grownBy_alloc w1 _ _)).trans g2⟩
set_option maxRecDepth 100000 in
set_option maxHeartbeats 4000000 in
theorem set_n (w : World) (g : Nat) (c c' : Cf) (vf vo vs : Value) (P : RB w g c vf vo vs) (nm : List UInt8) (x : Nat) (H : Nat) (A : Option Addr) (n cc : Nat) (hio : IO w H A n cc [(Vl.n x).val])
    (hc : ∀ w rest, RB w g c vf vo vs → Calls Tryz.prog 95 #[.pointer (some ⟨g, 0, none⟩), .string (str nm), .int .i64 (x : Int), rest] w (SetP w g c' vf vo vs)) :
    Calls Tryz.prog 59 #[.pointer (some ⟨g, 0, none⟩), .string (str nm), .slice A n cc] w (SetP w g c' vf vo vs) := by
  obtain ⟨b, o, rfl, hbl, hcell⟩ := hio.at_ (k := 0) rfl
  have hn : n = 1 := hio.1
  have hcap : 1 ≤ cc := by
    rcases hio.2.2 with ⟨hv, _⟩ | ⟨_, _, _, hv, _, _, h5, _⟩
    · cases hv
    · injection hv with _ e2 e3
      omega
  subst hn
  rw [Nat.add_zero] at hcell
  have t0 := fun w => taMn w x
  have t1 := fun w => taNn w x
  obtain ⟨u, hu⟩ : ∃ u, (Vl.n x).val = u := ⟨_, rfl⟩
  rw [hu] at hcell t0 t1
  have hgl := heap_lt P
  have P0 : w.heap[g]? = some (.cells (rdC c vf vo vs) 60 (0, 0)) := P
  clear hio hu P
  go_enter Tryz.func59, Tryz.ntmps59
  go_upto_region 1 with ((with_reducible apply at_store_new 28); (case hx => exact rfl); (case hy => exact rfl); (case hg => first | rfl | simp); (case hi => kernel_rfl); (case hold => rfl); (case h1 => kernel_rfl))
  have q1 : Below w.heap.size w (w.alloc (.cells z6 28)) := (Below.refl _ w).alloc (Nat.le_refl _) _
  have P1 := below_at q1 P0 hgl
  have c1 : (w.alloc (.cells z6 28)).cell? ⟨b, o, none⟩ = some u := (World.cell?_of_block (w := w) (a := ⟨b, o, none⟩) (q1.block b hbl)).trans hcell
  have g1 := grown_of_below (some g) q1
  have M1 := heap_alloc_new w (.cells z6 28)
  have hbl1 : b < (w.alloc (.cells z6 28)).heap.size := by have := q1.size; omega
  obtain ⟨gm, hgm⟩ : ∃ gm, w.heap.size = gm := ⟨_, rfl⟩
  have HGM := Lib.hid (show g < gm by omega)
  rw [hgm] at M1 ⊢
  generalize w.alloc (.cells z6 28) = w1 at P1 c1 g1 hbl1 M1 ⊢
  clear q1 P0 hcell hgm
  clear M1
  go_wp2_with fail
  all_goals
    refine (hc _ _ P1).mono ?_
    rintro e w2 ⟨rfl, P2, g2⟩
    go_wp2_with fail
    refine bodyPost_ret (v := .tuple #[]) (by simp [results, Tryz.results59]) rfl ?_
    exact ⟨rfl, P2, g1.trans g2⟩
set_option maxRecDepth 100000 in
set_option maxHeartbeats 4000000 in
theorem set_m (w : World) (g : Nat) (c c' : Cf) (vf vo vs : Value) (P : RB w g c vf vo vs) (nm : List UInt8) (x : Mac6) (H : Nat) (A : Option Addr) (n cc : Nat) (hio : IO w H A n cc [(Vl.m x).val])
    (hc : ∀ w rest, RB w g c vf vo vs → Calls Tryz.prog 94 #[.pointer (some ⟨g, 0, none⟩), .string (str nm), macV x, rest] w (SetP w g c' vf vo vs)) :
    Calls Tryz.prog 59 #[.pointer (some ⟨g, 0, none⟩), .string (str nm), .slice A n cc] w (SetP w g c' vf vo vs) := by
  obtain ⟨b, o, rfl, hbl, hcell⟩ := hio.at_ (k := 0) rfl
  have hn : n = 1 := hio.1
  have hcap : 1 ≤ cc := by
    rcases hio.2.2 with ⟨hv, _⟩ | ⟨_, _, _, hv, _, _, h5, _⟩
    · cases hv
    · injection hv with _ e2 e3
      omega
  subst hn
  rw [Nat.add_zero] at hcell
  have t0 := fun w => taMm w x
  obtain ⟨u, hu⟩ : ∃ u, (Vl.m x).val = u := ⟨_, rfl⟩
  rw [hu] at hcell t0
  have hgl := heap_lt P
  have P0 : w.heap[g]? = some (.cells (rdC c vf vo vs) 60 (0, 0)) := P
  clear hio hu P
  go_enter Tryz.func59, Tryz.ntmps59
  go_upto_region 1 with ((with_reducible apply at_store_new 28); (case hx => exact rfl); (case hy => exact rfl); (case hg => first | rfl | simp); (case hi => kernel_rfl); (case hold => rfl); (case h1 => kernel_rfl))
  have q1 : Below w.heap.size w (w.alloc (.cells (maC x) 28)) := (Below.refl _ w).alloc (Nat.le_refl _) _
  have P1 := below_at q1 P0 hgl
  have c1 : (w.alloc (.cells (maC x) 28)).cell? ⟨b, o, none⟩ = some u := (World.cell?_of_block (w := w) (a := ⟨b, o, none⟩) (q1.block b hbl)).trans hcell
  have g1 := grown_of_below (some g) q1
  have M1 := heap_alloc_new w (.cells (maC x) 28)
  have hbl1 : b < (w.alloc (.cells (maC x) 28)).heap.size := by have := q1.size; omega
  obtain ⟨gm, hgm⟩ : ∃ gm, w.heap.size = gm := ⟨_, rfl⟩
  have HGM := Lib.hid (show g < gm by omega)
  rw [hgm] at M1 ⊢
  generalize w.alloc (.cells (maC x) 28) = w1 at P1 c1 g1 hbl1 M1 ⊢
  clear q1 P0 hcell hgm
  rcases (show cc = 1 ∨ 1 < cc by omega) with rfl | hcc
  all_goals
    go_upto_region 2 with fail
    have CM := Ext.at_ (M := fun k => k = g) (w := w1.drew) M1 (by have := HGM.out; omega)
    refine rg_begin (fun k => k = g) (by kernel_rfl) ?_
    refine rg_take (v := ?_) 0 rfl (by kernel_rfl) (by kernel_rfl) (by kernel_rfl) (fun _ _ _ h => h) (by rfl) ?_ ?_; rotate_left
    · (intro x hx; go_simp; first | done | with_reducible rfl | (rw [if_pos (by omega)]; try with_reducible rfl) | (rw [if_neg (by omega)]; try with_reducible rfl))
    try simp only [Act.put, List.setIfInBounds_toArray, List.set_cons_zero, List.set_cons_succ]
    refine rg_take (v := ?_) 1 rfl (by kernel_rfl) (by kernel_rfl) (by kernel_rfl) (fun _ _ _ h => h) (by rfl) ?_ ?_; rotate_left
    · (intro x hx; go_simp; first | done | with_reducible rfl | (rw [if_pos (by omega)]; try with_reducible rfl) | (rw [if_neg (by omega)]; try with_reducible rfl))
    try simp only [Act.put, List.setIfInBounds_toArray, List.set_cons_zero, List.set_cons_succ]
    refine rg_take (v := .agg (maC x)) 2 rfl (by kernel_rfl) (by kernel_rfl) (by kernel_rfl) (fun _ _ _ h => h) (by rfl) ?_ ?_
    · (intro x hx; apply run_load_big; (case ho => exact rfl); (case hv => exact rfl); (case hg => exact CM x hx); (case hu => exact Tryz.underlying28); (case hd => rfl); (case hi => kernel_rfl))
    try simp only [Act.put, List.setIfInBounds_toArray, List.set_cons_zero, List.set_cons_succ]
    refine rg_take (v := ?_) 3 rfl (by kernel_rfl) (by kernel_rfl) (by kernel_rfl) (fun _ _ _ h => h) (by rfl) ?_ ?_; rotate_left
    · (intro x hx; go_simp; first | done | with_reducible rfl | (rw [if_pos (by omega)]; try with_reducible rfl) | (rw [if_neg (by omega)]; try with_reducible rfl))
    try simp only [Act.put, List.setIfInBounds_toArray, List.set_cons_zero, List.set_cons_succ]
    refine rg_take (v := ?_) 4 rfl (by kernel_rfl) (by kernel_rfl) (by kernel_rfl) (fun _ _ _ h => h) (by rfl) ?_ ?_; rotate_left
    · (intro x hx; go_simp; first | done | with_reducible rfl | (rw [if_pos (by omega)]; try with_reducible rfl) | (rw [if_neg (by omega)]; try with_reducible rfl))
    try simp only [Act.put, List.setIfInBounds_toArray, List.set_cons_zero, List.set_cons_succ]
    refine rg_step 5 rfl (by kernel_rfl) (by rfl) (fun K hK => ?_)
    go_simp
    refine (hc _ _ (by exact P1)).mono ?_
    rintro e w2 ⟨rfl, P2, g2⟩
    refine hK.out _ _ (Ext.of_grown g2 (fun k h => by injection h with h; omega)) ?_
    clear hK K; try simp only [Act.put, List.setIfInBounds_toArray, List.set_cons_zero, List.set_cons_succ]
    refine rg_done (by kernel_rfl) ?_
    go_wp2_with fail
    refine bodyPost_ret (v := .tuple #[]) (by simp [results, Tryz.results59]) rfl ?_
    exact ⟨rfl, P2, g1.trans ((grown_of_below (some g) (Below.refl _ w1).drew).trans g2)⟩
set_option maxRecDepth 100000 in
set_option maxHeartbeats 4000000 in
theorem set_o (w : World) (g : Nat) (c c' : Cf) (vf vo vs : Value) (P : RB w g c vf vo vs) (nm : List UInt8) (x : Ad4) (k : Nat) (H : Nat) (A : Option Addr) (n cc : Nat) (hio : IO w H A n cc [(Vl.o x k).val]) :
    Calls Tryz.prog 59 #[.pointer (some ⟨g, 0, none⟩), .string (str nm), .slice A n cc] w (SetP w g { c with own := x, lanA := firstA x k, lanB := k } vf vo vs) := by
  obtain ⟨b, o, rfl, hbl, hcell⟩ := hio.at_ (k := 0) rfl
  have hn : n = 1 := hio.1
  have hcap : 1 ≤ cc := by
    rcases hio.2.2 with ⟨hv, _⟩ | ⟨_, _, _, hv, _, _, h5, _⟩
    · cases hv
    · injection hv with _ e2 e3
      omega
  subst hn
  rw [Nat.add_zero] at hcell
  have t0 := fun w => taMo w x k
  have t1 := fun w => taNo w x k
  have t2 := fun w => taAo w x k
  have t3 := fun w => taOo w x k
  obtain ⟨u, hu⟩ : ∃ u, (Vl.o x k).val = u := ⟨_, rfl⟩
  rw [hu] at hcell t0 t1 t2 t3
  have hgl := heap_lt P
  have P0 : w.heap[g]? = some (.cells (rdC c vf vo vs) 60 (0, 0)) := P
  clear hio hu P
  go_enter Tryz.func59, Tryz.ntmps59
  go_upto_region 1 with ((with_reducible apply at_store_new 28); (case hx => exact rfl); (case hy => exact rfl); (case hg => first | rfl | simp); (case hi => kernel_rfl); (case hold => rfl); (case h1 => kernel_rfl))
  have q1 : Below w.heap.size w (w.alloc (.cells z6 28)) := (Below.refl _ w).alloc (Nat.le_refl _) _
  have P1 := below_at q1 P0 hgl
  have c1 : (w.alloc (.cells z6 28)).cell? ⟨b, o, none⟩ = some u := (World.cell?_of_block (w := w) (a := ⟨b, o, none⟩) (q1.block b hbl)).trans hcell
  have g1 := grown_of_below (some g) q1
  have M1 := heap_alloc_new w (.cells z6 28)
  have hbl1 : b < (w.alloc (.cells z6 28)).heap.size := by have := q1.size; omega
  obtain ⟨gm, hgm⟩ : ∃ gm, w.heap.size = gm := ⟨_, rfl⟩
  have HGM := Lib.hid (show g < gm by omega)
  rw [hgm] at M1 ⊢
  generalize w.alloc (.cells z6 28) = w1 at P1 c1 g1 hbl1 M1 ⊢
  clear q1 P0 hcell hgm
  clear M1
  go_upto_region 9 with ((with_reducible apply at_store_new 24); (case hx => exact rfl); (case hy => exact rfl); (case hg => first | rfl | simp); (case hi => kernel_rfl); (case hold => rfl); (case h1 => kernel_rfl))
  have q2 : Below w1.heap.size w1 (w1.alloc (.cells z4 24)) := (Below.refl _ w1).alloc (Nat.le_refl _) _
  have P2 := below_at q2 P1 (heap_lt P1)
  have c2 : (w1.alloc (.cells z4 24)).cell? ⟨b, o, none⟩ = some u := (World.cell?_of_block (w := w1) (a := ⟨b, o, none⟩) (q2.block b hbl1)).trans c1
  have g2 := g1.trans (grown_of_below (some g) q2)
  generalize w1.alloc (.cells z4 24) = w2 at P2 c2 g2 ⊢
  clear q2 P1 c1 g1 hbl1
  go_upto_region 10 with ((with_reducible apply at_store_new 138); (case hx => exact rfl); (case hy => exact rfl); (case hg => first | rfl | simp); (case hi => kernel_rfl); (case hold => rfl); (case h1 => kernel_rfl))
  have q3 : Below w2.heap.size w2 (w2.alloc (.cells (owC x k) 138)) := (Below.refl _ w2).alloc (Nat.le_refl _) _
  have P3 := below_at q3 P2 (heap_lt P2)
  have O3 := heap_alloc_new w2 (.cells (owC x k) 138)
  have g3 := g2.trans (grown_of_below (some g) q3)
  obtain ⟨gw, hgw⟩ : ∃ gw, w2.heap.size = gw := ⟨_, rfl⟩
  have HGW := Lib.hid (show g < gw by have := heap_lt P2; omega)
  rw [hgw] at O3 ⊢
  generalize w2.alloc (.cells (owC x k) 138) = w3 at P3 O3 g3 ⊢
  clear q3 P2 c2 g2 hgw
  have k0 := Ext.cell (w := w3.drew) (M := fun j => j = g) ((cells_of O3).1 0) (by have := HGW.out; simp; omega)
  have k1 := Ext.cell (w := w3.drew) (M := fun j => j = g) ((cells_of O3).1 1) (by have := HGW.out; simp; omega)
  have k2 := Ext.cell (w := w3.drew) (M := fun j => j = g) ((cells_of O3).1 2) (by have := HGW.out; simp; omega)
  have k3 := Ext.cell (w := w3.drew) (M := fun j => j = g) ((cells_of O3).1 3) (by have := HGW.out; simp; omega)
  have k4 := Ext.cell (w := w3.drew) (M := fun j => j = g) ((cells_of O3).1 4) (by have := HGW.out; simp; omega)
  refine rg_begin (fun j => j = g) (by kernel_rfl) ?_
  refine rg_take (v := ?_) 0 rfl (by kernel_rfl) (by kernel_rfl) (by kernel_rfl) (fun _ _ _ h => h) (by rfl) ?_ ?_; rotate_left
  · (intro x hx; go_simp; first | done | with_reducible rfl | (rw [if_pos (by omega)]; try with_reducible rfl) | (rw [if_neg (by omega)]; try with_reducible rfl))
  try simp only [Act.put, List.setIfInBounds_toArray, List.set_cons_zero, List.set_cons_succ]
  refine rg_take (v := ?_) 1 rfl (by kernel_rfl) (by kernel_rfl) (by kernel_rfl) (fun _ _ _ h => h) (by rfl) ?_ ?_; rotate_left
  · (intro x hx; go_simp; first | done | with_reducible rfl | (rw [if_pos (by omega)]; try with_reducible rfl) | (rw [if_neg (by omega)]; try with_reducible rfl))
  try simp only [Act.put, List.setIfInBounds_toArray, List.set_cons_zero, List.set_cons_succ]
  refine rg_take (v := ?_) 2 rfl (by kernel_rfl) (by kernel_rfl) (by kernel_rfl) (fun _ _ _ h => h) (by rfl) ?_ ?_; rotate_left
  · (intro x hx; go_simp; first | done | with_reducible rfl | (rw [if_pos (by omega)]; try with_reducible rfl) | (rw [if_neg (by omega)]; try with_reducible rfl))
  try simp only [Act.put, List.setIfInBounds_toArray, List.set_cons_zero, List.set_cons_succ]
  refine rg_take (v := ?_) 3 rfl (by kernel_rfl) (by kernel_rfl) (by kernel_rfl) (fun _ _ _ h => h) (by rfl) ?_ ?_; rotate_left
  · (intro x hx; go_simp; first | done | with_reducible rfl | (rw [if_pos (by omega)]; try with_reducible rfl) | (rw [if_neg (by omega)]; try with_reducible rfl))
  try simp only [Act.put, List.setIfInBounds_toArray, List.set_cons_zero, List.set_cons_succ]
  refine rg_take (v := ?_) 4 rfl (by kernel_rfl) (by kernel_rfl) (by kernel_rfl) (fun _ _ _ h => h) (by rfl) ?_ ?_; rotate_left
  · (intro x hx; go_simp; first | done | with_reducible rfl | (rw [if_pos (by omega)]; try with_reducible rfl) | (rw [if_neg (by omega)]; try with_reducible rfl))
  try simp only [Act.put, List.setIfInBounds_toArray, List.set_cons_zero, List.set_cons_succ]
  refine rg_take (v := ?_) 5 rfl (by kernel_rfl) (by kernel_rfl) (by kernel_rfl) (fun _ _ _ h => h) (by rfl) ?_ ?_; rotate_left
  · (intro x hx; go_simp; first | done | with_reducible rfl | (rw [if_pos (by omega)]; try with_reducible rfl) | (rw [if_neg (by omega)]; try with_reducible rfl))
  try simp only [Act.put, List.setIfInBounds_toArray, List.set_cons_zero, List.set_cons_succ]
  refine rg_take (v := ?_) 6 rfl (by kernel_rfl) (by kernel_rfl) (by kernel_rfl) (fun _ _ _ h => h) (by rfl) ?_ ?_; rotate_left
  · (intro x hx; go_simp; first | done | with_reducible rfl | (rw [if_pos (by omega)]; try with_reducible rfl) | (rw [if_neg (by omega)]; try with_reducible rfl))
  try simp only [Act.put, List.setIfInBounds_toArray, List.set_cons_zero, List.set_cons_succ]
  refine rg_take (v := ?_) 7 rfl (by kernel_rfl) (by kernel_rfl) (by kernel_rfl) (fun _ _ _ h => h) (by rfl) ?_ ?_; rotate_left
  · (intro x hx; go_simp; first | done | with_reducible rfl | (rw [if_pos (by omega)]; try with_reducible rfl) | (rw [if_neg (by omega)]; try with_reducible rfl))
  try simp only [Act.put, List.setIfInBounds_toArray, List.set_cons_zero, List.set_cons_succ]
  refine rg_step 8 rfl (by kernel_rfl) (by rfl) (fun K hK => ?_)
  go_simp
  refine (netof_any _ x k).mono ?_
  rintro e w4 ⟨rfl, q4⟩
  have q4' : Below w3.heap.size w3 w4 := (Below.refl _ w3).drew.trans q4
  have P4 := below_at q4' P3 (heap_lt P3)
  have g4 := g3.trans (grown_of_below (some g) q4')
  obtain ⟨f, hf⟩ : ∃ f, firstA x k = f := ⟨_, rfl⟩
  rw [hf]
  refine hK.out _ _ (Ext.below_all _ q4) ?_
  clear hK K; try simp only [Act.put, List.setIfInBounds_toArray, List.set_cons_zero, List.set_cons_succ]
  refine rg_take (v := ?_) 9 rfl (by kernel_rfl) (by kernel_rfl) (by kernel_rfl) (fun _ _ _ h => h) (by rfl) ?_ ?_; rotate_left
  · (intro x hx; go_simp; first | done | with_reducible rfl | (rw [if_pos (by omega)]; try with_reducible rfl) | (rw [if_neg (by omega)]; try with_reducible rfl))
  try simp only [Act.put, List.setIfInBounds_toArray, List.set_cons_zero, List.set_cons_succ]
  refine rg_take (v := ?_) 10 rfl (by kernel_rfl) (by kernel_rfl) (by kernel_rfl) (fun _ _ _ h => h) (by rfl) ?_ ?_; rotate_left
  · (intro x hx; go_simp; first | done | with_reducible rfl | (rw [if_pos (by omega)]; try with_reducible rfl) | (rw [if_neg (by omega)]; try with_reducible rfl))
  try simp only [Act.put, List.setIfInBounds_toArray, List.set_cons_zero, List.set_cons_succ]
  refine rg_take (v := ?_) 11 rfl (by kernel_rfl) (by kernel_rfl) (by kernel_rfl) (fun _ _ _ h => h) (by rfl) ?_ ?_; rotate_left
  · (intro x hx; go_simp; first | done | with_reducible rfl | (rw [if_pos (by omega)]; try with_reducible rfl) | (rw [if_neg (by omega)]; try with_reducible rfl))
  try simp only [Act.put, List.setIfInBounds_toArray, List.set_cons_zero, List.set_cons_succ]
  refine rg_step 12 rfl (by kernel_rfl) (by rfl) (fun K hK => ?_)
  --RAW
  apply wp_store_part 24
  case ho => exact rfl
  case hx => exact rfl
  case hy => exact rfl
  case hg => exact P4
  case hle => simp
  case hi => kernel_rfl
  case h1 => kernel_rfl
  intro w5 g5 P5
  have P6 : w5.heap[g]? = some (.cells (rdC { c with own := x } vf vo vs) 60 (0, 0)) := P5
  refine hK.out _ _ (Ext.of_grown g5 (fun k h => by injection h with h; omega)) ?_
  clear hK K
  refine rg_take (v := ?_) 13 rfl (by kernel_rfl) (by kernel_rfl) (by kernel_rfl) (fun _ _ _ h => h) (by rfl) ?_ ?_; rotate_left
  · (intro x hx; go_simp; first | done | with_reducible rfl | (rw [if_pos (by omega)]; try with_reducible rfl) | (rw [if_neg (by omega)]; try with_reducible rfl))
  try simp only [Act.put, List.setIfInBounds_toArray, List.set_cons_zero, List.set_cons_succ]
  refine rg_take (v := ?_) 14 rfl (by kernel_rfl) (by kernel_rfl) (by kernel_rfl) (fun _ _ _ h => h) (by rfl) ?_ ?_; rotate_left
  · (intro x hx; go_simp; first | done | with_reducible rfl | (rw [if_pos (by omega)]; try with_reducible rfl) | (rw [if_neg (by omega)]; try with_reducible rfl))
  try simp only [Act.put, List.setIfInBounds_toArray, List.set_cons_zero, List.set_cons_succ]
  refine rg_take (v := ?_) 15 rfl (by kernel_rfl) (by kernel_rfl) (by kernel_rfl) (fun _ _ _ h => h) (by rfl) ?_ ?_; rotate_left
  · (intro x hx; go_simp; first | done | with_reducible rfl | (rw [if_pos (by omega)]; try with_reducible rfl) | (rw [if_neg (by omega)]; try with_reducible rfl))
  try simp only [Act.put, List.setIfInBounds_toArray, List.set_cons_zero, List.set_cons_succ]
  refine rg_step 16 rfl (by kernel_rfl) (by rfl) (fun K hK => ?_)
  --RAW
  apply wp_store_part 26
  case ho => exact rfl
  case hx => exact rfl
  case hy => exact rfl
  case hg => exact P6
  case hle => simp
  case hi => kernel_rfl
  case h1 => exact netC_one f _
  intro w7 g7 P7
  have P8 : w7.heap[g]? = some (.cells (rdC { c with own := x, lanA := f, lanB := k } vf vo vs) 60 (0, 0)) := P7
  refine hK.out _ _ (Ext.of_grown g7 (fun k h => by injection h with h; omega)) ?_
  clear hK K
  refine rg_done (by kernel_rfl) ?_
  go_wp2_with fail
  refine bodyPost_end (v := .tuple #[]) (by simp [results, Tryz.results59]) rfl ?_
  exact ⟨rfl, P8, (g4.trans g5).trans g7⟩
end Go.Proofs.YtnmdiageigbphaaGreatDoor
