/-
  conf: ends: the pool of a net that is told.
-/
import Derived.Test.YtnmdiageigbphaaGreatDoorKp15
namespace Go.Proofs.YtnmdiageigbphaaGreatDoor
section
open Go.RowKit

def oU : Ad4 := ⟨192, 168, 1, 1⟩
def usC : Cf := ⟨oU, firstA oU 24, 24, ⟨2, 0, 0, 0, 0, 1⟩, ⟨2, 0, 0, 0, 0, 2⟩, ⟨192, 168, 1, 100⟩, ⟨192, 168, 1, 131⟩, 3600, ⟨9, 9, 9, 9⟩, 120, 7200, 30, 40000⟩
def cf0 : Cf := ⟨⟨0, 0, 0, 0⟩, ⟨0, 0, 0, 0⟩, 0, ⟨0, 0, 0, 0, 0, 0⟩, ⟨0, 0, 0, 0, 0, 0⟩, ⟨0, 0, 0, 0⟩, ⟨0, 0, 0, 0⟩, 0, ⟨0, 0, 0, 0⟩, 0, 0, 0, 0⟩
abbrev cfZ : Array Value := cfC cf0 nilS nilS
theorem spliceZ (c : Cf) (vf vo : Value) : spliceAt cfZ 0 (cfC c vf vo).toList = cfC c vf vo := by simp [spliceAt]
theorem cfC_one (c : Cf) : (cfC c nilS nilS).all (·.oneCell') = true := by simp [Value.oneCell']
set_option maxRecDepth 100000 in
set_option maxHeartbeats 4000000 in
theorem usual_any (w : World) : Calls Tryz.prog 17 #[] w (fun e w' => e = .returned (.agg (cfC usC nilS nilS)) ∧ Below w.heap.size w w') := by
  have R0 : ((w.alloc (.cells cfZ 32)).alloc (.cells (adC oU) 24)).heap[w.heap.size]? = some (.cells cfZ 32 (0, 0)) := heap_alloc_of (heap_alloc_new w _)
  have A0 : ((w.alloc (.cells cfZ 32)).alloc (.cells (adC oU) 24)).heap[w.heap.size + 1]? = some (.cells (adC oU) 24 (0, 0)) := heap_alloc_at (by simp)
  have b0 : Below w.heap.size w ((w.alloc (.cells cfZ 32)).alloc (.cells (adC oU) 24)) := ((Below.refl _ w).alloc (Nat.le_refl _) _).alloc (by simp) _
  go_enter Tryz.func17, Tryz.ntmps17
  go_upto_region 2 with ((with_reducible apply at_store_new 24); (case hx => exact rfl); (case hy => exact rfl); (case hg => first | rfl | simp); (case hi => kernel_rfl); (case hold => rfl); (case h1 => kernel_rfl))
  simp only [Act.put]
  change Code.wp _ _ _ _ ((w.alloc (.cells cfZ 32)).alloc (.cells (adC oU) 24))
  generalize (w.alloc (.cells cfZ 32)).alloc (.cells (adC oU) 24) = w1 at R0 A0 b0 ⊢
  obtain ⟨g, hg⟩ : ∃ g, w.heap.size = g := ⟨_, rfl⟩
  rw [hg] at R0 A0 ⊢
  have HG := Lib.hid hg
  clear hg
  have r0 : Below w1.heap.size w1 w1.drew := (Below.refl _ _).drew
  have CA := Ext.at_ (M := fun k => k = g) (w := w1.drew) A0 (by omega)
  refine rg_begin (fun k => k = g) (by kernel_rfl) ?_
  refine rg_take (v := .agg (adC oU)) 0 rfl (by kernel_rfl) (by kernel_rfl) (by kernel_rfl) (fun _ _ _ h => h) (by rfl) ?_ ?_
  · (intro x hx; apply run_load_big; (case ho => exact rfl); (case hv => exact rfl); (case hg => exact CA x hx); (case hu => exact Tryz.underlying24); (case hd => rfl); (case hi => kernel_rfl))
  try simp only [Act.put, List.setIfInBounds_toArray, List.set_cons_zero, List.set_cons_succ]
  refine rg_take (v := .agg (adC oU)) 1 rfl (by kernel_rfl) (by kernel_rfl) (by kernel_rfl) (fun _ _ _ h => h) (by rfl) ?_ ?_
  · (intro x hx; apply run_load_big; (case ho => exact rfl); (case hv => exact rfl); (case hg => exact CA x hx); (case hu => exact Tryz.underlying24); (case hd => rfl); (case hi => kernel_rfl))
  try simp only [Act.put, List.setIfInBounds_toArray, List.set_cons_zero, List.set_cons_succ]
  refine rg_take (v := ?_) 3 rfl (by kernel_rfl) (by kernel_rfl) (by kernel_rfl) (fun _ _ _ h => h) (by rfl) ?_ ?_; rotate_left
  · (intro x hx; go_simp; first | done | with_reducible rfl | (rw [if_pos (by omega)]; try with_reducible rfl) | (rw [if_neg (by omega)]; try with_reducible rfl))
  try simp only [Act.put, List.setIfInBounds_toArray, List.set_cons_zero, List.set_cons_succ]
  refine rg_take (v := ?_) 4 rfl (by kernel_rfl) (by kernel_rfl) (by kernel_rfl) (fun _ _ _ h => h) (by rfl) ?_ ?_; rotate_left
  · (intro x hx; go_simp; first | done | with_reducible rfl | (rw [if_pos (by omega)]; try with_reducible rfl) | (rw [if_neg (by omega)]; try with_reducible rfl))
  try simp only [Act.put, List.setIfInBounds_toArray, List.set_cons_zero, List.set_cons_succ]
  refine rg_take (v := ?_) 5 rfl (by kernel_rfl) (by kernel_rfl) (by kernel_rfl) (fun _ _ _ h => h) (by rfl) ?_ ?_; rotate_left
  · (intro x hx; go_simp; first | done | with_reducible rfl | (rw [if_pos (by omega)]; try with_reducible rfl) | (rw [if_neg (by omega)]; try with_reducible rfl))
  try simp only [Act.put, List.setIfInBounds_toArray, List.set_cons_zero, List.set_cons_succ]
  refine rg_take (v := ?_) 6 rfl (by kernel_rfl) (by kernel_rfl) (by kernel_rfl) (fun _ _ _ h => h) (by rfl) ?_ ?_; rotate_left
  · (intro x hx; go_simp; first | done | with_reducible rfl | (rw [if_pos (by omega)]; try with_reducible rfl) | (rw [if_neg (by omega)]; try with_reducible rfl))
  try simp only [Act.put, List.setIfInBounds_toArray, List.set_cons_zero, List.set_cons_succ]
  refine rg_take (v := ?_) 7 rfl (by kernel_rfl) (by kernel_rfl) (by kernel_rfl) (fun _ _ _ h => h) (by rfl) ?_ ?_; rotate_left
  · (intro x hx; go_simp; first | done | with_reducible rfl | (rw [if_pos (by omega)]; try with_reducible rfl) | (rw [if_neg (by omega)]; try with_reducible rfl))
  try simp only [Act.put, List.setIfInBounds_toArray, List.set_cons_zero, List.set_cons_succ]
  refine rg_step 2 rfl (by kernel_rfl) (by rfl) (fun K hK => ?_)
  go_simp
  refine (netof_any _ oU 24).mono ?_
  rintro e u1 ⟨rfl, p1⟩
  replace r0 := r0.trans (p1.mono r0.size)
  have R1 := below_at r0 R0 (heap_lt R0)
  refine hK.out _ _ (Ext.below_all _ p1) ?_
  clear hK K; try simp only [Act.put, List.setIfInBounds_toArray, List.set_cons_zero, List.set_cons_succ]
  refine rg_take (v := ?_) 8 rfl (by kernel_rfl) (by kernel_rfl) (by kernel_rfl) (fun _ _ _ h => h) (by rfl) ?_ ?_; rotate_left
  · (intro x hx; go_simp; first | done | with_reducible rfl | (rw [if_pos (by omega)]; try with_reducible rfl) | (rw [if_neg (by omega)]; try with_reducible rfl))
  try simp only [Act.put, List.setIfInBounds_toArray, List.set_cons_zero, List.set_cons_succ]
  refine rg_step 9 rfl (by kernel_rfl) (by rfl) (fun K hK => ?_)
  --RAW
  apply wp_store_part 32
  case ho => exact rfl
  case hx => exact rfl
  case hy => exact (rfl : _ = Value.agg (cfC usC nilS nilS))
  case hg => exact R1
  case hle => simp
  case hi => kernel_rfl
  case h1 => exact cfC_one usC
  intro w5 g5 P5
  refine hK.out _ _ (Ext.of_grown (M := fun k => k = g) g5 (fun k h => by injection h with h; omega)) ?_
  clear hK K
  refine rg_done (by kernel_rfl) ?_
  go_wp2_with fail
  rw [spliceZ] at P5
  refine bodyPost_cell g _ _ _ rfl rfl P5 Tryz.underlying32 rfl (by kernel_rfl) rfl ⟨rfl, ?_⟩
  have bs := b0.size
  rw [HG.out] at b0 bs ⊢
  exact below_grown (b0.trans (r0.mono bs)) g5 (Nat.le_of_lt (heap_lt R1)) (Nat.le_refl _)
theorem SO.cap {w : World} {H n c : Nat} {A : Option Addr} {l : List (List UInt8)} (h : SO w H A n c l) : n ≤ c := by
  rcases h.2.2 with ⟨hv, _⟩ | ⟨_, _, _, hv, _, _, h5, _⟩
  · injection hv with _ e2 e3
    omega
  · injection hv with _ e2 e3
    omega
def linesV (t : List UInt8) : List (List UInt8) := if (cutB 10 t).getLast? = some [] then (cutB 10 t).dropLast else cutB 10 t
def LinesP (w : World) (t : List UInt8) (e : Ending) (w' : World) : Prop :=
  ∃ A n c, e = .returned (.slice A n c) ∧ n = (linesV t).length ∧ n ≤ c ∧ Row w' w'.heap.size A (sv (linesV t)) ∧ Below w.heap.size w w'
set_option maxRecDepth 100000 in
set_option maxHeartbeats 4000000 in
theorem lines_any (w : World) (hm : mlIs w) (t : List UInt8) (hl : t.length ≤ 1000000) : Calls Tryz.prog 18 #[.string (str t)] w (LinesP w t) := by
  have hpos : 0 < (cutB 10 t).length ∧ (cutB 10 t).length ≤ 1000001 := by have := cutB_count 10 t; have := List.count_le_length (a := (10 : UInt8)) (l := t); omega
  have hV : linesV t = if (cutB 10 t).getLast? = some [] then (cutB 10 t).dropLast else cutB 10 t := rfl
  have hsp := split_any w hm t 10 hl
  obtain ⟨l, hL⟩ : ∃ l, cutB 10 t = l := ⟨_, rfl⟩
  rw [hL] at hpos hV hsp
  have HV := Lib.hid hV
  clear hV hL
  go_enter Tryz.func18, Tryz.ntmps18
  go_wp2_with fail
  refine hsp.mono ?_
  rintro e w1 ⟨A, n, c, rfl, ho, b1⟩
  have hnl : n = l.length := ho.1
  have hnc : n ≤ c := ho.cap
  have hrow := ho.row
  obtain ⟨b, o, rfl, hbl, hc0⟩ := ho.at_ (getD_some [] (show n - 1 < l.length by omega))
  obtain ⟨y, hy⟩ : ∃ y, l.getD (n - 1) [] = y := ⟨_, rfl⟩
  have hgl : l.getLast? = some y := by rw [List.getLast?_eq_getElem?, ← hnl, getD_some [] (show n - 1 < l.length by omega), hy]
  rw [hy] at hc0
  have HN := Lib.hid hnl
  have HG := Lib.hid hgl
  have w64 : IntKind.i64.wrap ((n : Int) - 1) = (n : Int) - 1 := IntWalk.i64_in _ (by omega)
  have hi : (0 : Int) ≤ (n : Int) - 1 ∧ (n : Int) - 1 < (n : Int) := by omega
  have hn1 : ((n : Int) - 1).toNat = n - 1 := by omega
  have HNP := Lib.hid hpos
  clear hgl hy hnl hpos ho hsp hm
  by_cases h0 : y = []
  · have x1 : ((str y).toList.isEmpty) = true := by rw [toList_str, h0]; rfl
    have HR := Lib.hid (show linesV t = l.dropLast by rw [HV.out, HG.out, h0]; simp)
    clear h0
    go_wp2_with fail
    go_ret
    refine ⟨_, n - 1, c, rfl, by rw [HR.out, List.length_dropLast]; have := HN.out; omega, by omega, ?_, b1⟩
    rw [HR.out, List.dropLast_eq_take]
    have := hrow.take (l.length - 1)
    rwa [sv, ← List.map_take] at this
  · have x1 : ((str y).toList.isEmpty) = false := by rw [toList_str]; simpa using h0
    have HR := Lib.hid (show linesV t = l by rw [HV.out, HG.out]; simp [h0])
    clear h0
    go_wp2_with fail
    go_ret
    exact ⟨_, n, c, rfl, by rw [HR.out]; exact HN.out, hnc, by rw [HR.out]; exact hrow, b1⟩
end
section
open Go.RowKit

def w32 (x : Int) : Int := x % 4294967296
theorem wrapU (x : Int) : IntKind.u32.wrap x = w32 x := by simp [IntKind.wrap, IntKind.bits, IntKind.signed, w32]
theorem w32_in (x : Int) : 0 ≤ w32 x ∧ w32 x < 4294967296 := by unfold w32; omega
def endF (c : Cf) : Int := if 24 < c.lanB then w32 ((numA (firstA c.lanA c.lanB) : Int) + 2) else w32 ((numA (firstA c.lanA c.lanB) : Int) + 100)
def endL (c : Cf) : Int := if 24 < c.lanB then (if 31 < w32 (w32 ((numA (lastA c.lanA c.lanB) : Int) - 1) - w32 ((numA (firstA c.lanA c.lanB) : Int) + 2)) then w32 (w32 ((numA (firstA c.lanA c.lanB) : Int) + 2) + 31) else w32 ((numA (lastA c.lanA c.lanB) : Int) - 1))
  else w32 ((numA (firstA c.lanA c.lanB) : Int) + 131)
def endsV (c : Cf) (S : List (List UInt8)) : Cf :=
  if nLan ∈ S then { c with fst := if nFirst ∈ S then c.fst else of4 (endF c), lst := if nLast ∈ S then c.lst else of4 (endL c) } else c
def EndsOk (c : Cf) (S : List (List UInt8)) (c' : Cf) : Prop :=
  ∀ (w : World) (g sb N : Nat) (vf vo : Value), RB w g c vf vo (.map (some sb)) → MB w sb N S → sb ≠ g → Calls Tryz.prog 20 #[.pointer (some ⟨g, 0, none⟩)] w (SetP w g c' vf vo (.map (some sb)))
section
variable {w : World} {b N : Nat} {S : List (List UInt8)} (h : MB w b N S)
include h
theorem MB.lan : (Instr.lookup 58 (.map (some b)) (.string ⟨#[108, 97, 110]⟩) false).run Tryz.prog w = .ok (.bool (decide (nLan ∈ S))) w := h.look nLan (by decide)
theorem MB.first : (Instr.lookup 58 (.map (some b)) (.string ⟨#[102, 105, 114, 115, 116]⟩) false).run Tryz.prog w = .ok (.bool (decide (nFirst ∈ S))) w := h.look nFirst (by decide)
theorem MB.last : (Instr.lookup 58 (.map (some b)) (.string ⟨#[108, 97, 115, 116]⟩) false).run Tryz.prog w = .ok (.bool (decide (nLast ∈ S))) w := h.look nLast (by decide)
end
set_option maxRecDepth 100000 in
set_option maxHeartbeats 4000000 in
theorem ends_no (c : Cf) (S : List (List UInt8)) (h : nLan ∉ S) : EndsOk c S c := by
  intro w g sb N vf vo P M hne
  have hlk := M.lan
  rw [show decide (nLan ∈ S) = false from decide_eq_false h] at hlk
  have hsc := (cells_of P).1 40
  go_enter Tryz.func20, Tryz.ntmps20
  go_wp2_with fail
  refine bodyPost_ret (v := .tuple #[]) (by simp [results, Tryz.results20]) rfl ?_
  exact ⟨rfl, P, World.grownBy.refl _ _⟩
end
end Go.Proofs.YtnmdiageigbphaaGreatDoor
