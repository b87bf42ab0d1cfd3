/-
  The statements' own: a configuration turned into the reference's.
-/
import Derived.Test.YtnmdiageigbphaaGreatDoorKq12
import Derived.Test.YtnmdiageigbphaaGreatDoorKp15
namespace Go.Proofs.YtnmdiageigbphaaGreatDoor
section
open Go.RowKit

theorem wpList_appT {w : World} {ops : Array Oper} {rest : List Oper} {o : Oper} {a : Act} {Q : Exit → Act → World → Prop} (hgd : o.guard = none) (s x : Operand) (T t : TypeId) (K B : Nat) (z : Value) (hT : Tryz.prog.underlying T = some (.slice t))
    (hI : (Tryz.prog.info? t).map (fun i => (i.zero, i.size, i.bytes)) = some (some z, K, B)) (hz : z.cells.size = K) (hK : 0 < K) (hB : B ≤ 1000)
    (ho : o.op = .call { callee := .builtin .append, args := #[s, x], argTypes := #[T, T] })
    (H : Nat) (A : Option Addr) (n c k : Nat) (l : List Value) (hs : a.eval s = .slice A n c) (hown : TO w H t K A n c k l)
    (g c2 : Nat) (hx : a.eval x = .slice (some ⟨g, 0, none⟩) 1 c2) (ys : Array Value) (hy : ys.size = K)
    (hg : w.heap[g]? = some (.cells ys t (0, 0))) (h1 : ys.all (·.oneCell') = true)
    (hlen : k ≤ 1000000) (hbase : H ≤ w.heap.size)
    (h : ∀ A' c' w', TO w' H t K A' (n + 1) c' (k + 1) (l ++ ys.toList) → Below H w w' → w.grownBy w' (Value.slice A n c).ownBlock → wpList Tryz.prog ops Q rest (a.put o.dst (.slice A' (n + 1) c')) w') : wpList Tryz.prog ops Q (o :: rest) a w :=
  wpList_plain hgd fun _ hK' => wp_appT s x T t K B z hT hI hz hK hB ho H A n c k l hs hown g c2 hx ys hy hg h1 hlen hbase fun A' c' w' h2 h3 h4 => hK' _ _ (h A' c' w' h2 h3 h4)
theorem infoRFx : (Tryz.prog.info? 71).map (fun i => (i.zero, i.size, i.bytes)) = some (some (.agg (fxC ⟨⟨0, 0, 0, 0, 0, 0⟩, ⟨0, 0, 0, 0⟩⟩)), 10, 10) := by kernel_rfl
theorem infoROp : (Tryz.prog.info? 72).map (fun i => (i.zero, i.size, i.bytes)) = some (some (.agg (opC ⟨0, 0, ⟨0, 0, 0, 0⟩, 0⟩)), 7, 32) := by kernel_rfl
def OwnP (w : World) (C : Cg) (e : Ending) (w' : World) : Prop :=
  ∃ A n k A2 n2 k2, e = .returned (.agg (cfC C.c (.slice A n k) (.slice A2 n2 k2))) ∧ n ≤ k ∧ n2 ≤ k2 ∧ CR w' w'.heap.size C A n A2 n2 ∧ Below w.heap.size w w'
theorem fxL_take {l : List Fx} {i : Nat} {f : Fx} (h : l[i]? = some f) : fxL (l.take (i + 1)) = fxL (l.take i) ++ (fxC f).toList := by
  obtain ⟨hi, rfl⟩ := List.getElem?_eq_some_iff.1 h
  rw [List.take_succ_eq_append_getElem hi, fxL_snoc]
theorem opL_take {l : List Opn} {i : Nat} {f : Opn} (h : l[i]? = some f) : opL (l.take (i + 1)) = opL (l.take i) ++ (opC f).toList := by
  obtain ⟨hi, rfl⟩ := List.getElem?_eq_some_iff.1 h
  rw [List.take_succ_eq_append_getElem hi, opL_snoc]
set_option maxRecDepth 100000 in
set_option maxHeartbeats 16000000 in
theorem own_all (w : World) (C : Cg) (A : Option Addr) (n k : Nat) (A2 : Option Addr) (n2 k2 : Nat) (hC : CR w w.heap.size C A n A2 n2) :
    Calls Tryz.prog 11 #[.agg (cfC C.c (.slice A n k) (.slice A2 n2 k2))] w (OwnP w C) := by
  obtain ⟨c, lf, lo⟩ := C
  have hn : n = lf.length := hC.nf
  have hn2 : n2 = lo.length := hC.no
  have hl := hC.lf
  have hl2 := hC.lo
  have HC := Lib.hid hC
  have HN := Lib.hid (⟨hn, hn2⟩ : _ ∧ _)
  have HL := Lib.hid (⟨hl, hl2⟩ : _ ∧ _)
  have P0 : ((w.alloc (.cells (cfC c (.slice A n k) (.slice A2 n2 k2)) 32)).alloc (.cells cfZ 40)).heap[w.heap.size]? = some (.cells (cfC c (.slice A n k) (.slice A2 n2 k2)) 32 (0, 0)) := heap_alloc_of (heap_alloc_new w _)
  have R0 : ((w.alloc (.cells (cfC c (.slice A n k) (.slice A2 n2 k2)) 32)).alloc (.cells cfZ 40)).heap[w.heap.size + 1]? = some (.cells cfZ 40 (0, 0)) := heap_alloc_at (by simp)
  have b0 : Below w.heap.size w ((w.alloc (.cells (cfC c (.slice A n k) (.slice A2 n2 k2)) 32)).alloc (.cells cfZ 40)) := ((Below.refl _ w).alloc (Nat.le_refl _) _).alloc (by simp) _
  clear hC hn hn2 hl hl2
  go_enter Tryz.func11, Tryz.ntmps11
  go_upto_region 1 with fail
  change Code.wp _ _ _ _ ((w.alloc (.cells (cfC c (.slice A n k) (.slice A2 n2 k2)) 32)).alloc (.cells cfZ 40))
  generalize (w.alloc (.cells (cfC c (.slice A n k) (.slice A2 n2 k2)) 32)).alloc (.cells cfZ 40) = w1 at P0 R0 b0 ⊢
  obtain ⟨g, hg⟩ : ∃ g, w.heap.size = g := ⟨_, rfl⟩
  rw [hg] at P0 R0 b0 ⊢
  have HG := Lib.hid hg
  have f0 := (cells_of P0).1
  clear hg
  go_upto_region 2 with ((with_reducible apply at_store_new 40); (case hx => exact rfl); (case hy => exact rfl); (case hg => first | rfl | simp); (case hi => kernel_rfl); (case hold => rfl); (case h1 => kernel_rfl))
  change Code.wp _ _ _ _ (w1.alloc (.cells (cfC c nilS nilS) 40))
  have q2 : Below w1.heap.size w1 (w1.alloc (.cells (cfC c nilS nilS) 40)) := (Below.refl _ w1).alloc (Nat.le_refl _) _
  have X2 := heap_alloc_new w1 (.cells (cfC c nilS nilS) 40)
  have P2 := below_at q2 P0 (heap_lt P0)
  have R2 := below_at q2 R0 (heap_lt R0)
  have b2 := b0.trans (q2.mono (Nat.le_of_lt (heap_lt P0)))
  generalize w1.alloc (.cells (cfC c nilS nilS) 40) = w2 at q2 X2 P2 R2 b2 ⊢
  have hz := heap_lt R0
  obtain ⟨gx, hgx⟩ : ∃ g, w1.heap.size = g := ⟨_, rfl⟩
  rw [hgx] at X2 hz ⊢
  have HX := Lib.hid hz
  clear q2 P0 R0 b0 f0 hgx hz
  have f2 := (cells_of P2).1
  go_wp2_with fail
  go_loopw [4] (fun v wr => ∃ (i : Nat) (A3 : Option Addr) (n3 k3 : Nat), v = .int .i64 i ∧ i ≤ n ∧ wr.heap[gx]? = some (.cells (cfC c (.slice A3 n3 k3) nilS) 40 (0, 0)) ∧ TO wr g 71 10 A3 n3 k3 i (fxL (lf.take i)) ∧
      wr.heap[g]? = some (.cells (cfC c (.slice A n k) (.slice A2 n2 k2)) 32 (0, 0)) ∧ wr.heap[g + 1]? = some (.cells cfZ 40 (0, 0)) ∧ Below g w wr) (fun v _ => n - (intOf v).toNat)
  case atStart => exact ⟨0, none, 0, 0, rfl, Nat.zero_le _, X2, TO.nil_ _ _ _ _, P2, R2, b2⟩
  case round =>
    clear X2 P2 R2 b2 f2
    obtain ⟨i, A3, n3, k3, rfl, hi, X3, F3, P3, R3, b3⟩ := hrel
    have hgr : g ≤ wr.heap.size := Nat.le_of_lt (heap_lt P3)
    rcases Nat.lt_or_ge i n with hlt | hge
    · have hlti : decide ((i : Int) < (n : Int)) = true := decide_eq_true (by omega)
      have hnn : (0 : Int) ≤ (i : Int) ∧ (i : Int) < (n : Int) := by omega
      obtain ⟨f, hf⟩ : ∃ f, lf[i]? = some f := ⟨lf[i]'(by have := HN.out.1; omega), List.getElem?_eq_getElem _⟩
      obtain ⟨b, o, rfl, hb⟩ := fx_some HC.out.rf hf
      have hbg : b < g := by have := HG.out; omega
      have hra := fx_range (HC.out.rf.below (by rw [HG.out]; exact b3)) hf
      have HT := Lib.hid (fxL_take hf)
      have HLT := Lib.hid hlt
      have w64 : IntKind.i64.wrap ((i : Int) + 1) = (i : Int) + 1 := IntWalk.i64_in _ (by have := HL.out.1; omega)
      have hl := HL.out.1
      have fp := (cells_of P3).1
      clear hf hlt
      go_upto_region 5 with fail
      clear fp
      have D1 : wr.drew.heap[gx]? = some (.cells (cfC c (.slice A3 n3 k3) nilS) 40 (0, 0)) := X3
      have bA : Below wr.heap.size wr (wr.drew.alloc (.cells (fxC f) 71)) := (Below.refl _ wr).drew.alloc (Nat.le_refl _) _
      have X4 := below_at bA X3 (heap_lt X3)
      have P4 := below_at bA P3 (heap_lt P3)
      have R4 := below_at bA R3 (heap_lt R3)
      have F4 := F3.below bA
      have b4 := b3.trans (bA.mono hgr)
      have N4 : (wr.drew.alloc (.cells (fxC f) 71)).heap[wr.heap.size]? = some (.cells (fxC f) 71 (0, 0)) := heap_alloc_new wr.drew _
      have kA := (cells_of D1).1 38
      have kB : (wr.alloc (.cells (fxC f) 71)).cell? ⟨gx, 38, none⟩ = _ := (cells_of X4).1 38
      have kC : (wr.alloc (.cells (fxC f) 71)).drew.cell? ⟨gx, 38, none⟩ = _ := (cells_of X4).1 38
      have hrow := F3.ne X3 (by decide)
      have hrow2 : ∀ j, j < g ∨ j = gx ∨ (∃ cs t fr, wr.heap[j]? = some (.cells cs t fr) ∧ t ≠ 71) → (Value.slice A3 n3 k3).ownBlock ≠ some j := by
        rintro j (h | rfl | ⟨cs, t, fr, h1, h2⟩) e
        · have := (F3.lt _ e).1; omega
        · rcases hrow with h | h
          · rw [h] at e; cases e
          · exact h e
        · rcases F3.ne h1 h2 with h | h
          · rw [h] at e; cases e
          · exact h e
      have HM : ∀ j, j ≠ gx → (Value.slice A3 n3 k3).ownBlock ≠ some j → ¬ (j = gx ∨ (Value.slice A3 n3 k3).ownBlock = some j) := by
        rintro j h1 h2 (h | h)
        · exact h1 h
        · exact h2 h
      have hgx := HX.out
      have hzb : g ≤ (wr.drew.alloc (.cells (fxC f) 71)).heap.size := by have := bA.size; omega
      have hMg := HM g (by omega) (hrow2 g (.inr (.inr ⟨_, _, _, P3, by decide⟩)))
      have hMb := HM b (by omega) (hrow2 b (.inl hbg))
      have kP := Ext.cell (w := wr.drew) (M := fun j => j = gx ∨ (Value.slice A3 n3 k3).ownBlock = some j) ((cells_of P3).1 38) hMg
      have kc : ∀ j v, (fxC f).toList[j]? = some v → ∀ x, Ext (fun j => j = gx ∨ (Value.slice A3 n3 k3).ownBlock = some j) wr.drew x → x.cell? ⟨b, o + i * 10 + j, none⟩ = some v := fun j v hj => Ext.cell (w := wr.drew) (hra j v hj) hMb
      have yy0 := kc 0 _ rfl
      have yy1 := kc 1 _ rfl
      have yy2 := kc 2 _ rfl
      have yy3 := kc 3 _ rfl
      have yy4 := kc 4 _ rfl
      have yy5 := kc 5 _ rfl
      have yy6 := kc 6 _ rfl
      have yy7 := kc 7 _ rfl
      have yy8 := kc 8 _ rfl
      have yy9 := kc 9 _ rfl
      rw [Nat.add_zero] at yy0
      have HR2 := Lib.hid hrow2
      clear HM hra kc hrow hrow2 D1
      refine rg_begin (fun j => j = gx ∨ (Value.slice A3 n3 k3).ownBlock = some j) (by kernel_rfl) ?_
      refine rg_take (v := ?_) 0 rfl (by kernel_rfl) (by kernel_rfl) (by kernel_rfl) (fun _ _ _ h => h) (by rfl) ?_ ?_; rotate_left
      · (intro x hx; go_simp; first | done | with_reducible rfl | (rw [if_pos (by omega)]; try with_reducible rfl) | (rw [if_neg (by omega)]; try with_reducible rfl))
      try simp only [Act.put, List.setIfInBounds_toArray, List.set_cons_zero, List.set_cons_succ]
      refine rg_take (v := ?_) 2 rfl (by kernel_rfl) (by kernel_rfl) (by kernel_rfl) (fun _ _ _ h => h) (by rfl) ?_ ?_; rotate_left
      · (intro x hx; go_simp; first | done | with_reducible rfl | (rw [if_pos (by omega)]; try with_reducible rfl) | (rw [if_neg (by omega)]; try with_reducible rfl))
      try simp only [Act.put, List.setIfInBounds_toArray, List.set_cons_zero, List.set_cons_succ]
      refine rg_take (v := ?_) 3 rfl (by kernel_rfl) (by kernel_rfl) (by kernel_rfl) (fun _ _ _ h => h) (by rfl) ?_ ?_; rotate_left
      · (intro x hx; go_simp; first | done | with_reducible rfl | (rw [if_pos (by omega)]; try with_reducible rfl) | (rw [if_neg (by omega)]; try with_reducible rfl))
      try simp only [Act.put, List.setIfInBounds_toArray, List.set_cons_zero, List.set_cons_succ]
      refine rg_take (v := ?_) 4 rfl (by kernel_rfl) (by kernel_rfl) (by kernel_rfl) (fun _ _ _ h => h) (by rfl) ?_ ?_; rotate_left
      · (intro x hx; go_simp; first | done | with_reducible rfl | (rw [if_pos (by omega)]; try with_reducible rfl) | (rw [if_neg (by omega)]; try with_reducible rfl))
      try simp only [Act.put, List.setIfInBounds_toArray, List.set_cons_zero, List.set_cons_succ]
      refine rg_take (v := ?_) 5 rfl (by kernel_rfl) (by kernel_rfl) (by kernel_rfl) (fun _ _ _ h => h) (by rfl) ?_ ?_; rotate_left
      · (intro x hx; go_simp; first | done | with_reducible rfl | (rw [if_pos (by omega)]; try with_reducible rfl) | (rw [if_neg (by omega)]; try with_reducible rfl))
      try simp only [Act.put, List.setIfInBounds_toArray, List.set_cons_zero, List.set_cons_succ]
      refine rg_take (v := ?_) 6 rfl (by kernel_rfl) (by kernel_rfl) (by kernel_rfl) (fun _ _ _ h => h) (by rfl) ?_ ?_; rotate_left
      · (intro x hx; go_simp; first | done | with_reducible rfl | (rw [if_pos (by omega)]; try with_reducible rfl) | (rw [if_neg (by omega)]; try with_reducible rfl))
      try simp only [Act.put, List.setIfInBounds_toArray, List.set_cons_zero, List.set_cons_succ]
      refine rg_take (v := ?_) 7 rfl (by kernel_rfl) (by kernel_rfl) (by kernel_rfl) (fun _ _ _ h => h) (by rfl) ?_ ?_; rotate_left
      · (intro x hx; go_simp; first | done | with_reducible rfl | (rw [if_pos (by omega)]; try with_reducible rfl) | (rw [if_neg (by omega)]; try with_reducible rfl))
      try simp only [Act.put, List.setIfInBounds_toArray, List.set_cons_zero, List.set_cons_succ]
      refine rg_take (v := ?_) 8 rfl (by kernel_rfl) (by kernel_rfl) (by kernel_rfl) (fun _ _ _ h => h) (by rfl) ?_ ?_; rotate_left
      · (intro x hx; go_simp; first | done | with_reducible rfl | (rw [if_pos (by omega)]; try with_reducible rfl) | (rw [if_neg (by omega)]; try with_reducible rfl))
      try simp only [Act.put, List.setIfInBounds_toArray, List.set_cons_zero, List.set_cons_succ]
      refine rg_take (v := ?_) 9 rfl (by kernel_rfl) (by kernel_rfl) (by kernel_rfl) (fun _ _ _ h => h) (by rfl) ?_ ?_; rotate_left
      · (intro x hx; go_simp; first | done | with_reducible rfl | (rw [if_pos (by omega)]; try with_reducible rfl) | (rw [if_neg (by omega)]; try with_reducible rfl))
      try simp only [Act.put, List.setIfInBounds_toArray, List.set_cons_zero, List.set_cons_succ]
      refine rg_take (v := ?_) 10 rfl (by kernel_rfl) (by kernel_rfl) (by kernel_rfl) (fun _ _ _ h => h) (by rfl) ?_ ?_; rotate_left
      · (intro x hx; go_simp; first | done | with_reducible rfl | (rw [if_pos (by omega)]; try with_reducible rfl) | (rw [if_neg (by omega)]; try with_reducible rfl))
      try simp only [Act.put, List.setIfInBounds_toArray, List.set_cons_zero, List.set_cons_succ]
      refine rg_take (v := ?_) 11 rfl (by kernel_rfl) (by kernel_rfl) (by kernel_rfl) (fun _ _ _ h => h) (by rfl) ?_ ?_; rotate_left
      · (intro x hx; go_simp; first | done | with_reducible rfl | (rw [if_pos (by omega)]; try with_reducible rfl) | (rw [if_neg (by omega)]; try with_reducible rfl))
      try simp only [Act.put, List.setIfInBounds_toArray, List.set_cons_zero, List.set_cons_succ]
      refine rg_take (v := ?_) 12 rfl (by kernel_rfl) (by kernel_rfl) (by kernel_rfl) (fun _ _ _ h => h) (by rfl) ?_ ?_; rotate_left
      · (intro x hx; go_simp; first | done | with_reducible rfl | (rw [if_pos (by omega)]; try with_reducible rfl) | (rw [if_neg (by omega)]; try with_reducible rfl))
      try simp only [Act.put, List.setIfInBounds_toArray, List.set_cons_zero, List.set_cons_succ]
      refine rg_take (v := ?_) 13 rfl (by kernel_rfl) (by kernel_rfl) (by kernel_rfl) (fun _ _ _ h => h) (by rfl) ?_ ?_; rotate_left
      · (intro x hx; go_simp; first | done | with_reducible rfl | (rw [if_pos (by omega)]; try with_reducible rfl) | (rw [if_neg (by omega)]; try with_reducible rfl))
      try simp only [Act.put, List.setIfInBounds_toArray, List.set_cons_zero, List.set_cons_succ]
      refine rg_take (v := ?_) 14 rfl (by kernel_rfl) (by kernel_rfl) (by kernel_rfl) (fun _ _ _ h => h) (by rfl) ?_ ?_; rotate_left
      · (intro x hx; go_simp; first | done | with_reducible rfl | (rw [if_pos (by omega)]; try with_reducible rfl) | (rw [if_neg (by omega)]; try with_reducible rfl))
      try simp only [Act.put, List.setIfInBounds_toArray, List.set_cons_zero, List.set_cons_succ]
      refine rg_two 1 15 rfl rfl (by kernel_rfl) (by rfl) (by rfl) (fun K hK => ?_) (fun K hK => ?_)
      · go_simp
        refine hK.out _ _ (Ext.refl _ _) ?_
        clear hK K; try simp only [Act.put, List.setIfInBounds_toArray, List.set_cons_zero, List.set_cons_succ]
        refine rg_step 15 rfl (by kernel_rfl) (by rfl) (fun K hK => ?_)
        go_simp
        refine hK.out _ _ (Ext.below_all _ ((Below.refl _ _).alloc (Nat.le_refl _) _)) ?_
        clear hK K; try simp only [Act.put, List.setIfInBounds_toArray, List.set_cons_zero, List.set_cons_succ]
        refine rg_step 16 rfl (by kernel_rfl) (by rfl) (fun K hK => ?_)
        refine wp_appT _ _ 37 71 10 10 _ Tryz.underlying37 infoRFx rfl (by omega) (by omega) rfl g A3 n3 _ _ (fxL (lf.take i)) rfl F4 wr.heap.size 1 rfl (fxC f) rfl N4 (by simp [Value.oneCell']) (by omega) hzb ?_
        intro A5 kk5 w5 F5 b5 g5
        have X5 : w5.heap[gx]? = some (.cells (cfC c (.slice A3 n3 k3) nilS) 40 (0, 0)) := (g5.block gx (heap_lt X4) (Ne.symm (HR2.out gx (.inr (.inl rfl))))).trans X4
        have P5 := (g5.block g (heap_lt P4) (Ne.symm (HR2.out g (.inr (.inr ⟨_, _, _, P3, by decide⟩))))).trans P4
        have R5 := (g5.block (g + 1) (heap_lt R4) (Ne.symm (HR2.out (g + 1) (.inr (.inr ⟨_, _, _, R3, by decide⟩))))).trans R4
        refine hK.out _ _ (Ext.of_grown g5 (fun j hj => .inr hj)) ?_
        clear hK K; try simp only [Act.put, List.setIfInBounds_toArray, List.set_cons_zero, List.set_cons_succ]
        refine rg_take (v := ?_) 17 rfl (by kernel_rfl) (by kernel_rfl) (by kernel_rfl) (fun _ _ _ h => h) (by rfl) ?_ ?_; rotate_left
        · (intro x hx; go_simp; first | done | with_reducible rfl | (rw [if_pos (by omega)]; try with_reducible rfl) | (rw [if_neg (by omega)]; try with_reducible rfl))
        try simp only [Act.put, List.setIfInBounds_toArray, List.set_cons_zero, List.set_cons_succ]
        refine rg_step 18 rfl (by kernel_rfl) (by rfl) (fun K hK => ?_)
        --RAW
        apply wp_store_one 37
        case ho => exact rfl
        case hx => exact rfl
        case hy => exact rfl
        case hg => exact X5
        case hle => simp
        case hv => rfl
        case hi => kernel_rfl
        case h1 => rfl
        intro w6 g6 X6
        refine hK.out _ _ (Ext.of_grown g6 (fun j h => by injection h with h; exact .inl h.symm)) ?_
        clear hK K
        refine rg_done (by kernel_rfl) ?_
        --TAIL
        have F6 := F5.kept g6 (F5.ne X5 (by decide))
        rw [← HT.out] at F6
        have P6 := grown_at g6 P5 (by have := HX.out; omega)
        have R6 := grown_at g6 R5 (by have := HX.out; omega)
        have b6 : Below g w w6 := below_grown (b4.trans b5) g6 (Nat.le_of_lt (heap_lt P5)) (by have := HX.out; omega)
        have hi' := HLT.out
        clear yy0 yy1 yy2 yy3 yy4 yy5 yy6 yy7 yy8 yy9 kP kA kB kC
        go_wp2_with fail
        go_roundw
        case rel => exact ⟨i + 1, A5, n3 + 1, kk5, by push_cast; rfl, hi', X6, F6, P6, R6, b6⟩
        case measure => simp [intOf]; omega
      · go_simp
        refine hK.out _ _ (Ext.below_all _ ((Below.refl _ _).alloc (Nat.le_refl _) _)) ?_
        clear hK K; try simp only [Act.put, List.setIfInBounds_toArray, List.set_cons_zero, List.set_cons_succ]
        refine rg_step 1 rfl (by kernel_rfl) (by rfl) (fun K hK => ?_)
        go_simp
        refine hK.out _ _ (Ext.refl _ _) ?_
        clear hK K; try simp only [Act.put, List.setIfInBounds_toArray, List.set_cons_zero, List.set_cons_succ]
        refine rg_step 16 rfl (by kernel_rfl) (by rfl) (fun K hK => ?_)
        refine wp_appT _ _ 37 71 10 10 _ Tryz.underlying37 infoRFx rfl (by omega) (by omega) rfl g A3 n3 _ _ (fxL (lf.take i)) rfl F4 wr.heap.size 1 rfl (fxC f) rfl N4 (by simp [Value.oneCell']) (by omega) hzb ?_
        intro A5 kk5 w5 F5 b5 g5
        have X5 : w5.heap[gx]? = some (.cells (cfC c (.slice A3 n3 k3) nilS) 40 (0, 0)) := (g5.block gx (heap_lt X4) (Ne.symm (HR2.out gx (.inr (.inl rfl))))).trans X4
        have P5 := (g5.block g (heap_lt P4) (Ne.symm (HR2.out g (.inr (.inr ⟨_, _, _, P3, by decide⟩))))).trans P4
        have R5 := (g5.block (g + 1) (heap_lt R4) (Ne.symm (HR2.out (g + 1) (.inr (.inr ⟨_, _, _, R3, by decide⟩))))).trans R4
        refine hK.out _ _ (Ext.of_grown g5 (fun j hj => .inr hj)) ?_
        clear hK K; try simp only [Act.put, List.setIfInBounds_toArray, List.set_cons_zero, List.set_cons_succ]
        refine rg_take (v := ?_) 17 rfl (by kernel_rfl) (by kernel_rfl) (by kernel_rfl) (fun _ _ _ h => h) (by rfl) ?_ ?_; rotate_left
        · (intro x hx; go_simp; first | done | with_reducible rfl | (rw [if_pos (by omega)]; try with_reducible rfl) | (rw [if_neg (by omega)]; try with_reducible rfl))
        try simp only [Act.put, List.setIfInBounds_toArray, List.set_cons_zero, List.set_cons_succ]
        refine rg_step 18 rfl (by kernel_rfl) (by rfl) (fun K hK => ?_)
        --RAW
        apply wp_store_one 37
        case ho => exact rfl
        case hx => exact rfl
        case hy => exact rfl
        case hg => exact X5
        case hle => simp
        case hv => rfl
        case hi => kernel_rfl
        case h1 => rfl
        intro w6 g6 X6
        refine hK.out _ _ (Ext.of_grown g6 (fun j h => by injection h with h; exact .inl h.symm)) ?_
        clear hK K
        refine rg_done (by kernel_rfl) ?_
        --TAIL
        have F6 := F5.kept g6 (F5.ne X5 (by decide))
        rw [← HT.out] at F6
        have P6 := grown_at g6 P5 (by have := HX.out; omega)
        have R6 := grown_at g6 R5 (by have := HX.out; omega)
        have b6 : Below g w w6 := below_grown (b4.trans b5) g6 (Nat.le_of_lt (heap_lt P5)) (by have := HX.out; omega)
        have hi' := HLT.out
        clear yy0 yy1 yy2 yy3 yy4 yy5 yy6 yy7 yy8 yy9 kP kA kB kC
        go_wp2_with fail
        go_roundw
        case rel => exact ⟨i + 1, A5, n3 + 1, kk5, by push_cast; rfl, hi', X6, F6, P6, R6, b6⟩
        case measure => simp [intOf]; omega
    · obtain rfl : i = n := by omega
      have hlti : decide ((i : Int) < (i : Int)) = false := decide_eq_false (by omega)
      obtain rfl : n3 = i := F3.1
      have hfull : lf.take n3 = lf := List.take_of_length_le (by have := HN.out.1; omega)
      rw [hfull] at F3
      have f3 := (cells_of P3).1
      clear hfull hi hge
      go_wp2_with fail
      have hgr2 : g ≤ wr.heap.size := Nat.le_of_lt (heap_lt P3)
      obtain ⟨wo, rfl⟩ : ∃ wo, wo = wr := ⟨_, rfl⟩
      go_loopw [5] (fun v wr => ∃ (j : Nat) (A4 : Option Addr) (n4 k4 : Nat), v = .int .i64 j ∧ j ≤ n2 ∧ wr.heap[gx]? = some (.cells (cfC c (.slice A3 n3 k3) (.slice A4 n4 k4)) 40 (0, 0)) ∧ TO wr g 71 10 A3 n3 k3 n3 (fxL lf) ∧
          TO wr g 72 7 A4 n4 k4 j (opL (lo.take j)) ∧ wr.heap[g]? = some (.cells (cfC c (.slice A n3 k) (.slice A2 n2 k2)) 32 (0, 0)) ∧ wr.heap[g + 1]? = some (.cells cfZ 40 (0, 0)) ∧ Below g w wr) (fun v _ => n2 - (intOf v).toNat)
      case atStart => exact ⟨0, none, 0, 0, rfl, Nat.zero_le _, X3, F3, TO.nil_ _ _ _ _, P3, R3, b3⟩
      case round =>
        clear X3 F3 P3 R3 b3 f3 hgr hgr2
        obtain ⟨j, A4, n4, k4, rfl, hj, X3, F3, O3, P3, R3, b3⟩ := hrel
        have hgr : g ≤ wr.heap.size := Nat.le_of_lt (heap_lt P3)
        rcases Nat.lt_or_ge j n2 with hlt | hge
        · have hlti2 : decide ((j : Int) < (n2 : Int)) = true := decide_eq_true (by omega)
          have hnn : (0 : Int) ≤ (j : Int) ∧ (j : Int) < (n2 : Int) := by omega
          obtain ⟨f, hf⟩ : ∃ f, lo[j]? = some f := ⟨lo[j]'(by have := HN.out.2; omega), List.getElem?_eq_getElem _⟩
          obtain ⟨b, o, rfl, hb⟩ := op_some HC.out.ro hf
          have hra := op_range (HC.out.ro.below (by rw [HG.out]; exact b3)) hf
          have HT := Lib.hid (opL_take hf)
          have HLT := Lib.hid hlt
          have w64 : IntKind.i64.wrap ((j : Int) + 1) = (j : Int) + 1 := IntWalk.i64_in _ (by have := HL.out.2; omega)
          have hl2 := HL.out.2
          have f3 := (cells_of P3).1
          clear hf hlt
          go_upto_region 10 with (first | ((with_reducible apply at_load_mid 48); (case hx => exact rfl); (case hc => exact hra); (case hu => exact Tryz.underlying48); (case hd => rfl); (case hi => kernel_rfl)) | ((with_reducible apply at_store_new 48); (case hx => exact rfl); (case hy => exact rfl); (case hg => first | rfl | simp); (case hi => kernel_rfl); (case hold => rfl); (case h1 => kernel_rfl)))
          clear f3 hra
          have q4 : Below wr.heap.size wr (wr.alloc (.cells (opC f) 48)) := (Below.refl _ wr).alloc (Nat.le_refl _) _
          have N4 := heap_alloc_new wr (.cells (opC f) 48)
          have X4 := below_at q4 X3 (heap_lt X3)
          have P4 := below_at q4 P3 (heap_lt P3)
          have R4 := below_at q4 R3 (heap_lt R3)
          have F4 := F3.below q4
          have O4 := O3.below q4
          have b4 := b3.trans (q4.mono hgr)
          obtain ⟨gn, hgn⟩ : ∃ gn, wr.heap.size = gn := ⟨_, rfl⟩
          rw [hgn] at N4 ⊢
          generalize wr.alloc (.cells (opC f) 48) = w4 at N4 X4 P4 R4 F4 O4 b4 ⊢
          have hgr4 : g ≤ w4.heap.size := Nat.le_of_lt (heap_lt P4)
          have fn := (cells_of N4).1
          have fx := (cells_of X4).1
          have q5 : Below w4.heap.size w4 (w4.alloc (.cells (opC f) 72)) := (Below.refl _ w4).alloc (Nat.le_refl _) _
          have N5 := heap_alloc_new w4 (.cells (opC f) 72)
          have X5 := below_at q5 X4 (heap_lt X4)
          have P5 := below_at q5 P4 (heap_lt P4)
          have R5 := below_at q5 R4 (heap_lt R4)
          have F5 := F4.below q5
          have O5 := O4.below q5
          have b5 := b4.trans (q5.mono hgr4)
          have hz5 : g ≤ (w4.alloc (.cells (opC f) 72)).heap.size := Nat.le_of_lt (heap_lt P5)
          have HN5 := Lib.hid N5
          have HX5 := Lib.hid X5
          have HP5 := Lib.hid (⟨P5, R5⟩ : _ ∧ _)
          clear X3 P3 R3 F3 O3 b3 q4 hgn N4 X4 P4 R4 F4 O4 b4 N5 X5 P5 R5 q5
          go_wp2_with (at_builtin; go_must (refine wpList_appT rfl _ _ 38 72 7 32 _ Tryz.underlying38 infoROp rfl (by omega) (by omega) rfl g A4 n4 _ _ (opL (lo.take j)) rfl O5 w4.heap.size 1 rfl (opC f) rfl HN5.out (by simp [Value.oneCell']) (by omega) hz5 ?_))
          intro A6 kk6 w6 O6 b6 g6
          have hown : ∀ {jj : Nat} {cs : Array Value} {t : TypeId} {fr : Nat × Nat}, (w4.alloc (.cells (opC f) 72)).heap[jj]? = some (.cells cs t fr) → t ≠ 72 → some jj ≠ (Value.slice A4 n4 k4).ownBlock := by
            intro jj cs t fr h1 h2 e
            rcases O5.ne h1 h2 with h | h
            · rw [h] at e; cases e
            · exact h e.symm
          have X6 := (g6.block gx (heap_lt HX5.out) (hown HX5.out (by decide))).trans HX5.out
          have P6 := (g6.block g (heap_lt HP5.out.1) (hown HP5.out.1 (by decide))).trans HP5.out.1
          have R6 := (g6.block (g + 1) (heap_lt HP5.out.2) (hown HP5.out.2 (by decide))).trans HP5.out.2
          have F6 : TO w6 g 71 10 A3 n3 k3 n3 (fxL lf) := F5.kept g6 (by
            rcases hq : (Value.slice A3 n3 k3).ownBlock with _ | q
            · exact .inl rfl
            · refine .inr fun e => ?_
              exact F5.apart O5 (by decide) q hq e.symm)
          clear fx fn hown
          go_wp2_with ((with_reducible apply at_store_one 38); (case hx => exact rfl); (case hy => exact rfl); (case hg => exact X6); (case hle => simp); (case hv => rfl); (case hi => kernel_rfl); (case h1 => rfl); (intro w7 g7 X7; replace X7 := Lib.hid X7))
          have X8 : w7.heap[gx]? = some (.cells (cfC c (.slice A3 n3 k3) (.slice A6 (n4 + 1) kk6)) 40 (0, 0)) := X7.out
          have O7 := O6.kept g7 (O6.ne X6 (by decide))
          have F7 := F6.kept g7 (F6.ne X6 (by decide))
          rw [← HT.out] at O7
          have P7 := grown_at g7 P6 (by have := HX.out; omega)
          have R7 := grown_at g7 R6 (by have := HX.out; omega)
          have b7 : Below g w w7 := below_grown (b5.trans b6) g7 (Nat.le_of_lt (heap_lt P6)) (by have := HX.out; omega)
          have hj' := HLT.out
          go_roundw
          case rel => exact ⟨j + 1, A6, n4 + 1, kk6, by push_cast; rfl, hj', X8, F7, O7, P7, R7, b7⟩
          case measure => simp [intOf]; omega
        · obtain rfl : j = n2 := by omega
          have hlti2 : decide ((j : Int) < (j : Int)) = false := decide_eq_false (by omega)
          obtain rfl : n4 = j := O3.1
          have hfull : lo.take n4 = lo := List.take_of_length_le (by have := HN.out.2; omega)
          rw [hfull] at O3
          have f3 := (cells_of P3).1
          have hl := HL.out.1
          have hl2 := HL.out.2
          have HCN := Lib.hid (⟨HN.out.1, HN.out.2, HC.out.wf⟩ : _ ∧ _ ∧ _)
          clear hfull hj hge
          go_wp2_with (first | ((with_reducible apply at_load_row 40); (case hx => exact rfl); (case hg => exact X3); (case hu => exact Tryz.underlying40); (case hd => rfl); (case hi => kernel_rfl)) | ((with_reducible apply at_store_part 40); (case hx => exact rfl); (case hy => exact rfl); (case hg => exact R3); (case hle => simp); (case hi => kernel_rfl); (case h1 => kernel_rfl); (intro w4 g4 P4; replace P4 := Lib.hid P4)))
          have R4 := P4.out
          rw [spliceZ] at R4
          have F4 := F3.kept g4 (F3.ne R3 (by decide))
          have O4 := O3.kept g4 (O3.ne R3 (by decide))
          refine bodyPost_cell (g + 1) _ _ _ rfl rfl R4 Tryz.underlying40 rfl (by kernel_rfl) rfl ?_
          refine ⟨A3, n3, k3, A4, n4, k4, rfl, F4.row.2, O4.row.2, ⟨F4.row.1, HCN.out.1, hl, O4.row.1, HCN.out.2.1, hl2, HCN.out.2.2⟩, ?_⟩
          rw [HG.out]
          exact below_grown b3 g4 hgr (Nat.le_succ g)
end
section
open Go.RowKit

set_option maxRecDepth 100000 in
set_option maxHeartbeats 1000000 in
theorem eq_fx_fields (w : World) (f : Fx) : (Op.eqFields 9999 (fxC f) (fxC f) (Tryz.prog.fieldsOf 71).toList).run Tryz.prog w = .ok true w := by
  have q0 := part_agg (P := Tryz.prog) w 28 (fxC f) 0 6 (by kernel_rfl) (by kernel_rfl)
  have q1 := part_agg (P := Tryz.prog) w 24 (fxC f) 6 4 (by kernel_rfl) (by kernel_rfl)
  change _ = Result.ok (macV f.m) w at q0
  change _ = Result.ok (adV f.a) w at q1
  have e0 : (Op.equalIn 9999 28 (macV f.m) (macV f.m)).run Tryz.prog w = .ok (f.m.bytes == f.m.bytes) w :=
    run_equalIn_bytes (P := Tryz.prog) w 9997 28 5 6 Tryz.underlying28 Tryz.underlying5 (fun w => by kernel_rfl) f.m.bytes f.m.bytes rfl rfl
  have e1 : (Op.equalIn 9999 24 (adV f.a) (adV f.a)).run Tryz.prog w = .ok (f.a.bytes == f.a.bytes) w :=
    run_equalIn_bytes (P := Tryz.prog) w 9997 24 5 4 Tryz.underlying24 Tryz.underlying5 (fun w => by kernel_rfl) f.a.bytes f.a.bytes rfl rfl
  rw [beq_self_eq_true] at e0 e1
  simp only [Program.fieldsOf, Tryz.underlying71, Op.eqFields, Sem.run_bind, Sem.run_ite, q0, q1, Result.andThen_ok, e0, e1]
  simp
theorem run_neq_fx (w : World) (f : Fx) : (binOp .neq 71 (.agg (fxC f)) (.agg (fxC f))).run Tryz.prog w = .ok (.bool false) w := by
  refine run_neq_of (b := true) ?_
  rw [run_eql_struct, run_equalIn_agg w 9999 71 (fxC f) (fxC f) (by kernel_rfl) (by kernel_rfl), eq_fx_fields w]
  rfl
set_option maxRecDepth 100000 in
set_option maxHeartbeats 1000000 in
theorem eq_op_fields (w : World) (f : Opn) : (Op.eqFields 9999 (opC f) (opC f) (Tryz.prog.fieldsOf 72).toList).run Tryz.prog w = .ok true w := by
  have q0 := part_one (P := Tryz.prog) w 3 (opC f) 0 _ (by kernel_rfl) rfl
  have q1 := part_one (P := Tryz.prog) w 3 (opC f) 1 _ (by kernel_rfl) rfl
  have q2 := part_agg (P := Tryz.prog) w 24 (opC f) 2 4 (by kernel_rfl) (by kernel_rfl)
  have q3 := part_one (P := Tryz.prog) w 3 (opC f) 6 _ (by kernel_rfl) rfl
  change _ = Result.ok (Value.int .i64 f.pr) w at q0
  change _ = Result.ok (Value.int .i64 f.po) w at q1
  change _ = Result.ok (adV f.a) w at q2
  change _ = Result.ok (Value.int .i64 f.tp) w at q3
  have key : ∀ t : Int, (Op.equalIn 9999 3 (.int .i64 t) (.int .i64 t)).run Tryz.prog w = .ok true w := by
    intro t
    have e4 := run_equalIn_int (P := Tryz.prog) w 9998 3 .i64 .i64 t t Tryz.underlying3
    rw [beq_self_eq_true] at e4
    exact e4
  have e1 : (Op.equalIn 9999 24 (adV f.a) (adV f.a)).run Tryz.prog w = .ok (f.a.bytes == f.a.bytes) w :=
    run_equalIn_bytes (P := Tryz.prog) w 9997 24 5 4 Tryz.underlying24 Tryz.underlying5 (fun w => by kernel_rfl) f.a.bytes f.a.bytes rfl rfl
  rw [beq_self_eq_true] at e1
  simp only [Program.fieldsOf, Tryz.underlying72, Op.eqFields, Sem.run_bind, Sem.run_ite, q0, q1, q2, q3, Result.andThen_ok, e1, key]
  simp
theorem run_neq_op (w : World) (f : Opn) : (binOp .neq 72 (.agg (opC f)) (.agg (opC f))).run Tryz.prog w = .ok (.bool false) w := by
  refine run_neq_of (b := true) ?_
  rw [run_eql_struct, run_equalIn_agg w 9999 72 (opC f) (opC f) (by kernel_rfl) (by kernel_rfl), eq_op_fields w]
  rfl
theorem neq_ad0 (w : World) (m : Ad4) : (binOp .neq 24 (adV m) (adV m)).run Tryz.prog w = .ok (.bool false) w := by
  have := run_neq_ad w m m
  rwa [adeq_self] at this
theorem neq_mac0 (w : World) (m : Mac6) : (binOp .neq 28 (macV m) (macV m)).run Tryz.prog w = .ok (.bool false) w := by
  have := run_neq_of (run_eql_mac w m m)
  rwa [(meq_iff m m).2 rfl] at this
set_option maxRecDepth 100000 in
set_option maxHeartbeats 16000000 in
theorem same_all (w : World) (C : Cg) (A : Option Addr) (n k : Nat) (A2 : Option Addr) (n2 k2 : Nat) (hA : CR w w.heap.size C A n A2 n2) (B : Option Addr) (m l : Nat) (B2 : Option Addr) (m2 l2 : Nat) (hB : CR w w.heap.size C B m B2 m2) :
    Calls Tryz.prog 10 #[.agg (cfC C.c (.slice A n k) (.slice A2 n2 k2)), .agg (cfC C.c (.slice B m l) (.slice B2 m2 l2))] w (fun e w' => e = .returned (.bool true) ∧ Below w.heap.size w w') := by
  obtain ⟨c, lf, lo⟩ := C
  obtain rfl : n = m := by rw [hA.nf, hB.nf]
  obtain rfl : n2 = m2 := by rw [hA.no, hB.no]
  have HA := Lib.hid hA
  have HB := Lib.hid hB
  have P0 : ((w.alloc (.cells (cfC c (.slice A n k) (.slice A2 n2 k2)) 40)).alloc (.cells (cfC c (.slice B n l) (.slice B2 n2 l2)) 40)).heap[w.heap.size]? = some (.cells (cfC c (.slice A n k) (.slice A2 n2 k2)) 40 (0, 0)) := heap_alloc_of (heap_alloc_new w _)
  have R0 : ((w.alloc (.cells (cfC c (.slice A n k) (.slice A2 n2 k2)) 40)).alloc (.cells (cfC c (.slice B n l) (.slice B2 n2 l2)) 40)).heap[w.heap.size + 1]? = some (.cells (cfC c (.slice B n l) (.slice B2 n2 l2)) 40 (0, 0)) := heap_alloc_at (by simp)
  have b0 : Below w.heap.size w ((w.alloc (.cells (cfC c (.slice A n k) (.slice A2 n2 k2)) 40)).alloc (.cells (cfC c (.slice B n l) (.slice B2 n2 l2)) 40)) := ((Below.refl _ w).alloc (Nat.le_refl _) _).alloc (by simp) _
  have n1 := fun w => neq_ad0 w c.own
  have n2' := fun w => neq_ad0 w c.lanA
  have n3 := fun w => neq_mac0 w c.lm
  have n4 := fun w => neq_mac0 w c.wm
  have n5 := fun w => neq_ad0 w c.fst
  have n6 := fun w => neq_ad0 w c.lst
  have n7 := fun w => neq_ad0 w c.dns
  clear hA hB
  go_enter Tryz.func10, Tryz.ntmps10
  go_upto_region 1 with fail
  generalize (w.alloc (.cells (cfC c (.slice A n k) (.slice A2 n2 k2)) 40)).alloc (.cells (cfC c (.slice B n l) (.slice B2 n2 l2)) 40) = w1 at P0 R0 b0 ⊢
  obtain ⟨g, hg⟩ : ∃ g, w.heap.size = g := ⟨_, rfl⟩
  rw [hg] at P0 R0 b0 ⊢
  have HG := Lib.hid hg
  have f0 := (cells_of P0).1
  have f1 := (cells_of R0).1
  clear hg
  go_wp2_with fail
  clear n1 n2' n3 n4 n5 n6 n7 f0 f1
  go_loopw [5] (fun v wr => ∃ i : Nat, v = .int .i64 i ∧ i ≤ n ∧ wr.heap[g]? = some (.cells (cfC c (.slice A n k) (.slice A2 n2 k2)) 40 (0, 0)) ∧ wr.heap[g + 1]? = some (.cells (cfC c (.slice B n l) (.slice B2 n2 l2)) 40 (0, 0)) ∧ Below g w wr) (fun v _ => n - (intOf v).toNat)
  case atStart => exact ⟨0, rfl, Nat.zero_le _, P0, R0, b0⟩
  case round =>
    clear P0 R0 b0
    obtain ⟨i, rfl, hi, P1, R1, b1⟩ := hrel
    rcases Nat.lt_or_ge i n with hlt | hge
    · have hlti : decide ((i : Int) < (n : Int)) = true := decide_eq_true (by omega)
      have hnn : (0 : Int) ≤ (i : Int) ∧ (i : Int) < (n : Int) := by omega
      obtain ⟨f, hf⟩ : ∃ f, lf[i]? = some f := ⟨lf[i]'(by have := HA.out.nf; simp at this; omega), List.getElem?_eq_getElem _⟩
      obtain ⟨b, o, rfl, hb⟩ := fx_some HA.out.rf hf
      obtain ⟨b', o', rfl, hb'⟩ := fx_some HB.out.rf hf
      have hra := fx_range (HA.out.rf.below (by rw [HG.out]; exact b1)) hf
      have hrb := fx_range (HB.out.rf.below (by rw [HG.out]; exact b1)) hf
      have ya : ∀ j v, (fxC f).toList[j]? = some v → ∀ x, Ext (fun _ => False) wr.drew x → x.cell? ⟨b, o + i * 10 + j, none⟩ = some v := fun j v hj => Ext.cell (w := wr.drew) (hra j v hj) (fun h => h)
      have yb : ∀ j v, (fxC f).toList[j]? = some v → ∀ x, Ext (fun _ => False) wr.drew x → x.cell? ⟨b', o' + i * 10 + j, none⟩ = some v := fun j v hj => Ext.cell (w := wr.drew) (hrb j v hj) (fun h => h)
      have ya0 := ya 0 _ rfl
      have ya1 := ya 1 _ rfl
      have ya2 := ya 2 _ rfl
      have ya3 := ya 3 _ rfl
      have ya4 := ya 4 _ rfl
      have ya5 := ya 5 _ rfl
      have ya6 := ya 6 _ rfl
      have ya7 := ya 7 _ rfl
      have ya8 := ya 8 _ rfl
      have ya9 := ya 9 _ rfl
      have yb0 := yb 0 _ rfl
      have yb1 := yb 1 _ rfl
      have yb2 := yb 2 _ rfl
      have yb3 := yb 3 _ rfl
      have yb4 := yb 4 _ rfl
      have yb5 := yb 5 _ rfl
      have yb6 := yb 6 _ rfl
      have yb7 := yb 7 _ rfl
      have yb8 := yb 8 _ rfl
      have yb9 := yb 9 _ rfl
      rw [Nat.add_zero] at ya0 yb0
      have hneq := fun w => run_neq_fx w f
      have HLT := Lib.hid hlt
      have w64 : IntKind.i64.wrap ((i : Int) + 1) = (i : Int) + 1 := IntWalk.i64_in _ (by have := HA.out.lf; omega)
      have fp := (cells_of P1).1
      clear hf hlt ya yb hra hrb
      go_upto_region 6 with fail
      clear fp
      have kP := Ext.cell (w := wr.drew) (M := fun _ => False) ((cells_of P1).1 38) (fun h => h)
      have kR := Ext.cell (w := wr.drew) (M := fun _ => False) ((cells_of R1).1 38) (fun h => h)
      refine rg_begin (fun _ => False) (by kernel_rfl) ?_
      refine rg_take (v := ?_) 0 rfl (by kernel_rfl) (by kernel_rfl) (by kernel_rfl) (fun _ _ _ h => h) (by rfl) ?_ ?_; rotate_left
      · (intro x hx; go_simp; first | done | with_reducible rfl | (rw [if_pos (by omega)]; try with_reducible rfl) | (rw [if_neg (by omega)]; try with_reducible rfl))
      try simp only [Act.put, List.setIfInBounds_toArray, List.set_cons_zero, List.set_cons_succ]
      refine rg_take (v := ?_) 1 rfl (by kernel_rfl) (by kernel_rfl) (by kernel_rfl) (fun _ _ _ h => h) (by rfl) ?_ ?_; rotate_left
      · (intro x hx; go_simp; first | done | with_reducible rfl | (rw [if_pos (by omega)]; try with_reducible rfl) | (rw [if_neg (by omega)]; try with_reducible rfl))
      try simp only [Act.put, List.setIfInBounds_toArray, List.set_cons_zero, List.set_cons_succ]
      refine rg_take (v := ?_) 2 rfl (by kernel_rfl) (by kernel_rfl) (by kernel_rfl) (fun _ _ _ h => h) (by rfl) ?_ ?_; rotate_left
      · (intro x hx; go_simp; first | done | with_reducible rfl | (rw [if_pos (by omega)]; try with_reducible rfl) | (rw [if_neg (by omega)]; try with_reducible rfl))
      try simp only [Act.put, List.setIfInBounds_toArray, List.set_cons_zero, List.set_cons_succ]
      refine rg_take (v := ?_) 3 rfl (by kernel_rfl) (by kernel_rfl) (by kernel_rfl) (fun _ _ _ h => h) (by rfl) ?_ ?_; rotate_left
      · (intro x hx; go_simp; first | done | with_reducible rfl | (rw [if_pos (by omega)]; try with_reducible rfl) | (rw [if_neg (by omega)]; try with_reducible rfl))
      try simp only [Act.put, List.setIfInBounds_toArray, List.set_cons_zero, List.set_cons_succ]
      refine rg_take (v := ?_) 4 rfl (by kernel_rfl) (by kernel_rfl) (by kernel_rfl) (fun _ _ _ h => h) (by rfl) ?_ ?_; rotate_left
      · (intro x hx; go_simp; first | done | with_reducible rfl | (rw [if_pos (by omega)]; try with_reducible rfl) | (rw [if_neg (by omega)]; try with_reducible rfl))
      try simp only [Act.put, List.setIfInBounds_toArray, List.set_cons_zero, List.set_cons_succ]
      refine rg_take (v := ?_) 5 rfl (by kernel_rfl) (by kernel_rfl) (by kernel_rfl) (fun _ _ _ h => h) (by rfl) ?_ ?_; rotate_left
      · (intro x hx; go_simp; first | done | with_reducible rfl | (rw [if_pos (by omega)]; try with_reducible rfl) | (rw [if_neg (by omega)]; try with_reducible rfl))
      try simp only [Act.put, List.setIfInBounds_toArray, List.set_cons_zero, List.set_cons_succ]
      refine rg_take (v := ?_) 6 rfl (by kernel_rfl) (by kernel_rfl) (by kernel_rfl) (fun _ _ _ h => h) (by rfl) ?_ ?_; rotate_left
      · (intro x hx; go_simp; first | done | with_reducible rfl | (rw [if_pos (by omega)]; try with_reducible rfl) | (rw [if_neg (by omega)]; try with_reducible rfl))
      try simp only [Act.put, List.setIfInBounds_toArray, List.set_cons_zero, List.set_cons_succ]
      refine rg_take (v := ?_) 7 rfl (by kernel_rfl) (by kernel_rfl) (by kernel_rfl) (fun _ _ _ h => h) (by rfl) ?_ ?_; rotate_left
      · (intro x hx; go_simp; first | done | with_reducible rfl | (rw [if_pos (by omega)]; try with_reducible rfl) | (rw [if_neg (by omega)]; try with_reducible rfl))
      try simp only [Act.put, List.setIfInBounds_toArray, List.set_cons_zero, List.set_cons_succ]
      refine rg_take (v := ?_) 8 rfl (by kernel_rfl) (by kernel_rfl) (by kernel_rfl) (fun _ _ _ h => h) (by rfl) ?_ ?_; rotate_left
      · (intro x hx; go_simp; first | done | with_reducible rfl | (rw [if_pos (by omega)]; try with_reducible rfl) | (rw [if_neg (by omega)]; try with_reducible rfl))
      try simp only [Act.put, List.setIfInBounds_toArray, List.set_cons_zero, List.set_cons_succ]
      refine rg_take (v := ?_) 9 rfl (by kernel_rfl) (by kernel_rfl) (by kernel_rfl) (fun _ _ _ h => h) (by rfl) ?_ ?_; rotate_left
      · (intro x hx; go_simp; first | done | with_reducible rfl | (rw [if_pos (by omega)]; try with_reducible rfl) | (rw [if_neg (by omega)]; try with_reducible rfl))
      try simp only [Act.put, List.setIfInBounds_toArray, List.set_cons_zero, List.set_cons_succ]
      refine rg_take (v := ?_) 10 rfl (by kernel_rfl) (by kernel_rfl) (by kernel_rfl) (fun _ _ _ h => h) (by rfl) ?_ ?_; rotate_left
      · (intro x hx; go_simp; first | done | with_reducible rfl | (rw [if_pos (by omega)]; try with_reducible rfl) | (rw [if_neg (by omega)]; try with_reducible rfl))
      try simp only [Act.put, List.setIfInBounds_toArray, List.set_cons_zero, List.set_cons_succ]
      refine rg_done (by kernel_rfl) ?_
      have P2 := below_at (Below.refl _ wr).drew P1 (heap_lt P1)
      have R2 := below_at (Below.refl _ wr).drew R1 (heap_lt R1)
      have b2 : Below g w wr.drew := b1.drew
      have hi' := HLT.out
      clear ya0 ya1 ya2 ya3 ya4 ya5 ya6 ya7 ya8 ya9 yb0 yb1 yb2 yb3 yb4 yb5 yb6 yb7 yb8 yb9 kP kR hneq
      go_wp2_with fail
      go_roundw
      case rel => exact ⟨i + 1, by push_cast; rfl, hi', P2, R2, b2⟩
      case measure => simp [intOf]; omega
    · obtain rfl : i = n := by omega
      have hlti : decide ((i : Int) < (i : Int)) = false := decide_eq_false (by omega)
      have fp := (cells_of P1).1
      clear hi hge
      go_wp2_with fail
      clear fp
      obtain ⟨wo, rfl⟩ : ∃ wo, wo = wr := ⟨_, rfl⟩
      go_loopw [6] (fun v wr => ∃ j : Nat, v = .int .i64 j ∧ j ≤ n2 ∧ wr.heap[g]? = some (.cells (cfC c (.slice A i k) (.slice A2 n2 k2)) 40 (0, 0)) ∧ wr.heap[g + 1]? = some (.cells (cfC c (.slice B i l) (.slice B2 n2 l2)) 40 (0, 0)) ∧ Below g w wr) (fun v _ => n2 - (intOf v).toNat)
      case atStart => exact ⟨0, rfl, Nat.zero_le _, P1, R1, b1⟩
      case round =>
        clear P1 R1 b1
        obtain ⟨j, rfl, hj, P1, R1, b1⟩ := hrel
        rcases Nat.lt_or_ge j n2 with hlt | hge
        · have hlti2 : decide ((j : Int) < (n2 : Int)) = true := decide_eq_true (by omega)
          have hnn : (0 : Int) ≤ (j : Int) ∧ (j : Int) < (n2 : Int) := by omega
          obtain ⟨f, hf⟩ : ∃ f, lo[j]? = some f := ⟨lo[j]'(by have := HA.out.no; simp at this; omega), List.getElem?_eq_getElem _⟩
          obtain ⟨b, o, rfl, hb⟩ := op_some HA.out.ro hf
          obtain ⟨b', o', rfl, hb'⟩ := op_some HB.out.ro hf
          have hra := op_range (HA.out.ro.below (by rw [HG.out]; exact b1)) hf
          have hrb := op_range (HB.out.ro.below (by rw [HG.out]; exact b1)) hf
          have ya : ∀ q v, (opC f).toList[q]? = some v → ∀ x, Ext (fun _ => False) wr.drew x → x.cell? ⟨b, o + j * 7 + q, none⟩ = some v := fun q v hq => Ext.cell (w := wr.drew) (hra q v hq) (fun h => h)
          have yb : ∀ q v, (opC f).toList[q]? = some v → ∀ x, Ext (fun _ => False) wr.drew x → x.cell? ⟨b', o' + j * 7 + q, none⟩ = some v := fun q v hq => Ext.cell (w := wr.drew) (hrb q v hq) (fun h => h)
          have ya0 := ya 0 _ rfl
          have ya1 := ya 1 _ rfl
          have ya2 := ya 2 _ rfl
          have ya3 := ya 3 _ rfl
          have ya4 := ya 4 _ rfl
          have ya5 := ya 5 _ rfl
          have ya6 := ya 6 _ rfl
          have yb0 := yb 0 _ rfl
          have yb1 := yb 1 _ rfl
          have yb2 := yb 2 _ rfl
          have yb3 := yb 3 _ rfl
          have yb4 := yb 4 _ rfl
          have yb5 := yb 5 _ rfl
          have yb6 := yb 6 _ rfl
          rw [Nat.add_zero] at ya0 yb0
          have hneq := fun w => run_neq_op w f
          have HLT := Lib.hid hlt
          have w64 : IntKind.i64.wrap ((j : Int) + 1) = (j : Int) + 1 := IntWalk.i64_in _ (by have := HA.out.lo; omega)
          have fp := (cells_of P1).1
          clear hf hlt ya yb hra hrb
          go_upto_region 11 with fail
          clear fp
          have kP := Ext.cell (w := wr.drew) (M := fun _ => False) ((cells_of P1).1 39) (fun h => h)
          have kR := Ext.cell (w := wr.drew) (M := fun _ => False) ((cells_of R1).1 39) (fun h => h)
          refine rg_begin (fun _ => False) (by kernel_rfl) ?_
          refine rg_take (v := ?_) 0 rfl (by kernel_rfl) (by kernel_rfl) (by kernel_rfl) (fun _ _ _ h => h) (by rfl) ?_ ?_; rotate_left
          · (intro x hx; go_simp; first | done | with_reducible rfl | (rw [if_pos (by omega)]; try with_reducible rfl) | (rw [if_neg (by omega)]; try with_reducible rfl))
          try simp only [Act.put, List.setIfInBounds_toArray, List.set_cons_zero, List.set_cons_succ]
          refine rg_take (v := ?_) 1 rfl (by kernel_rfl) (by kernel_rfl) (by kernel_rfl) (fun _ _ _ h => h) (by rfl) ?_ ?_; rotate_left
          · (intro x hx; go_simp; first | done | with_reducible rfl | (rw [if_pos (by omega)]; try with_reducible rfl) | (rw [if_neg (by omega)]; try with_reducible rfl))
          try simp only [Act.put, List.setIfInBounds_toArray, List.set_cons_zero, List.set_cons_succ]
          refine rg_take (v := ?_) 2 rfl (by kernel_rfl) (by kernel_rfl) (by kernel_rfl) (fun _ _ _ h => h) (by rfl) ?_ ?_; rotate_left
          · (intro x hx; go_simp; first | done | with_reducible rfl | (rw [if_pos (by omega)]; try with_reducible rfl) | (rw [if_neg (by omega)]; try with_reducible rfl))
          try simp only [Act.put, List.setIfInBounds_toArray, List.set_cons_zero, List.set_cons_succ]
          refine rg_take (v := ?_) 3 rfl (by kernel_rfl) (by kernel_rfl) (by kernel_rfl) (fun _ _ _ h => h) (by rfl) ?_ ?_; rotate_left
          · (intro x hx; go_simp; first | done | with_reducible rfl | (rw [if_pos (by omega)]; try with_reducible rfl) | (rw [if_neg (by omega)]; try with_reducible rfl))
          try simp only [Act.put, List.setIfInBounds_toArray, List.set_cons_zero, List.set_cons_succ]
          refine rg_take (v := ?_) 4 rfl (by kernel_rfl) (by kernel_rfl) (by kernel_rfl) (fun _ _ _ h => h) (by rfl) ?_ ?_; rotate_left
          · (intro x hx; go_simp; first | done | with_reducible rfl | (rw [if_pos (by omega)]; try with_reducible rfl) | (rw [if_neg (by omega)]; try with_reducible rfl))
          try simp only [Act.put, List.setIfInBounds_toArray, List.set_cons_zero, List.set_cons_succ]
          refine rg_take (v := ?_) 5 rfl (by kernel_rfl) (by kernel_rfl) (by kernel_rfl) (fun _ _ _ h => h) (by rfl) ?_ ?_; rotate_left
          · (intro x hx; go_simp; first | done | with_reducible rfl | (rw [if_pos (by omega)]; try with_reducible rfl) | (rw [if_neg (by omega)]; try with_reducible rfl))
          try simp only [Act.put, List.setIfInBounds_toArray, List.set_cons_zero, List.set_cons_succ]
          refine rg_take (v := ?_) 6 rfl (by kernel_rfl) (by kernel_rfl) (by kernel_rfl) (fun _ _ _ h => h) (by rfl) ?_ ?_; rotate_left
          · (intro x hx; go_simp; first | done | with_reducible rfl | (rw [if_pos (by omega)]; try with_reducible rfl) | (rw [if_neg (by omega)]; try with_reducible rfl))
          try simp only [Act.put, List.setIfInBounds_toArray, List.set_cons_zero, List.set_cons_succ]
          refine rg_take (v := ?_) 7 rfl (by kernel_rfl) (by kernel_rfl) (by kernel_rfl) (fun _ _ _ h => h) (by rfl) ?_ ?_; rotate_left
          · (intro x hx; go_simp; first | done | with_reducible rfl | (rw [if_pos (by omega)]; try with_reducible rfl) | (rw [if_neg (by omega)]; try with_reducible rfl))
          try simp only [Act.put, List.setIfInBounds_toArray, List.set_cons_zero, List.set_cons_succ]
          refine rg_take (v := ?_) 8 rfl (by kernel_rfl) (by kernel_rfl) (by kernel_rfl) (fun _ _ _ h => h) (by rfl) ?_ ?_; rotate_left
          · (intro x hx; go_simp; first | done | with_reducible rfl | (rw [if_pos (by omega)]; try with_reducible rfl) | (rw [if_neg (by omega)]; try with_reducible rfl))
          try simp only [Act.put, List.setIfInBounds_toArray, List.set_cons_zero, List.set_cons_succ]
          refine rg_take (v := ?_) 9 rfl (by kernel_rfl) (by kernel_rfl) (by kernel_rfl) (fun _ _ _ h => h) (by rfl) ?_ ?_; rotate_left
          · (intro x hx; go_simp; first | done | with_reducible rfl | (rw [if_pos (by omega)]; try with_reducible rfl) | (rw [if_neg (by omega)]; try with_reducible rfl))
          try simp only [Act.put, List.setIfInBounds_toArray, List.set_cons_zero, List.set_cons_succ]
          refine rg_take (v := ?_) 10 rfl (by kernel_rfl) (by kernel_rfl) (by kernel_rfl) (fun _ _ _ h => h) (by rfl) ?_ ?_; rotate_left
          · (intro x hx; go_simp; first | done | with_reducible rfl | (rw [if_pos (by omega)]; try with_reducible rfl) | (rw [if_neg (by omega)]; try with_reducible rfl))
          try simp only [Act.put, List.setIfInBounds_toArray, List.set_cons_zero, List.set_cons_succ]
          refine rg_done (by kernel_rfl) ?_
          have P2 := below_at (Below.refl _ wr).drew P1 (heap_lt P1)
          have R2 := below_at (Below.refl _ wr).drew R1 (heap_lt R1)
          have b2 : Below g w wr.drew := b1.drew
          have hi' := HLT.out
          clear ya0 ya1 ya2 ya3 ya4 ya5 ya6 yb0 yb1 yb2 yb3 yb4 yb5 yb6 kP kR hneq
          go_wp2_with fail
          go_roundw
          case rel => exact ⟨j + 1, by push_cast; rfl, hi', P2, R2, b2⟩
          case measure => simp [intOf]; omega
        · obtain rfl : j = n2 := by omega
          have hlti2 : decide ((j : Int) < (j : Int)) = false := decide_eq_false (by omega)
          have fp := (cells_of P1).1
          clear hj hge
          go_wp2_with fail
          go_ret
          exact ⟨rfl, by rw [HG.out]; exact b1⟩
end
section
open Go.RowKit

def us0 : Cf := ⟨⟨192, 168, 1, 1⟩, ⟨192, 168, 1, 0⟩, 24, ⟨2, 0, 0, 0, 0, 1⟩, ⟨2, 0, 0, 0, 0, 2⟩, ⟨192, 168, 1, 100⟩, ⟨192, 168, 1, 131⟩, 3600, ⟨9, 9, 9, 9⟩, 120, 7200, 30, 40000⟩
theorem usC_eq : usC = us0 := by kernel_rfl
set_option maxRecDepth 100000 in
set_option maxHeartbeats 4000000 in
theorem usual10_any (w : World) : Calls Tryz.prog 16 #[] w (fun e w' => e = .returned (.agg (cfC us0 nilS nilS)) ∧ Below w.heap.size w w') := by
  have R0 := heap_alloc_new w (.cells (cfC us0 nilS nilS) 40)
  have b0 : Below w.heap.size w (w.alloc (.cells (cfC us0 nilS nilS) 40)) := (Below.refl _ w).alloc (Nat.le_refl _) _
  go_enter Tryz.func16, Tryz.ntmps16
  go_wp2_with ((with_reducible apply at_store_new 40); (case hx => exact rfl); (case hy => exact rfl); (case hg => first | rfl | simp); (case hi => kernel_rfl); (case hold => rfl); (case h1 => kernel_rfl))
  exact bodyPost_cell w.heap.size _ _ _ rfl rfl R0 Tryz.underlying40 rfl (by kernel_rfl) rfl ⟨rfl, b0⟩
abbrev tAw : List UInt8 := [116, 105, 109, 101, 32, 61, 32, 54, 48]
def c60 : Cf := { us0 with time := 60 }
def g60 : Cg := ⟨c60, [], []⟩
theorem aw_parse : parseG tAw = (g60, 0, 0) := by kernel_rfl
theorem aw_chk : chkG g60 = 0 := by kernel_rfl
theorem CRz {w w' : World} {g : Nat} {c : Cf} {A : Option Addr} {n : Nat} {A2 : Option Addr} {n2 : Nat} (_ : w.grownBy w' (some g)) (h : CR w w.heap.size ⟨c, [], []⟩ A n A2 n2) (h1 : n = 0) (h2 : n2 = 0) : CR w' w'.heap.size ⟨c, [], []⟩ A n A2 n2 :=
  ⟨.inl rfl, h1, h.lf, .inl rfl, h2, h.lo, fun _ h => by cases h⟩
set_option maxRecDepth 100000 in
set_option maxHeartbeats 8000000 in
theorem awake10_any (w : World) (hm : mlIs w) : Calls Tryz.prog 7 #[] w (fun e w' => e = .returned (.bool true) ∧ Below w.heap.size w w') := by
  have hmp := hm.pos
  go_enter Tryz.func7, Tryz.ntmps7
  go_wp2_with fail
  have hpa := parse_all w hm tAw (by decide)
  rw [aw_parse] at hpa
  refine hpa.mono ?_
  rintro e w1 ⟨A, n, k, A2, n2, k2, rfl, hnk, hnk2, hC, q1⟩
  have HC := Lib.hid hC
  clear hpa hC
  simp only [g60]
  go_upto_region 2 with ((with_reducible apply at_store_new 32); (case hx => exact rfl); (case hy => exact rfl); (case hg => first | rfl | simp); (case hi => kernel_rfl); (case hold => rfl); (case h1 => kernel_rfl))
  have C2 := heap_alloc_new w1 (.cells (cfC c60 (.slice A n k) (.slice A2 n2 k2)) 32)
  have qq2 : Below w1.heap.size w1 (w1.alloc (.cells (cfC c60 (.slice A n k) (.slice A2 n2 k2)) 32)) := (Below.refl _ w1).alloc (Nat.le_refl _) _
  have CR2 := HC.out.next qq2
  have b2 : Below w.heap.size w (w1.alloc (.cells (cfC c60 (.slice A n k) (.slice A2 n2 k2)) 32)) := q1.alloc q1.size _
  obtain ⟨gc, hgc⟩ : ∃ g, w1.heap.size = g := ⟨_, rfl⟩
  rw [hgc] at C2 ⊢
  generalize w1.alloc (.cells (cfC c60 (.slice A n k) (.slice A2 n2 k2)) 32) = w2 at C2 b2 CR2 ⊢
  have hs2 := b2.size
  clear hgc q1 hm qq2 HC
  go_wp2_with fail
  refine (usual10_any w2).mono ?_
  rintro e w3 ⟨rfl, q3⟩
  have C3 := below_at q3 C2 (heap_lt C2)
  have b3 := b2.trans (q3.mono hs2)
  have CR3 := CR2.next q3
  clear C2 b2 hs2 q3 CR2
  go_upto_region 3 with ((with_reducible apply at_store_new 40); (case hx => exact rfl); (case hy => exact rfl); (case hg => first | rfl | simp); (case hi => kernel_rfl); (case hold => rfl); (case h1 => kernel_rfl))
  have U4 := heap_alloc_new w3 (.cells (cfC us0 nilS nilS) 40)
  have q4 : Below w3.heap.size w3 (w3.alloc (.cells (cfC us0 nilS nilS) 40)) := (Below.refl _ w3).alloc (Nat.le_refl _) _
  have C4 := below_at q4 C3 (heap_lt C3)
  have b4 := b3.trans (q4.mono b3.size)
  have CR4 := CR3.next q4
  obtain ⟨gu, hgu⟩ : ∃ g, w3.heap.size = g := ⟨_, rfl⟩
  have hne : gc ≠ gu := by have := heap_lt C3; omega
  have hwu : w.heap.size ≤ gu := by have := b3.size; omega
  rw [hgu] at U4 ⊢
  generalize w3.alloc (.cells (cfC us0 nilS nilS) 40) = w4 at C4 U4 b4 CR4 ⊢
  clear q4 C3 b3 hgu CR3
  go_upto_region 4 with ((with_reducible apply at_store_one 3); (case hx => exact rfl); (case hy => exact rfl); (case hg => exact U4); (case hle => simp); (case hv => rfl); (case hi => kernel_rfl); (case h1 => rfl); (intro w5 g5 P5; replace P5 := Lib.hid P5))
  have U5 : w5.heap[gu]? = some (.cells (cfC c60 nilS nilS) 40 (0, 0)) := P5.out
  have C5 := grown_at g5 C4 hne
  have b5 := below_grown b4 g5 b4.size hwu
  have CR5 : CR w5 w5.heap.size g60 A n A2 n2 := CRz g5 CR4 (by have := CR4.nf; exact this) (by have := CR4.no; exact this)
  clear C4 U4 b4 g5 P5 hne hwu CR4
  have r0 : Below w5.heap.size w5 w5.drew := (Below.refl _ _).drew
  have KC := Ext.at_ (M := fun _ => False) (w := w5.drew) C5 (fun h => h)
  have KU := Ext.at_ (M := fun _ => False) (w := w5.drew) U5 (fun h => h)
  refine rg_begin (fun _ => False) (by kernel_rfl) ?_
  refine rg_take (v := ?_) 0 rfl (by kernel_rfl) (by kernel_rfl) (by kernel_rfl) (fun _ _ _ h => h) (by rfl) ?_ ?_; rotate_left
  · (intro x hx; go_simp; first | done | with_reducible rfl | (rw [if_pos (by omega)]; try with_reducible rfl) | (rw [if_neg (by omega)]; try with_reducible rfl))
  try simp only [Act.put, List.setIfInBounds_toArray, List.set_cons_zero, List.set_cons_succ]
  refine rg_take (v := ?_) 1 rfl (by kernel_rfl) (by kernel_rfl) (by kernel_rfl) (fun _ _ _ h => h) (by rfl) ?_ ?_; rotate_left
  · (intro x hx; go_simp; first | done | with_reducible rfl | (rw [if_pos (by omega)]; try with_reducible rfl) | (rw [if_neg (by omega)]; try with_reducible rfl))
  try simp only [Act.put, List.setIfInBounds_toArray, List.set_cons_zero, List.set_cons_succ]
  refine rg_take (v := ?_) 2 rfl (by kernel_rfl) (by kernel_rfl) (by kernel_rfl) (fun _ _ _ h => h) (by rfl) ?_ ?_; rotate_left
  · (intro x hx; go_simp; first | done | with_reducible rfl | (rw [if_pos (by omega)]; try with_reducible rfl) | (rw [if_neg (by omega)]; try with_reducible rfl))
  try simp only [Act.put, List.setIfInBounds_toArray, List.set_cons_zero, List.set_cons_succ]
  refine rg_take (v := ?_) 3 rfl (by kernel_rfl) (by kernel_rfl) (by kernel_rfl) (fun _ _ _ h => h) (by rfl) ?_ ?_; rotate_left
  · (intro x hx; go_simp; first | done | with_reducible rfl | (rw [if_pos (by omega)]; try with_reducible rfl) | (rw [if_neg (by omega)]; try with_reducible rfl))
  try simp only [Act.put, List.setIfInBounds_toArray, List.set_cons_zero, List.set_cons_succ]
  refine rg_take (v := ?_) 4 rfl (by kernel_rfl) (by kernel_rfl) (by kernel_rfl) (fun _ _ _ h => h) (by rfl) ?_ ?_; rotate_left
  · (intro x hx; go_simp; first | done | with_reducible rfl | (rw [if_pos (by omega)]; try with_reducible rfl) | (rw [if_neg (by omega)]; try with_reducible rfl))
  try simp only [Act.put, List.setIfInBounds_toArray, List.set_cons_zero, List.set_cons_succ]
  refine rg_take (v := ?_) 5 rfl (by kernel_rfl) (by kernel_rfl) (by kernel_rfl) (fun _ _ _ h => h) (by rfl) ?_ ?_; rotate_left
  · (intro x hx; go_simp; first | done | with_reducible rfl | (rw [if_pos (by omega)]; try with_reducible rfl) | (rw [if_neg (by omega)]; try with_reducible rfl))
  try simp only [Act.put, List.setIfInBounds_toArray, List.set_cons_zero, List.set_cons_succ]
  refine rg_take (v := ?_) 6 rfl (by kernel_rfl) (by kernel_rfl) (by kernel_rfl) (fun _ _ _ h => h) (by rfl) ?_ ?_; rotate_left
  · (intro x hx; go_simp; first | done | with_reducible rfl | (rw [if_pos (by omega)]; try with_reducible rfl) | (rw [if_neg (by omega)]; try with_reducible rfl))
  try simp only [Act.put, List.setIfInBounds_toArray, List.set_cons_zero, List.set_cons_succ]
  refine rg_take (v := .agg (cfC c60 (.slice A n k) (.slice A2 n2 k2))) 7 rfl (by kernel_rfl) (by kernel_rfl) (by kernel_rfl) (fun _ _ _ h => h) (by rfl) ?_ ?_
  · (intro x hx; apply run_load_big; (case ho => exact rfl); (case hv => exact rfl); (case hg => exact KC x hx); (case hu => exact Tryz.underlying32); (case hd => rfl); (case hi => kernel_rfl))
  try simp only [Act.put, List.setIfInBounds_toArray, List.set_cons_zero, List.set_cons_succ]
  refine rg_take (v := .agg (cfC c60 nilS nilS)) 9 rfl (by kernel_rfl) (by kernel_rfl) (by kernel_rfl) (fun _ _ _ h => h) (by rfl) ?_ ?_
  · (intro x hx; apply run_load_big; (case ho => exact rfl); (case hv => exact rfl); (case hg => exact KU x hx); (case hu => exact Tryz.underlying40); (case hd => rfl); (case hi => kernel_rfl))
  try simp only [Act.put, List.setIfInBounds_toArray, List.set_cons_zero, List.set_cons_succ]
  refine rg_step 8 rfl (by kernel_rfl) (by rfl) (fun K hK => ?_)
  go_simp
  refine (own_all _ g60 A n k A2 n2 k2 (CR5.next r0)).mono ?_
  rintro e u1 ⟨Oa, on, ok, Oa2, on2, ok2, rfl, _, _, OC, p1⟩
  replace r0 := r0.trans (p1.mono r0.size)
  have KC := Ext.at_ (M := fun _ => False) (w := u1) (below_at r0 C5 (heap_lt C5)) (fun h => h)
  have KU := Ext.at_ (M := fun _ => False) (w := u1) (below_at r0 U5 (heap_lt U5)) (fun h => h)
  refine hK.out _ _ (Ext.below_all _ p1) ?_
  clear hK K; try simp only [Act.put, List.setIfInBounds_toArray, List.set_cons_zero, List.set_cons_succ]
  refine rg_step 10 rfl (by kernel_rfl) (by rfl) (fun K hK => ?_)
  go_simp
  refine (same_all _ g60 Oa on ok Oa2 on2 ok2 OC none 0 0 none 0 0 (CR.zero _ _)).mono ?_
  rintro e u1 ⟨rfl, p1⟩
  replace r0 := r0.trans (p1.mono r0.size)
  have KC := Ext.at_ (M := fun _ => False) (w := u1) (below_at r0 C5 (heap_lt C5)) (fun h => h)
  refine hK.out _ _ (Ext.below_all _ p1) ?_
  clear hK K; try simp only [Act.put, List.setIfInBounds_toArray, List.set_cons_zero, List.set_cons_succ]
  refine rg_take (v := ?_) 11 rfl (by kernel_rfl) (by kernel_rfl) (by kernel_rfl) (fun _ _ _ h => h) (by rfl) ?_ ?_; rotate_left
  · (intro x hx; go_simp; first | done | with_reducible rfl | (rw [if_pos (by omega)]; try with_reducible rfl) | (rw [if_neg (by omega)]; try with_reducible rfl))
  try simp only [Act.put, List.setIfInBounds_toArray, List.set_cons_zero, List.set_cons_succ]
  refine rg_take (v := ?_) 12 rfl (by kernel_rfl) (by kernel_rfl) (by kernel_rfl) (fun _ _ _ h => h) (by rfl) ?_ ?_; rotate_left
  · (intro x hx; go_simp; first | done | with_reducible rfl | (rw [if_pos (by omega)]; try with_reducible rfl) | (rw [if_neg (by omega)]; try with_reducible rfl))
  try simp only [Act.put, List.setIfInBounds_toArray, List.set_cons_zero, List.set_cons_succ]
  refine rg_step 13 rfl (by kernel_rfl) (by rfl) (fun K hK => ?_)
  go_simp
  refine (usual_any _).mono ?_
  rw [usC_eq]
  rintro e u1 ⟨rfl, p1⟩
  replace r0 := r0.trans (p1.mono r0.size)
  have KC := Ext.at_ (M := fun _ => False) (w := u1) (below_at r0 C5 (heap_lt C5)) (fun h => h)
  refine hK.out _ _ (Ext.below_all _ p1) ?_
  clear hK K; try simp only [Act.put, List.setIfInBounds_toArray, List.set_cons_zero, List.set_cons_succ]
  refine rg_step 14 rfl (by kernel_rfl) (by rfl) (fun K hK => ?_)
  go_simp
  refine (own_all _ ⟨us0, [], []⟩ none 0 0 none 0 0 (CR.zero _ _)).mono ?_
  rintro e u1 ⟨Va, vn, vk, Va2, vn2, vk2, rfl, _, _, VC, p1⟩
  replace r0 := r0.trans (p1.mono r0.size)
  have KC := Ext.at_ (M := fun _ => False) (w := u1) (below_at r0 C5 (heap_lt C5)) (fun h => h)
  refine hK.out _ _ (Ext.below_all _ p1) ?_
  clear hK K
  refine rg_step 15 rfl (by kernel_rfl) (by rfl) (fun K hK => ?_)
  go_simp
  refine (usual10_any _).mono ?_
  rintro e u1 ⟨rfl, p1⟩
  replace r0 := r0.trans (p1.mono r0.size)
  have KC := Ext.at_ (M := fun _ => False) (w := u1) (below_at r0 C5 (heap_lt C5)) (fun h => h)
  have VC := VC.next p1
  refine hK.out _ _ (Ext.below_all _ p1) ?_
  clear hK K; try simp only [Act.put, List.setIfInBounds_toArray, List.set_cons_zero, List.set_cons_succ]
  refine rg_step 16 rfl (by kernel_rfl) (by rfl) (fun K hK => ?_)
  go_simp
  refine (same_all _ ⟨us0, [], []⟩ Va vn vk Va2 vn2 vk2 VC none 0 0 none 0 0 (CR.zero _ _)).mono ?_
  rintro e u1 ⟨rfl, p1⟩
  replace r0 := r0.trans (p1.mono r0.size)
  have KC := Ext.at_ (M := fun _ => False) (w := u1) (below_at r0 C5 (heap_lt C5)) (fun h => h)
  refine hK.out _ _ (Ext.below_all _ p1) ?_
  clear hK K; try simp only [Act.put, List.setIfInBounds_toArray, List.set_cons_zero, List.set_cons_succ]
  refine rg_take (v := ?_) 17 rfl (by kernel_rfl) (by kernel_rfl) (by kernel_rfl) (fun _ _ _ h => h) (by rfl) ?_ ?_; rotate_left
  · (intro x hx; go_simp; first | done | with_reducible rfl | (rw [if_pos (by omega)]; try with_reducible rfl) | (rw [if_neg (by omega)]; try with_reducible rfl))
  try simp only [Act.put, List.setIfInBounds_toArray, List.set_cons_zero, List.set_cons_succ]
  refine rg_take (v := ?_) 18 rfl (by kernel_rfl) (by kernel_rfl) (by kernel_rfl) (fun _ _ _ h => h) (by rfl) ?_ ?_; rotate_left
  · (intro x hx; go_simp; first | done | with_reducible rfl | (rw [if_pos (by omega)]; try with_reducible rfl) | (rw [if_neg (by omega)]; try with_reducible rfl))
  try simp only [Act.put, List.setIfInBounds_toArray, List.set_cons_zero, List.set_cons_succ]
  refine rg_take (v := .agg (cfC c60 (.slice A n k) (.slice A2 n2 k2))) 19 rfl (by kernel_rfl) (by kernel_rfl) (by kernel_rfl) (fun _ _ _ h => h) (by rfl) ?_ ?_
  · (intro x hx; apply run_load_big; (case ho => exact rfl); (case hv => exact rfl); (case hg => exact KC x hx); (case hu => exact Tryz.underlying32); (case hd => rfl); (case hi => kernel_rfl))
  try simp only [Act.put, List.setIfInBounds_toArray, List.set_cons_zero, List.set_cons_succ]
  refine rg_step 20 rfl (by kernel_rfl) (by rfl) (fun K hK => ?_)
  go_simp
  refine (check_all _ g60 A n k A2 n2 k2 (CR5.next r0)).mono ?_
  rw [aw_chk]
  rintro e u1 ⟨rfl, p1⟩
  replace r0 := r0.trans (p1.mono r0.size)
  refine hK.out _ _ (Ext.below_all _ p1) ?_
  clear hK K; try simp only [Act.put, List.setIfInBounds_toArray, List.set_cons_zero, List.set_cons_succ]
  refine rg_take (v := ?_) 21 rfl (by kernel_rfl) (by kernel_rfl) (by kernel_rfl) (fun _ _ _ h => h) (by rfl) ?_ ?_; rotate_left
  · (intro x hx; go_simp; first | done | with_reducible rfl | (rw [if_pos (by omega)]; try with_reducible rfl) | (rw [if_neg (by omega)]; try with_reducible rfl))
  try simp only [Act.put, List.setIfInBounds_toArray, List.set_cons_zero, List.set_cons_succ]
  refine rg_take (v := ?_) 22 rfl (by kernel_rfl) (by kernel_rfl) (by kernel_rfl) (fun _ _ _ h => h) (by rfl) ?_ ?_; rotate_left
  · (intro x hx; go_simp; first | done | with_reducible rfl | (rw [if_pos (by omega)]; try with_reducible rfl) | (rw [if_neg (by omega)]; try with_reducible rfl))
  try simp only [Act.put, List.setIfInBounds_toArray, List.set_cons_zero, List.set_cons_succ]
  refine rg_take (v := ?_) 23 rfl (by kernel_rfl) (by kernel_rfl) (by kernel_rfl) (fun _ _ _ h => h) (by rfl) ?_ ?_; rotate_left
  · (intro x hx; go_simp; first | done | with_reducible rfl | (rw [if_pos (by omega)]; try with_reducible rfl) | (rw [if_neg (by omega)]; try with_reducible rfl))
  try simp only [Act.put, List.setIfInBounds_toArray, List.set_cons_zero]
  refine rg_done (by kernel_rfl) ?_
  go_wp2_with fail
  go_ret
  exact ⟨rfl, b5.trans (r0.mono b5.size)⟩
end
end Go.Proofs.YtnmdiageigbphaaGreatDoor
