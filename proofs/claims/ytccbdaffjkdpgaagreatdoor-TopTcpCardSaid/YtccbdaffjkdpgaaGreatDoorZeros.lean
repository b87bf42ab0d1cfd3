/-
  append(own row of bytes, make([]byte, k)...): k noughts more. A store of one cell into a block that is known whole.
-/
import Derived.Test.YtccbdaffjkdpgaaGreatDoorOctet6
import Derived.Stop.BytesEq
import Derived.Laws.MakeOwn
import Derived.Laws.OwnMore
import Derived.Test.YtccbdaffjkdpgaaGreatDoorBig
import Derived.Handy
namespace Go.Proofs.YtccbdaffjkdpgaaGreatDoor
section
open Go.RowKit

structure Mac6 where
  a : UInt8
  b : UInt8
  c : UInt8
  d : UInt8
  e : UInt8
  f : UInt8
def Mac6.bytes (m : Mac6) : List UInt8 := [m.a, m.b, m.c, m.d, m.e, m.f]
abbrev macV (m : Mac6) : Value := .agg #[.int .u8 (m.a.toNat : Int), .int .u8 (m.b.toNat : Int), .int .u8 (m.c.toNat : Int), .int .u8 (m.d.toNat : Int), .int .u8 (m.e.toNat : Int), .int .u8 (m.f.toNat : Int)]
def macOf (l : List UInt8) : Mac6 := ⟨l.getD 0 0, l.getD 1 0, l.getD 2 0, l.getD 3 0, l.getD 4 0, l.getD 5 0⟩
theorem splice_mac (l : List UInt8) (hl : l.length = 0 ∨ l.length = 6) :
    splice8 #[.int .u8 0, .int .u8 0, .int .u8 0, .int .u8 0, .int .u8 0, .int .u8 0] 0 l =
      #[.int .u8 ((macOf l).a.toNat : Int), .int .u8 ((macOf l).b.toNat : Int), .int .u8 ((macOf l).c.toNat : Int), .int .u8 ((macOf l).d.toNat : Int), .int .u8 ((macOf l).e.toNat : Int), .int .u8 ((macOf l).f.toNat : Int)] := by
  match l, hl with
  | [], _ => simp [splice8, bv, macOf]
  | [a, b, c, d, e, f], _ => simp [splice8, bv, macOf]
def meq (m o : Mac6) : Bool := m.bytes == o.bytes
theorem meq_iff (m o : Mac6) : meq m o = true ↔ m = o := by
  cases m; cases o; simp [meq, Mac6.bytes]
theorem run_eql_mac (w : World) (m o : Mac6) : (binOp .eql 45 (macV m) (macV o)).run Tryz.prog w = .ok (.bool (meq m o)) w :=
  run_eql_bytes (P := Tryz.prog) w 45 5 6 Tryz.underlying45 Tryz.underlying5 (fun w => by kernel_rfl) m.bytes o.bytes rfl rfl
end
section
open Go.RowKit

theorem run_make8 (k : Nat) (hk : k ≤ 1000000) (w : World) : (Instr.makeSlice 27 (.int .i64 (k : Int)) (.int .i64 (k : Int))).run Tryz.prog w =
    .ok (.slice (some ⟨w.heap.size, 0, none⟩) k k) (w.alloc (.cells (bv (List.replicate k 0)).toArray 5)) := by
  obtain ⟨i0, hi, hz0, hz1, hz2⟩ := info_parts infoU8
  have hr := run_make (P := Tryz.prog) w 27 5 i0 (.int .u8 0) Tryz.underlying27 hi hz0 .i64 .i64 (k : Int) (k : Int) (by omega) (by omega) (by rw [hz2]; omega) (by omega)
  simp only [Int.toNat_natCast] at hr
  rw [hr, hz1]
  have e : madeCells (Value.int .u8 0).cells (k * 1) = (bv (List.replicate k 0)).toArray := by
    have h1 := toList_madeCells_one (.int .u8 0) k
    rw [Nat.mul_one]
    have h2 : (madeCells (Value.int .u8 0).cells k).toList = bv (List.replicate k 0) := by
      rw [show (Value.int .u8 0).cells = #[Value.int .u8 0] by rfl, h1]
      simp [bv]
    rw [← h2]
  rw [e]
theorem bs_zeros (w : World) (k : Nat) (hk : k ≤ 1000000) : BS (w.alloc (.cells (bv (List.replicate k 0)).toArray 5)) (w.alloc (.cells (bv (List.replicate k 0)).toArray 5)).heap.size (some ⟨w.heap.size, 0, none⟩) k k (List.replicate k 0) := by
  have := BS.block (List.replicate k 0) (heap_alloc_new w (.cells (bv (List.replicate k 0)).toArray 5)) rfl (by simp [maxLen]; omega)
  simpa using this

theorem bs_zeros_at (w : World) (g k : Nat) (hg : w.heap.size = g) (hk : k ≤ 1000000) : BS (w.alloc (.cells (bv (List.replicate k 0)).toArray 5)) (w.alloc (.cells (bv (List.replicate k 0)).toArray 5)).heap.size (some ⟨g, 0, none⟩) k k (List.replicate k 0) := by
  subst hg; exact bs_zeros w k hk
end
section
open Go.RowKit

/-- An address. -/
structure Ad4 where
  a : UInt8
  b : UInt8
  c : UInt8
  d : UInt8
def Ad4.bytes (m : Ad4) : List UInt8 := [m.a, m.b, m.c, m.d]
abbrev adC (m : Ad4) : Array Value := #[.int .u8 (m.a.toNat : Int), .int .u8 (m.b.toNat : Int), .int .u8 (m.c.toNat : Int), .int .u8 (m.d.toNat : Int)]
abbrev adV (m : Ad4) : Value := .agg (adC m)
def adOf (l : List UInt8) : Ad4 := ⟨l.getD 0 0, l.getD 1 0, l.getD 2 0, l.getD 3 0⟩
theorem splice_ad (l : List UInt8) (hl : l.length = 0 ∨ l.length = 4) :
    splice8 #[.int .u8 0, .int .u8 0, .int .u8 0, .int .u8 0] 0 l =
      #[.int .u8 ((adOf l).a.toNat : Int), .int .u8 ((adOf l).b.toNat : Int), .int .u8 ((adOf l).c.toNat : Int), .int .u8 ((adOf l).d.toNat : Int)] := by
  match l, hl with
  | [], _ => simp [splice8, bv, adOf]
  | [a, b, c, d], _ => simp [splice8, bv, adOf]
def of4 (n : Int) : Ad4 := ⟨bN (n / 16777216), bN (n / 65536), bN (n / 256), bN n⟩
theorem of4_be (x y z u : UInt8) : of4 (beN [x, y, z, u]) = ⟨x, y, z, u⟩ := by
  have hx := x.toNat_lt
  have hy := y.toNat_lt
  have hz := z.toNat_lt
  have hu := u.toNat_lt
  have e : (beN [x, y, z, u] : Int) = (((x.toNat : Int) * 256 + y.toNat) * 256 + z.toNat) * 256 + u.toNat := by simp [beN]
  have k : ∀ (v : Int) (b : UInt8), v % 256 = (b.toNat : Int) → bN v = b := fun v b h => UInt8.toNat_inj.1 (by have := bN_val v; omega)
  unfold of4
  rw [e, k _ x (by omega), k _ y (by omega), k _ z (by omega), k _ u (by omega)]

set_option maxRecDepth 100000 in
set_option maxHeartbeats 1000000 in
theorem of4_any (w : World) (n : Int) (h0 : 0 ≤ n) (h1 : n < 4294967296) :
    Calls Tryz.prog 300 #[.int .u32 n] w (fun e w' => e = .returned (adV (of4 n)) ∧ Below w.heap.size w w') := by
  have e1 := bN_val (n / 16777216)
  have e2 := bN_val (n / 65536)
  have e3 := bN_val (n / 256)
  have e4 := bN_val n
  go_enter Tryz.func300, Tryz.ntmps300
  go_wp2_with ((with_reducible apply at_store_new 26); (case hx => exact rfl); (case hy => exact rfl); (case hg => first | rfl | simp); (case hi => kernel_rfl); (case hold => rfl); (case h1 => kernel_rfl))
  refine bodyPost_cell w.heap.size _ _ _ rfl rfl (heap_alloc_at rfl) Tryz.underlying26 rfl (by kernel_rfl) rfl ⟨?_, by go_grown⟩
  have e1' : ((bN (n / 16777216)).toNat : Int) = n / 16777216 := by omega
  show _ = Ending.returned (.agg #[.int .u8 ((bN (n / 16777216)).toNat : Int), .int .u8 ((bN (n / 65536)).toNat : Int), .int .u8 ((bN (n / 256)).toNat : Int), .int .u8 ((bN n).toNat : Int)])
  rw [e1', e2, e3, e4]
end
section
open Go.RowKit

theorem zeroCells_one (z : Value) (k : Nat) : Builtin.zeroCells #[z] k = (List.replicate k z).toArray := by
  apply Array.ext
  · simp [Builtin.zeroCells]
  · intro i h1 h2
    simp [Builtin.zeroCells, Nat.mod_one]
theorem bv_zeros (k : Nat) : bv (List.replicate k 0) = List.replicate k (.int .u8 0) := by simp [bv]

set_option maxRecDepth 100000 in
theorem run_appZ_grow (w : World) (ty : TypeId) (base : Option Addr) (sLen sCap : Nat) (olds : List Value)
    (hold : (Builtin.firstCells 1 sLen (.slice base sLen sCap)).run Tryz.prog w.drew = .ok olds.toArray w.drew) (k : Nat) (h0 : 0 < k) (hg : sCap < sLen + k) (hle : sLen + k ≤ 140737488355328) :
    (Builtin.append_ #[27, 3] ty #[.slice base sLen sCap, .int .i64 (k : Int)]).run Tryz.prog w =
      .ok (.slice (some ⟨w.heap.size, 0, none⟩) (sLen + k) (grownCap w (sLen + k) sCap 5))
        (w.drew.alloc (.cells ((olds ++ bv (List.replicate k 0)).toArray ++ Builtin.zeroCells #[.int .u8 0] (grownCap w (sLen + k) sCap 5 - (sLen + k))) 5)) := by
  obtain ⟨i0, hi, hz0, hz1, hz2⟩ := info_parts infoU8
  have hn : ¬ (sLen + k ≤ sCap) := by omega
  have hw : IntKind.i64.wrap (k : Int) = (k : Int) := IntWalk.i64_in _ (by omega)
  have h63' : ¬ (9223372036854775807 < ((sLen : Int) + (k : Int))) := by omega
  have hkn : ¬ ((k : Int) < 0) := by omega
  have hk48 : ¬ (281474976710656 < (k : Int)) := by omega
  have hf := growslice_fits (need := sLen + k) (old := sCap) (bytes := 1) (by omega) (by omega)
  have h48' : ¬ (281474976710656 < Builtin.nextslicecap (sLen + k) sCap) := by omega
  have hk0 : ¬ k = 0 := by omega
  have hzc : Builtin.zeroCells (Value.int .u8 0).cells k = (bv (List.replicate k 0)).toArray := by
    rw [bv_zeros, ← zeroCells_one]
    rfl
  have e1 := Tryz.underlying3
  simp [Builtin.append_, run_underlying Tryz.underlying27, run_underlying e1, sizeOf, typeInfo, zeroValue, hi, hz0, hz1, hz2, hw, hkn, hk48, hn, h63', h48', hk0, Question.forced, hold, newRow, grownCap, asInt, asIntOf, hzc]
  congr 2
  apply Array.ext'
  simp [Value.cells]

set_option maxRecDepth 100000 in
theorem run_appZ_room (w : World) (ty : TypeId) (g n cap : Nat) (cur : Array Value) (e : TypeId) (hg : w.heap[g]? = some (.cells cur e (0, 0))) (k : Nat) (h0 : 0 < k) (hroom : n + k ≤ cap) (hfit : n + k ≤ cur.size) (hle : n + k ≤ 140737488355328) :
    (Builtin.append_ #[27, 3] ty #[.slice (some ⟨g, 0, none⟩) n cap, .int .i64 (k : Int)]).run Tryz.prog w =
      .ok (.slice (some ⟨g, 0, none⟩) (n + k) cap) (w.setCells g n (bv (List.replicate k 0))) := by
  obtain ⟨i0, hi, hz0, hz1, hz2⟩ := info_parts infoU8
  have hw : IntKind.i64.wrap (k : Int) = (k : Int) := IntWalk.i64_in _ (by omega)
  have hkn : ¬ ((k : Int) < 0) := by omega
  have hk48 : ¬ (281474976710656 < (k : Int)) := by omega
  have hk0 : ¬ k = 0 := by omega
  have hzc : Builtin.zeroCells (Value.int .u8 0).cells k = (bv (List.replicate k 0)).toArray := by
    rw [bv_zeros, ← zeroCells_one]
    rfl
  have e1 := Tryz.underlying3
  have hst := run_storeCells_cells (P := Tryz.prog) g n (bv (List.replicate k 0)) 0 w
    (fun j hj => by
      rw [bv_length, List.length_replicate] at hj
      rw [cell_of_row w g _ cur e _ hg, Array.getElem?_eq_getElem (by omega)]
      rfl)
    (fun j hj => frozen_of_row w g _ cur e hg) (bv_one _)
  simp only [Nat.add_zero] at hst
  simp [Builtin.append_, run_underlying Tryz.underlying27, run_underlying e1, sizeOf, typeInfo, zeroValue, hi, hz0, hz1, hz2, hw, hkn, hk48, hk0, hroom, asInt, asIntOf, hzc, Addr.add_lit, hst]

set_option maxRecDepth 100000 in
theorem run_appZ (w : World) (ty : TypeId) (H : Nat) (A : Option Addr) (n c : Nat) (l : List UInt8) (hown : OB w H A n c l) (k : Nat) (hlen : l.length + k ≤ 140737488355328) (hbase : H ≤ w.heap.size) :
    ∃ A' c' w', (Builtin.append_ #[27, 3] ty #[.slice A n c, .int .i64 (k : Int)]).run Tryz.prog w = .ok (.slice A' (n + k) c') w' ∧
      OB w' H A' (n + k) c' (l ++ List.replicate k 0) ∧ w.grownBy w' (Value.slice A n c).ownBlock := by
  obtain ⟨rfl, hown⟩ := hown
  obtain ⟨i0, hi, hz0, hz1, hz2⟩ := info_parts infoU8
  have e1 := Tryz.underlying3
  have hmx : l.length + k ≤ maxLen := by unfold maxLen; omega
  rcases Nat.eq_zero_or_pos k with rfl | hk
  · refine ⟨A, c, w, ?_, ⟨by simp, by simpa using hown⟩, World.grownBy.refl w _⟩
    rcases hown.2 with ⟨hv, h0⟩ | ⟨g, cap, cur, hv, _, _, hnc, _⟩
    · injection hv with e1' e2 e3
      subst e1'; subst e3
      simp [Builtin.append_, run_underlying Tryz.underlying27, run_underlying e1, sizeOf, typeInfo, hi, hz2, asInt, asIntOf, h0, show IntKind.i64.wrap 0 = 0 from rfl]
    · injection hv with e1' e2 e3
      subst e1'; subst e3
      simp [Builtin.append_, run_underlying Tryz.underlying27, run_underlying e1, sizeOf, typeInfo, hi, hz2, asInt, asIntOf, hnc, storeCells, show IntKind.i64.wrap 0 = 0 from rfl]
  · have grown : ∀ old, old < l.length + k → ∀ row : Option Nat,
        OB (w.drew.alloc (.cells ((bv l ++ bv (List.replicate k 0)).toArray ++ Builtin.zeroCells #[.int .u8 0] (grownCap w (l.length + k) old 5 - (l.length + k))) 5)) H
          (some ⟨w.heap.size, 0, none⟩) (l.length + k) (grownCap w (l.length + k) old 5) (l ++ List.replicate k 0) ∧
        w.grownBy (w.drew.alloc (.cells ((bv l ++ bv (List.replicate k 0)).toArray ++ Builtin.zeroCells #[.int .u8 0] (grownCap w (l.length + k) old 5 - (l.length + k))) 5)) row := by
      intro old ho row
      have hge := grownCap_ge w (l.length + k) old 5
      have hcm : grownCap w (l.length + k) old 5 ≤ maxLen := grownCap_le_maxLen w (l.length + k) old 5 hmx
      refine ⟨⟨by simp, by simp [bv_length], .inr ⟨w.heap.size, _, _, rfl, hbase, heap_alloc_new w.drew _, hge, hcm, ?_, ?_⟩⟩, ⟨rfl, rfl, rfl, by simp, fun j hj _ => Below.heap_alloc w.drew _ j hj⟩⟩
      · simp [zeroCells_one, bv_length]
        omega
      · have e2 : (l.length + k) * 1 = (bv l ++ bv (List.replicate k 0)).length := by simp [bv_length]
        rw [e2, Array.toList_append, bv_append]
        exact List.take_left
    rcases hown.2 with ⟨hv, h0⟩ | ⟨g, cap, cur, hv, hbg, hg, hnc, hcm, hcs, htake⟩
    · injection hv with e1' e2 e3
      subst e1'; subst e3
      obtain rfl : l = [] := List.eq_nil_of_length_eq_zero h0
      have hg := grown 0 (by simp; omega) (Value.slice none ([] : List UInt8).length 0).ownBlock
      exact ⟨_, _, _, run_appZ_grow w ty none 0 0 [] (run_firstCells_none w.drew 1 0 0 0) k hk (by omega) (by simpa using hlen), hg.1, hg.2⟩
    · injection hv with e1' e2 e3
      subst e1'; subst e3
      by_cases hroom : l.length + k ≤ c
      · have hfit : l.length + k ≤ cur.size := by omega
        have hb := (heap_setCells (bv (List.replicate k 0)) l.length cur w hg).trans (by rw [putAt_eq _ _ _ (by simpa [bv_length] using hfit)])
        refine ⟨_, _, _, run_appZ_room w ty g l.length c cur 5 hg k hk hroom hfit hlen, ⟨by simp, by simp [bv_length], .inr ⟨g, c, _, rfl, hbg, hb, hroom, hcm, ?_, ?_⟩⟩, grown_setCells _ _ _ (World.grownBy.refl w _)⟩
        · simp [spliceAt, bv_length]; omega
        · have h1 : cur.toList.take l.length = bv l := by rw [← htake, Nat.mul_one]
          have e2 : (l.length + k) * 1 = (bv l ++ bv (List.replicate k 0)).length := by simp [bv_length]
          rw [spliceAt, h1, bv_append, e2, ← List.append_assoc]
          exact List.take_left
      · have holds : ∀ j u, (bv l)[j]? = some u → w.drew.cell? ((⟨g, 0, none⟩ : Addr).add j) = some u := by
          intro j u hu
          have := hown.cells (g := g) rfl j u hu
          simpa using this
        have hg' := grown c (by omega) (Value.slice (some ⟨g, 0, none⟩) l.length c).ownBlock
        exact ⟨_, _, _, run_appZ_grow w ty (some ⟨g, 0, none⟩) l.length c (bv l) (run_firstCells_some w.drew 1 l.length _ _ c (bv l) (by simp [bv_length]) holds) k hk (by omega) hlen, hg'.1, hg'.2⟩

theorem wp_appZ {w : World} {o : Oper} {a : Act} {K : Act → World → Prop} {Q : Exit → Act → World → Prop} (s x : Operand)
    (ho : o.op = .call { callee := .builtin .append, args := #[s, x], argTypes := #[27, 3] })
    (H : Nat) (A : Option Addr) (n c : Nat) (l : List UInt8) (hs : a.eval s = .slice A n c) (hown : OB w H A n c l)
    (k : Nat) (hx : a.eval x = .int .i64 (k : Int)) (hlen : l.length + k ≤ 140737488355328) (hbase : H ≤ w.heap.size)
    (h : ∀ A' n' c' w', OB w' H A' n' c' (l ++ List.replicate k 0) → Below H w w' → w.grownBy w' (Value.slice A n c).ownBlock → K (a.put o.dst (.slice A' n' c')) w') : o.wp Tryz.prog a w K Q := by
  obtain ⟨A', c', w', hrun, h1, h2⟩ := run_appZ w o.type H A n c l hown k hlen hbase
  unfold Oper.wp execOp
  simp only [ho, resolve, invoke, builtin, Sem.run_bind, Sem.run_pure, Result.andThen_ok, List.map_toArray, List.map_cons, List.map_nil, hs, hx, hrun]
  exact h A' _ c' w' h1 ((Below.refl H w).grown h2 hbase fun k hk => (hown.2.lt k hk).1) h2
theorem appZ {w : World} {ops : Array Oper} {rest : List Oper} {o : Oper} {a : Act} {Q : Exit → Act → World → Prop} (hgd : o.guard = none) (s x : Operand)
    (ho : o.op = .call { callee := .builtin .append, args := #[s, x], argTypes := #[27, 3] })
    (H : Nat) (A : Option Addr) (n c : Nat) (l : List UInt8) (hs : a.eval s = .slice A n c) (hown : OB w H A n c l)
    (k : Nat) (hx : a.eval x = .int .i64 (k : Int)) (hlen : l.length + k ≤ 140737488355328) (hbase : H ≤ w.heap.size)
    (h : ∀ A' n' c' w', OB w' H A' n' c' (l ++ List.replicate k 0) → Below H w w' → w.grownBy w' (Value.slice A n c).ownBlock → wpList Tryz.prog ops Q rest (a.put o.dst (.slice A' n' c')) w') : wpList Tryz.prog ops Q (o :: rest) a w :=
  wpList_plain hgd fun _ hK => wp_appZ s x ho H A n c l hs hown k hx hlen hbase fun A' n' c' w' h1 h2 h3 => hK _ _ (h A' n' c' w' h1 h2 h3)

/-- A store of one cell into a block that is known whole. -/
theorem run_storeVar_one {P : Program} (w : World) (b o : Nat) (ty : TypeId) (v : Value) (ht : w.there b o 1) (hv : v.cells = #[v]) (hi : (P.info? ty).map (·.size) = some 1) (h1 : v.oneCell' = true) :
    (storeVar ty ⟨b, o, none⟩ v).run P w = .ok () (w.setCells b o [v]) := by
  have := run_storeCells_cells (P := P) b o [v] 0 w (fun j hj => by simpa using (ht j (by simpa using hj)).1) (fun j hj => by simpa using (ht j (by simpa using hj)).2)
    (fun u hu => by rw [List.mem_singleton] at hu; rw [hu]; exact h1)
  cases hq : P.info? ty with
  | none => simp [hq] at hi
  | some i =>
    have hs : i.size = 1 := by simpa [hq] using hi
    simp only [Nat.add_zero] at this
    simp [storeVar, sizeOf, typeInfo, hq, hv, hs, this]
theorem wp_store_one {P : Program} {op : Oper} {a : Act} {w : World} {K : Act → World → Prop} {Q : Exit → Act → World → Prop} (ty : TypeId) (x y : Operand) (ho : op.op = .store ty x y)
    (b o : Nat) (v : Value) (hx : a.eval x = .pointer (some ⟨b, o, none⟩)) (hy : a.eval y = v)
    (t : TypeId) (cur : Array Value) (hg : w.heap[b]? = some (.cells cur t (0, 0))) (hle : o < cur.size) (hv : v.cells = #[v]) (hi : (P.info? ty).map (·.size) = some 1) (h1 : v.oneCell' = true)
    (h : ∀ w', w.grownBy w' (some b) → w'.heap[b]? = some (.cells (spliceAt cur o [v]) t (0, 0)) → K (a.put op.dst undef) w') : op.wp P a w K Q := by
  unfold Oper.wp execOp
  have hr := run_storeVar_one (P := P) w b o ty v (fun j hj => by
    obtain rfl : j = 0 := by omega
    refine ⟨?_, frozen_of_row w b (o + 0) cur t hg⟩
    rw [cell_of_row w b (o + 0) cur t _ hg, Array.getElem?_eq_getElem (by omega)]
    rfl) hv hi h1
  simp only [ho, hx, hy, Instr.storeAt, Instr.sureAddr, Sem.run_bind, Sem.run_pure, Result.andThen_ok, hr]
  exact h _ (grown_setCells _ _ _ (World.grownBy.refl w _)) ((heap_setCells _ _ _ _ hg).trans (by rw [putAt_eq _ _ _ (by simp; omega)]))
/-- The same at the head of a list of operations. -/
theorem at_store_one {P : Program} {ops : Array Oper} {rest : List Oper} {a : Act} {w : World} {Q : Exit → Act → World → Prop} (ty : TypeId) {d : Option Tmp} {T : TypeId} {pos : String} {aft : Array Edge} {x y : Operand}
    (b o : Nat) (v : Value) (hx : a.eval x = .pointer (some ⟨b, o, none⟩)) (hy : a.eval y = v)
    (t : TypeId) (cur : Array Value) (hg : w.heap[b]? = some (.cells cur t (0, 0))) (hle : o < cur.size) (hv : v.cells = #[v]) (hi : (P.info? ty).map (·.size) = some 1) (h1 : v.oneCell' = true)
    (h : ∀ w', w.grownBy w' (some b) → w'.heap[b]? = some (.cells (spliceAt cur o [v]) t (0, 0)) → wpList P ops Q rest (a.put d undef) w') : wpList P ops Q (⟨d, .store ty x y, T, pos, aft, none⟩ :: rest) a w :=
  wpList_plain rfl fun _ hK => wp_store_one ty x y rfl b o v hx hy t cur hg hle hv hi h1 fun w' h1 h2 => hK _ _ (h w' h1 h2)
end
end Go.Proofs.YtccbdaffjkdpgaaGreatDoor
