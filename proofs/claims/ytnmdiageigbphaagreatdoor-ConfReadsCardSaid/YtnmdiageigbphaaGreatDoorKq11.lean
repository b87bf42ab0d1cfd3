/-
  conf: maps whose keys are addresses, devices' addresses, pairs of numbers; device.
-/
import Derived.Test.YtnmdiageigbphaaGreatDoorKq7
import Derived.Test.YtnmdiageigbphaaGreatDoorKp15
import Derived.Test.YtnmdiageigbphaaGreatDoorFrame
import Derived.DeepKeys4
import Derived.Test.YtnmdiageigbphaaGreatDoorBig
namespace Go.Proofs.YtnmdiageigbphaaGreatDoor
section
open Go.RowKit

/-- Block b is a map with keys of type t in which these keys (by their bytes) are true, at most N. -/
def KM (t : TypeId) (w : World) (b N : Nat) (S : List (List UInt8)) : Prop :=
  ∃ D : DataW Unit, w.ownsMap Tryz.prog t (plainElem Tryz.prog 4) b N D ∧ ∀ s : List UInt8, D.atKey (.string s) (.lit (.bool false)) = .lit (.bool (decide (s ∈ S)))
section
variable {t : TypeId} {w w' : World} {b N : Nat} {S : List (List UInt8)}
theorem KM.made (t : TypeId) (w : World) : KM t (w.alloc (.map #[] 0)) w.heap.size 0 [] := ⟨.map [], World.ownsMap_made w _ _ _, fun s => by simp [DataW.atKey]⟩
theorem KM.below (h : KM t w b N S) (hb : Below w.heap.size w w') : KM t w' b N S :=
  let ⟨D, h1, h2⟩ := h
  ⟨D, h1.kept (grown_of_below none hb) (by simp), h2⟩
theorem KM.grown {g : Nat} (h : KM t w b N S) (hg : w.grownBy w' (some g)) (hne : b ≠ g) : KM t w' b N S :=
  let ⟨D, h1, h2⟩ := h
  ⟨D, h1.kept hg (by simpa using hne), h2⟩
theorem KM.lt (h : KM t w b N S) : b < w.heap.size := let ⟨_, h1, _⟩ := h; h1.lt
theorem KM.put {N' : Nat} {D : DataW Unit} (h1 : w.ownsMap Tryz.prog t (plainElem Tryz.prog 4) b N D) (h2 : ∀ s : List UInt8, D.atKey (.string s) (.lit (.bool false)) = .lit (.bool (decide (s ∈ S)))) (s : List UInt8)
    (h : w'.ownsMap Tryz.prog t (plainElem Tryz.prog 4) b N' (D.put (.string s) (.lit (.bool true)))) : KM t w' b N' (s :: S) := by
  refine ⟨_, h, fun x => ?_⟩
  by_cases hx : x = s
  · subst hx
    rw [Maps.atKey_put_same (k := .string x) h1.isMap trivial]
    simp
  · rw [Maps.atKey_put_other (by intro e; injection e with e; exact hx e), h2]
    simp [hx]
theorem KM.look (K : Maps.Keyed Tryz.prog t) {tm : TypeId} (ht : Tryz.prog.underlying tm = some (.map t 4)) (h : KM t w b N S) (key : Value) (s : List UInt8) (hk : keyOf Tryz.prog t key = some (.string s)) :
    (Instr.lookup tm (.map (some b)) key false).run Tryz.prog w = .ok (.bool (decide (s ∈ S))) w := by
  obtain ⟨D, h1, h2⟩ := h
  obtain ⟨v, ps, hrun, hv⟩ := h1.lookup K ht (Tryz.zeroValue4 w) (plainElem_bool Tryz.underlying4 false) hk
  rw [h2 s] at hv
  have hb : Tryz.prog.underlying 4 = some .bool := Tryz.underlying4
  unfold plainElem at hv
  rw [hb] at hv
  cases v <;> simp at hv
  rw [hrun, hv.1]
end
set_option maxRecDepth 100000 in
theorem lawAd : Maps.Keyed Tryz.prog 24 := Maps.Keyed.of_law (deep_law_laid frameLaid (m := 2) (by omega) (of_decide_eq_true (by kernel_rfl)) (by kernel_rfl) (by kernel_rfl))
set_option maxRecDepth 100000 in
theorem lawMac : Maps.Keyed Tryz.prog 28 := Maps.Keyed.of_law (deep_law_laid frameLaid (m := 2) (by omega) (of_decide_eq_true (by kernel_rfl)) (by kernel_rfl) (by kernel_rfl))
set_option maxRecDepth 100000 in
theorem lawTwo : Maps.Keyed Tryz.prog 121 := Maps.Keyed.of_law (deep_law_laid frameLaid (m := 2) (by omega) (of_decide_eq_true (by kernel_rfl)) (by kernel_rfl) (by kernel_rfl))
theorem cells1 : Tryz.prog.cellsOf 5 = 1 ∧ Tryz.prog.cellsOf 3 = 1 ∧ Tryz.prog.cellsOf 24 = 4 ∧ Tryz.prog.cellsOf 28 = 6 ∧ Tryz.prog.cellsOf 121 = 2 := by
  refine ⟨?_, ?_, ?_, ?_, ?_⟩ <;> kernel_rfl
theorem wf_byte (x : UInt8) : (Lit.int .u8 (x.toNat : Int)).wf = true := by
  have := x.toNat_lt
  simp [Lit.wf, IntKind.min, IntKind.max, IntKind.bits, IntKind.signed]
  omega
theorem key_byte (x : UInt8) : (Lit.int .u8 (x.toNat : Int)).keyBytes = [x] := by
  have := x.toNat_lt
  simp [Lit.keyBytes, bytesBE, bytesLE, IntKind.bits]
  apply UInt8.toNat_inj.1
  rw [UInt8.toNat_ofNat']
  omega
theorem typesTwo : ∃ d, Tryz.prog.types.size + 1 = d + 2 := ⟨Tryz.prog.types.size - 1, by have : 0 < Tryz.prog.types.size := of_decide_eq_true (by kernel_rfl); omega⟩
set_option maxRecDepth 100000 in
theorem key_ad (a : Ad4) : keyOf Tryz.prog 24 (adV a) = some (.string a.bytes) := by
  obtain ⟨d, hd⟩ := typesTwo
  obtain ⟨c1, _, c4, _, _⟩ := cells1
  have hk : Tryz.prog.keyType 24 = true := by kernel_rfl
  have hf : (adV a).formed Tryz.prog 24 = true := by kernel_rfl
  unfold keyOf
  rw [Tryz.underlying24]
  simp only [hk, hf, Bool.and_self, if_true, hd]
  simp [Program.keyLits, Tryz.underlying24, Tryz.underlying5, c1, c4, wf_byte, List.range_succ, Value.cells, keyBytes, key_byte, Ad4.bytes]
set_option maxRecDepth 100000 in
theorem key_mac (a : Mac6) : keyOf Tryz.prog 28 (macV a) = some (.string a.bytes) := by
  obtain ⟨d, hd⟩ := typesTwo
  obtain ⟨c1, _, _, c6, _⟩ := cells1
  have hk : Tryz.prog.keyType 28 = true := by kernel_rfl
  have hf : (macV a).formed Tryz.prog 28 = true := by kernel_rfl
  unfold keyOf
  rw [Tryz.underlying28]
  simp only [hk, hf, Bool.and_self, if_true, hd]
  simp [Program.keyLits, Tryz.underlying28, Tryz.underlying5, c1, c6, wf_byte, List.range_succ, Value.cells, keyBytes, key_byte, Mac6.bytes]
def twoK (x y : Int) : List UInt8 := bytesBE 8 (x % 18446744073709551616).toNat ++ bytesBE 8 (y % 18446744073709551616).toNat
set_option maxRecDepth 100000 in
theorem key_two (x y : Int) (hx : (Lit.int .i64 x).wf = true) (hy : (Lit.int .i64 y).wf = true) : keyOf Tryz.prog 121 (.agg #[.int .i64 x, .int .i64 y]) = some (.string (twoK x y)) := by
  obtain ⟨d, hd⟩ := typesTwo
  obtain ⟨_, c1, _, _, c2⟩ := cells1
  have hk : Tryz.prog.keyType 121 = true := by kernel_rfl
  have hf : (Value.agg #[.int .i64 x, .int .i64 y]).formed Tryz.prog 121 = true := by kernel_rfl
  unfold keyOf
  rw [Tryz.underlying121]
  simp only [hk, hf, Bool.and_self, if_true, hd]
  simp [Program.keyLits, Tryz.underlying121, Tryz.underlying3, c1, c2, hx, hy, List.range_succ, Value.cells, keyBytes, Lit.keyBytes, IntKind.bits, twoK]
theorem bytesLE_len : ∀ (w n : Nat), (bytesLE w n).length = w
  | 0, _ => rfl
  | w + 1, n => by rw [bytesLE, List.length_cons, bytesLE_len w]
theorem bytesLE_inj : ∀ (w : Nat) {a b : Nat}, a < 256 ^ w → b < 256 ^ w → bytesLE w a = bytesLE w b → a = b
  | 0, a, b, ha, hb, _ => by simp at ha hb; omega
  | w + 1, a, b, ha, hb, h => by
    rw [bytesLE, bytesLE] at h
    injection h with h1 h2
    have h3 := bytesLE_inj w (a := a / 256) (b := b / 256) (by rw [Nat.pow_succ] at ha; omega) (by rw [Nat.pow_succ] at hb; omega) h2
    have h4 := congrArg UInt8.toNat h1
    rw [UInt8.toNat_ofNat', UInt8.toNat_ofNat'] at h4
    omega
theorem twoK_inj {x y u v : Int} (hx : (Lit.int .i64 x).wf = true) (hy : (Lit.int .i64 y).wf = true) (hu : (Lit.int .i64 u).wf = true) (hv : (Lit.int .i64 v).wf = true) (h : twoK x y = twoK u v) : x = u ∧ y = v := by
  have a1 := wf_i64 hx; have a2 := wf_i64 hy; have a3 := wf_i64 hu; have a4 := wf_i64 hv
  unfold twoK bytesBE at h
  obtain ⟨h1, h2⟩ := List.append_inj h (by rw [List.length_reverse, List.length_reverse, bytesLE_len, bytesLE_len])
  have key : ∀ z : Int, (z % 18446744073709551616).toNat < 256 ^ 8 := fun z => by
    show _ < 18446744073709551616
    omega
  have h3 := bytesLE_inj 8 (key x) (key u) (List.reverse_inj.1 h1)
  have h4 := bytesLE_inj 8 (key y) (key v) (List.reverse_inj.1 h2)
  omega
theorem bytes_ad_inj {a b : Ad4} (h : a.bytes = b.bytes) : a = b := (adeq_iff a b).1 (by rw [adeq, h]; simp)
theorem bytes_mac_inj {a b : Mac6} (h : a.bytes = b.bytes) : a = b := by
  cases a; cases b; simp [Mac6.bytes] at h; simp [h]
/-- May an address be a device's? -/
def devB (c : Cf) (a : Ad4) : Bool := inB c a && !adeq a c.own
set_option maxRecDepth 100000 in
set_option maxHeartbeats 4000000 in
theorem dev_any (w : World) (c : Cf) (vf vo : Value) (a : Ad4) : Calls Tryz.prog 79 #[.agg (cfC c vf vo), adV a] w (fun e w' => e = .returned (.bool (devB c a)) ∧ Below w.heap.size w w') := by
  have hB : devB c a = (inB c a && !adeq a c.own) := rfl
  obtain ⟨t1, h1⟩ : ∃ b, inB c a = b := ⟨_, rfl⟩
  have n2 := fun w => run_neq_ad w a c.own
  obtain ⟨t2, h2⟩ : ∃ b, (!adeq a c.own) = b := ⟨_, rfl⟩
  rw [h1, h2] at hB
  simp only [h2] at n2
  have E1 := Lib.hid h1
  have HB := Lib.hid hB
  clear h1 h2 hB
  have P0 : ((w.alloc (.cells (cfC c vf vo) 32)).alloc (.cells (adC a) 24)).heap[w.heap.size]? = some (.cells (cfC c vf vo) 32 (0, 0)) := heap_alloc_of (heap_alloc_new w _)
  have A0 : ((w.alloc (.cells (cfC c vf vo) 32)).alloc (.cells (adC a) 24)).heap[w.heap.size + 1]? = some (.cells (adC a) 24 (0, 0)) := heap_alloc_at (by simp)
  have b0 : Below w.heap.size w ((w.alloc (.cells (cfC c vf vo) 32)).alloc (.cells (adC a) 24)) := ((Below.refl _ w).alloc (Nat.le_refl _) _).alloc (by simp) _
  go_enter Tryz.func79, Tryz.ntmps79
  go_upto_region 1 with fail
  generalize (w.alloc (.cells (cfC c vf vo) 32)).alloc (.cells (adC a) 24) = w1 at P0 A0 b0 ⊢
  obtain ⟨g, hg⟩ : ∃ g, w.heap.size = g := ⟨_, rfl⟩
  rw [hg] at P0 A0 ⊢
  have HG := Lib.hid hg
  clear hg
  go_wp2_with (first | ((with_reducible apply at_load_row 32); (case hx => exact rfl); (case hg => exact P0); (case hu => exact Tryz.underlying32); (case hd => rfl); (case hi => kernel_rfl)) | ((with_reducible apply at_load_row 24); (case hx => exact rfl); (case hg => exact A0); (case hu => exact Tryz.underlying24); (case hd => rfl); (case hi => kernel_rfl)))
  refine (inner_any w1 c vf vo a).mono ?_
  rw [E1.out]
  rintro e w2 ⟨rfl, q2⟩
  have P2 := below_at q2 P0 (heap_lt P0)
  have A2 := below_at q2 A0 (heap_lt A0)
  have b2 := b0.trans (q2.mono b0.size)
  have f2 := (cells_of P2).1
  clear P0 A0 b0 q2
  rcases t1 with _ | _
  · go_wp2_with fail
    go_ret
    exact ⟨by rw [HB.out]; rfl, by rw [HG.out] at b2; rw [HG.out]; exact b2⟩
  · go_wp2_with (first | ((with_reducible apply at_load_guard 24); (case hx => exact rfl); (case hg => exact A2); (case hw => first | rfl | kernel_rfl); (case hu => exact Tryz.underlying24); (case hd => rfl); (case hi => kernel_rfl)))
    go_ret
    exact ⟨by rw [HB.out]; rfl, by rw [HG.out] at b2; rw [HG.out]; exact b2⟩
end
section
open Go.RowKit

theorem wp_mapPut {w : World} {o : Oper} {a : Act} {Kk : Act → World → Prop} {Q : Exit → Act → World → Prop} (m x v : Operand) (tm : TypeId) (hop : o.op = Op.mapUpdate tm m x v) {t : TypeId} (K : Maps.Keyed Tryz.prog t)
    (ht : Tryz.prog.underlying tm = some (.map t 4)) (b N : Nat) (S : List (List UInt8)) (hm : a.eval m = .map (some b)) (h : KM t w b N S) (hn : N ≤ 1000000) (key : Value) (hx : a.eval x = key) (hv : a.eval v = .bool true)
    (s : List UInt8) (hkey : keyOf Tryz.prog t key = some (.string s)) (hK : ∀ w', KM t w' b (N + 1) (s :: S) → w.grownBy w' (some b) → Kk (a.put o.dst undef) w') : o.wp Tryz.prog a w Kk Q := by
  obtain ⟨D, h1, h2⟩ := h
  obtain ⟨w', hrun, r1, r2⟩ := h1.update K ht (by unfold maxLen; omega) hkey (plainElem_bool Tryz.underlying4 true)
  unfold Oper.wp
  simp [execOp, hop, hm, hx, hv, hrun, Result.andThen]
  exact hK _ (KM.put h1 h2 s r1) r2
theorem wpList_mapPut {w : World} {ops : Array Oper} {rest : List Oper} {o : Oper} {a : Act} {Q : Exit → Act → World → Prop} (hg : o.guard = none) (m x v : Operand) (tm : TypeId) (hop : o.op = Op.mapUpdate tm m x v) {t : TypeId} (K : Maps.Keyed Tryz.prog t)
    (ht : Tryz.prog.underlying tm = some (.map t 4)) (b N : Nat) (S : List (List UInt8)) (hm : a.eval m = .map (some b)) (h : KM t w b N S) (hn : N ≤ 1000000) (key : Value) (hx : a.eval x = key) (hv : a.eval v = .bool true)
    (s : List UInt8) (hkey : keyOf Tryz.prog t key = some (.string s)) (hK : ∀ w', KM t w' b (N + 1) (s :: S) → w.grownBy w' (some b) → wpList Tryz.prog ops Q rest (a.put o.dst undef) w') : wpList Tryz.prog ops Q (o :: rest) a w :=
  wpList_plain hg fun _ hK' => wp_mapPut m x v tm hop K ht b N S hm h hn key hx hv s hkey fun w' h1 h2 => hK' _ _ (hK w' h1 h2)
theorem fxL_get : ∀ (l : List Fx) (i : Nat) (f : Fx) (j : Nat), l[i]? = some f → j < 10 → (fxL l)[i * 10 + j]? = (fxC f)[j]?
  | g :: l, 0, f, j, h, hj => by
    obtain rfl : g = f := by simpa using h
    rw [show fxL (g :: l) = (fxC g).toList ++ fxL l by simp [fxL], Nat.zero_mul, Nat.zero_add, List.getElem?_append_left (by simpa using hj), Array.getElem?_toList]
  | g :: l, i + 1, f, j, h, hj => by
    rw [show fxL (g :: l) = (fxC g).toList ++ fxL l by simp [fxL], List.getElem?_append_right (by simp; omega), ← fxL_get l i f j (by simpa using h) hj]
    congr 1
    simp
    omega
theorem fx_range {w : World} {B b o : Nat} {l : List Fx} (h : Row w B (some ⟨b, o, none⟩) (fxL l)) {i : Nat} {f : Fx} (hf : l[i]? = some f) : w.rangeAt b (o + i * 10) (fxC f).toList := by
  intro j v hv
  have hj : j < 10 := by have := (List.getElem?_eq_some_iff.1 hv).1; simpa using this
  rcases h with h | ⟨b', o', e, _, hc⟩
  · have := fxL_get l i f j hf hj
    rw [h] at this
    rw [← Array.getElem?_toList, hv] at this
    cases this
  · injection e with e
    injection e with e1 e2
    subst e1 e2
    have := hc (i * 10 + j) v (by rw [fxL_get l i f j hf hj, ← Array.getElem?_toList, hv])
    rw [Nat.add_assoc]
    exact this
theorem fx_some {w : World} {B : Nat} {A : Option Addr} {l : List Fx} (h : Row w B A (fxL l)) {i : Nat} {f : Fx} (hf : l[i]? = some f) : ∃ b o, A = some ⟨b, o, none⟩ ∧ b < B := by
  rcases h with h | ⟨b', o', e, hb, _⟩
  · have := fxL_get l i f 0 hf (by omega)
    rw [h] at this
    simp at this
  · exact ⟨b', o', e, hb⟩
def fixGo (c : Cf) : List (List UInt8) → List (List UInt8) → List Fx → Bool
  | _, _, [] => true
  | sm, sa, f :: r => devB c f.a && !decide (f.m.bytes ∈ sm) && !decide (f.a.bytes ∈ sa) && fixGo c (f.m.bytes :: sm) (f.a.bytes :: sa) r
def fixB (c : Cf) (l : List Fx) : Bool := fixGo c [] [] l && decide (l.length ≤ 32)
set_option maxRecDepth 100000 in
set_option maxHeartbeats 8000000 in
theorem fixed_all (w : World) (c : Cf) (vo : Value) (A : Option Addr) (n k : Nat) (lf : List Fx) (hr : Row w w.heap.size A (fxL lf)) (hn : n = lf.length) (hl : n ≤ 100000) :
    Calls Tryz.prog 42 #[.agg (cfC c (.slice A n k) vo)] w (fun e w' => e = .returned (.bool (fixB c lf)) ∧ Below w.heap.size w w') := by
  have HN := Lib.hid hn
  have HR := Lib.hid hr
  have P0 : (((w.alloc (.cells (cfC c (.slice A n k) vo) 32)).alloc (.map #[] 0)).alloc (.map #[] 0)).heap[w.heap.size]? = some (.cells (cfC c (.slice A n k) vo) 32 (0, 0)) := heap_alloc_of (heap_alloc_of (heap_alloc_new w _))
  have M1 : KM 28 (((w.alloc (.cells (cfC c (.slice A n k) vo) 32)).alloc (.map #[] 0)).alloc (.map #[] 0)) (w.heap.size + 1) 0 [] := by
    have h := KM.made 28 (w.alloc (.cells (cfC c (.slice A n k) vo) 32))
    rw [show (w.alloc (.cells (cfC c (.slice A n k) vo) 32)).heap.size = w.heap.size + 1 by simp] at h
    exact h.below ((Below.refl _ _).alloc (Nat.le_refl _) _)
  have M2 : KM 24 (((w.alloc (.cells (cfC c (.slice A n k) vo) 32)).alloc (.map #[] 0)).alloc (.map #[] 0)) (w.heap.size + 1 + 1) 0 [] := by
    have h := KM.made 24 ((w.alloc (.cells (cfC c (.slice A n k) vo) 32)).alloc (.map #[] 0))
    rw [show ((w.alloc (.cells (cfC c (.slice A n k) vo) 32)).alloc (.map #[] 0)).heap.size = w.heap.size + 1 + 1 by simp] at h
    exact h
  have b0 : Below w.heap.size w (((w.alloc (.cells (cfC c (.slice A n k) vo) 32)).alloc (.map #[] 0)).alloc (.map #[] 0)) := (((Below.refl _ w).alloc (Nat.le_refl _) _).alloc (by simp) _).alloc (by simp; omega) _
  have hmm := @run_makeMap Tryz.prog
  clear hr hn
  go_enter Tryz.func42, Tryz.ntmps42
  go_upto_region 2 with fail
  generalize ((w.alloc (.cells (cfC c (.slice A n k) vo) 32)).alloc (.map #[] 0)).alloc (.map #[] 0) = w1 at P0 M1 M2 b0 ⊢
  obtain ⟨g, hg⟩ : ∃ g, w.heap.size = g := ⟨_, rfl⟩
  rw [hg] at P0 M1 M2 ⊢
  have HG := Lib.hid hg
  clear hg hmm
  have f0 := (cells_of P0).1
  go_wp2_with fail
  go_loopw [12] (fun v wr => ∃ (i : Nat) (sm sa : List (List UInt8)), v = .int .i64 i ∧ i ≤ n ∧ fixGo c [] [] lf = fixGo c sm sa (lf.drop i) ∧ KM 28 wr (g + 1) i sm ∧ KM 24 wr (g + 1 + 1) i sa ∧
      wr.heap[g]? = some (.cells (cfC c (.slice A n k) vo) 32 (0, 0)) ∧ Below w.heap.size w wr) (fun v _ => n - (intOf v).toNat)
  case atStart => exact ⟨0, [], [], rfl, Nat.zero_le _, rfl, M1, M2, P0, b0⟩
  case round =>
    clear M1 M2 P0 b0 f0
    obtain ⟨i, sm, sa, rfl, hi, hgo, M1, M2, P1, b1⟩ := hrel
    have HGO := Lib.hid hgo
    clear hgo
    rcases Nat.lt_or_ge i n with hlt | hge
    · have hlti : decide ((i : Int) < (n : Int)) = true := decide_eq_true (by omega)
      have hnn : (0 : Int) ≤ (i : Int) ∧ (i : Int) < (n : Int) := by omega
      obtain ⟨f, hf⟩ : ∃ f, lf[i]? = some f := ⟨lf[i]'(by have := HN.out; omega), List.getElem?_eq_getElem _⟩
      obtain ⟨b, o, rfl, hb⟩ := fx_some HR.out hf
      have hra := fx_range (HR.out.below b1) hf
      have HST := Lib.hid (show fixGo c [] [] lf = (devB c f.a && !decide (f.m.bytes ∈ sm) && !decide (f.a.bytes ∈ sa) && fixGo c (f.m.bytes :: sm) (f.a.bytes :: sa) (lf.drop (i + 1))) by
        rw [HGO.out, List.drop_eq_getElem_cons (by have := HN.out; omega), show lf[i]'(by have := HN.out; omega) = f by rw [List.getElem?_eq_getElem (by have := HN.out; omega)] at hf; injection hf]
        rfl)
      have HFB := Lib.hid (show fixB c lf = (fixGo c [] [] lf && decide (lf.length ≤ 32)) from rfl)
      have HLT := Lib.hid hlt
      have w64 : IntKind.i64.wrap ((i : Int) + 1) = (i : Int) + 1 := IntWalk.i64_in _ (by omega)
      clear hf hlt hi HGO
      go_upto_region 5 with (first | ((with_reducible apply at_load_mid 73); (case hx => exact rfl); (case hc => exact hra); (case hu => exact Tryz.underlying73); (case hd => rfl); (case hi => kernel_rfl)) | ((with_reducible apply at_store_new 73); (case hx => exact rfl); (case hy => exact rfl); (case hg => first | rfl | simp); (case hi => kernel_rfl); (case hold => rfl); (case h1 => kernel_rfl)))
      have F2 := heap_alloc_new wr (.cells (fxC f) 73)
      have q2 : Below wr.heap.size wr (wr.alloc (.cells (fxC f) 73)) := (Below.refl _ wr).alloc (Nat.le_refl _) _
      have P2 := below_at q2 P1 (heap_lt P1)
      have M12 := M1.below q2
      have M22 := M2.below q2
      have b2 := b1.trans (q2.mono b1.size)
      have hgf : g + 1 + 1 < wr.heap.size := M2.lt
      obtain ⟨gf, hgf2⟩ : ∃ gf, wr.heap.size = gf := ⟨_, rfl⟩
      rw [hgf2] at F2 hgf ⊢
      generalize wr.alloc (.cells (fxC f) 73) = w2 at F2 P2 M12 M22 b2 ⊢
      have HGF := Lib.hid hgf
      have f2 := (cells_of F2).1
      obtain ⟨t1, h1⟩ : ∃ b, devB c f.a = b := ⟨_, rfl⟩
      obtain ⟨t2, h2⟩ : ∃ b, decide (f.m.bytes ∈ sm) = b := ⟨_, rfl⟩
      obtain ⟨t3, h3⟩ : ∃ b, decide (f.a.bytes ∈ sa) = b := ⟨_, rfl⟩
      have HST2 := Lib.hid (show fixGo c [] [] lf = (t1 && !t2 && !t3 && fixGo c (f.m.bytes :: sm) (f.a.bytes :: sa) (lf.drop (i + 1))) by rw [HST.out, h1, h2, h3])
      have E1 := Lib.hid h1
      have E2 := Lib.hid h2
      have E3 := Lib.hid h3
      clear q2 P1 M1 M2 b1 hgf hgf2 h1 h2 h3 HST hra
      go_wp2_with (first | ((with_reducible apply at_load_row 32); (case hx => exact rfl); (case hg => exact P2); (case hu => exact Tryz.underlying32); (case hd => rfl); (case hi => kernel_rfl)))
      refine (dev_any w2 c _ vo f.a).mono ?_
      rw [E1.out]
      rintro e w3 ⟨rfl, q3⟩
      have F3 := below_at q3 F2 (heap_lt F2)
      have P3 := below_at q3 P2 (heap_lt P2)
      have M13 := M12.below q3
      have M23 := M22.below q3
      have b3 := b2.trans (q3.mono b2.size)
      have l1 := M13.look lawMac Tryz.underlying118 (macV f.m) _ (key_mac f.m)
      have l2 := M23.look lawAd Tryz.underlying119 (adV f.a) _ (key_ad f.a)
      rw [E2.out] at l1
      rw [E3.out] at l2
      clear q3 F2 P2 M12 M22 b2 f2
      have f3 := (cells_of F3).1
      rcases t1 with _ | _
      · have HV := Lib.hid (show fixB c lf = false by rw [HFB.out, HST2.out]; rfl)
        go_wp2_with fail
        go_ret
        exact ⟨by rw [HV.out]; rfl, b3⟩
      rcases t2 with _ | _
      case true =>
        have HV := Lib.hid (show fixB c lf = false by rw [HFB.out, HST2.out]; rfl)
        go_wp2_with fail
        go_ret
        exact ⟨by rw [HV.out]; rfl, b3⟩
      rcases t3 with _ | _
      case true =>
        have HV := Lib.hid (show fixB c lf = false by rw [HFB.out, HST2.out]; rfl)
        go_wp2_with fail
        go_ret
        exact ⟨by rw [HV.out]; rfl, b3⟩
      have HG2 := Lib.hid (show fixGo c [] [] lf = fixGo c (f.m.bytes :: sm) (f.a.bytes :: sa) (lf.drop (i + 1)) by rw [HST2.out]; rfl)
      have hi := HLT.out
      clear HST2 HFB E1 E2 E3 hnn hlti
      go_upto_region 7 with fail
      clear f3 l1 l2
      have M13d := M13.below (Below.refl _ w3).drew
      have M23d := M23.below (Below.refl _ w3).drew
      have P3d := below_at (Below.refl _ w3).drew P3 (heap_lt P3)
      have b3d := b3.drew
      have kF := Ext.cells (w := w3.drew) (M := fun j => j = g + 1 ∨ j = g + 1 + 1) F3 (by have := HGF.out; omega)
      refine rg_begin (fun j => j = g + 1 ∨ j = g + 1 + 1) (by kernel_rfl) ?_
      refine rg_take (v := ?_) 0 rfl (by kernel_rfl) (by kernel_rfl) (by kernel_rfl) (fun _ _ _ h => h) (by rfl) ?_ ?_; rotate_left
      · (intro x hx; go_simp; first | done | with_reducible rfl | (rw [if_pos (by omega)]; try with_reducible rfl) | (rw [if_neg (by omega)]; try with_reducible rfl))
      try simp only [Act.put, List.setIfInBounds_toArray, List.set_cons_zero, List.set_cons_succ]
      refine rg_take (v := ?_) 1 rfl (by kernel_rfl) (by kernel_rfl) (by kernel_rfl) (fun _ _ _ h => h) (by rfl) ?_ ?_; rotate_left
      · (intro x hx; go_simp; first | done | with_reducible rfl | (rw [if_pos (by omega)]; try with_reducible rfl) | (rw [if_neg (by omega)]; try with_reducible rfl))
      try simp only [Act.put, List.setIfInBounds_toArray, List.set_cons_zero, List.set_cons_succ]
      refine rg_take (v := ?_) 2 rfl (by kernel_rfl) (by kernel_rfl) (by kernel_rfl) (fun _ _ _ h => h) (by rfl) ?_ ?_; rotate_left
      · (intro x hx; go_simp; first | done | with_reducible rfl | (rw [if_pos (by omega)]; try with_reducible rfl) | (rw [if_neg (by omega)]; try with_reducible rfl))
      try simp only [Act.put, List.setIfInBounds_toArray, List.set_cons_zero, List.set_cons_succ]
      refine rg_take (v := ?_) 3 rfl (by kernel_rfl) (by kernel_rfl) (by kernel_rfl) (fun _ _ _ h => h) (by rfl) ?_ ?_; rotate_left
      · (intro x hx; go_simp; first | done | with_reducible rfl | (rw [if_pos (by omega)]; try with_reducible rfl) | (rw [if_neg (by omega)]; try with_reducible rfl))
      try simp only [Act.put, List.setIfInBounds_toArray, List.set_cons_zero, List.set_cons_succ]
      refine rg_take (v := ?_) 4 rfl (by kernel_rfl) (by kernel_rfl) (by kernel_rfl) (fun _ _ _ h => h) (by rfl) ?_ ?_; rotate_left
      · (intro x hx; go_simp; first | done | with_reducible rfl | (rw [if_pos (by omega)]; try with_reducible rfl) | (rw [if_neg (by omega)]; try with_reducible rfl))
      try simp only [Act.put, List.setIfInBounds_toArray, List.set_cons_zero, List.set_cons_succ]
      refine rg_take (v := ?_) 5 rfl (by kernel_rfl) (by kernel_rfl) (by kernel_rfl) (fun _ _ _ h => h) (by rfl) ?_ ?_; rotate_left
      · (intro x hx; go_simp; first | done | with_reducible rfl | (rw [if_pos (by omega)]; try with_reducible rfl) | (rw [if_neg (by omega)]; try with_reducible rfl))
      try simp only [Act.put, List.setIfInBounds_toArray, List.set_cons_zero, List.set_cons_succ]
      refine rg_step 6 rfl (by kernel_rfl) (by rfl) (fun K hK => ?_)
      --RAW
      refine wp_mapPut _ _ _ 118 rfl lawMac Tryz.underlying118 (g + 1) i sm rfl M13d (by omega) (macV f.m) rfl rfl _ (key_mac f.m) ?_
      intro w4 M14 g4
      have M24 := M23d.grown g4 (by omega)
      have P4 := grown_at g4 P3d (by omega)
      refine hK.out _ _ (Ext.of_grown g4 (fun j hj => by injection hj with hj; exact .inl hj.symm)) ?_
      clear hK K
      refine rg_step 7 rfl (by kernel_rfl) (by rfl) (fun K hK => ?_)
      --RAW
      refine wp_mapPut _ _ _ 119 rfl lawAd Tryz.underlying119 (g + 1 + 1) i sa rfl M24 (by omega) (adV f.a) rfl rfl _ (key_ad f.a) ?_
      intro w5 M25 g5
      have M15 := M14.grown g5 (by omega)
      have P5 := grown_at g5 P4 (by omega)
      refine hK.out _ _ (Ext.of_grown g5 (fun j hj => by injection hj with hj; exact .inr hj.symm)) ?_
      clear hK K
      refine rg_done (by kernel_rfl) ?_
      have hg0 := HG.out
      have b5 : Below w.heap.size w w5 := below_grown (below_grown b3d g4 b3d.size (by omega)) g5 (by have := b3d.size; have := g4.size; omega) (by omega)
      go_wp2_with fail
      go_roundw
      case rel => exact ⟨i + 1, _, _, by push_cast; rfl, hi, HG2.out, M15, M25, P5, b5⟩
      case measure => simp [intOf]; omega
    · obtain rfl : i = n := by omega
      have hlti : decide ((i : Int) < (i : Int)) = false := decide_eq_false (by omega)
      have HE := Lib.hid (show fixB c lf = decide (lf.length ≤ 32) by
        rw [show fixB c lf = (fixGo c [] [] lf && decide (lf.length ≤ 32)) from rfl, HGO.out, List.drop_of_length_le (by have := HN.out; omega)]
        rfl)
      have f1 := (cells_of P1).1
      have HL2 := Lib.hid (show decide (lf.length ≤ 32) = decide ((i : Int) ≤ 32) by
        have := HN.out
        rcases Nat.lt_or_ge 32 lf.length with h | h
        · rw [decide_eq_false (by omega), decide_eq_false (by omega)]
        · rw [decide_eq_true (by omega), decide_eq_true (by omega)])
      clear hi hge M1 M2
      go_wp2_with fail
      go_ret
      exact ⟨by rw [HE.out, HL2.out]; rfl, b1⟩
end
section
open Go.RowKit

theorem opL_get : ∀ (l : List Opn) (i : Nat) (f : Opn) (j : Nat), l[i]? = some f → j < 7 → (opL l)[i * 7 + j]? = (opC f)[j]?
  | g :: l, 0, f, j, h, hj => by
    obtain rfl : g = f := by simpa using h
    rw [show opL (g :: l) = (opC g).toList ++ opL l by simp [opL], Nat.zero_mul, Nat.zero_add, List.getElem?_append_left (by simpa using hj), Array.getElem?_toList]
  | g :: l, i + 1, f, j, h, hj => by
    rw [show opL (g :: l) = (opC g).toList ++ opL l by simp [opL], List.getElem?_append_right (by simp; omega), ← opL_get l i f j (by simpa using h) hj]
    congr 1
    simp
    omega
theorem op_range {w : World} {B b o : Nat} {l : List Opn} (h : Row w B (some ⟨b, o, none⟩) (opL l)) {i : Nat} {f : Opn} (hf : l[i]? = some f) : w.rangeAt b (o + i * 7) (opC f).toList := by
  intro j v hv
  have hj : j < 7 := by have := (List.getElem?_eq_some_iff.1 hv).1; simpa using this
  rcases h with h | ⟨b', o', e, _, hc⟩
  · have := opL_get l i f j hf hj
    rw [h] at this
    rw [← Array.getElem?_toList, hv] at this
    cases this
  · injection e with e
    injection e with e1 e2
    subst e1 e2
    have := hc (i * 7 + j) v (by rw [opL_get l i f j hf hj, ← Array.getElem?_toList, hv])
    rw [Nat.add_assoc]
    exact this
theorem op_some {w : World} {B : Nat} {A : Option Addr} {l : List Opn} (h : Row w B A (opL l)) {i : Nat} {f : Opn} (hf : l[i]? = some f) : ∃ b o, A = some ⟨b, o, none⟩ ∧ b < B := by
  rcases h with h | ⟨b', o', e, hb, _⟩
  · have := opL_get l i f 0 hf (by omega)
    rw [h] at this
    simp at this
  · exact ⟨b', o', e, hb⟩
def wfOp (o : Opn) : Prop := (Lit.int .i64 o.pr).wf = true ∧ (Lit.int .i64 o.po).wf = true
def protB (x : Int) : Bool := !(x != 17 && x != 6)
def opnGo (c : Cf) : List (List UInt8) → List Opn → Bool
  | _, [] => true
  | S, o :: r => protB o.pr && inR o.po 1 (c.low - 1) && inR o.tp 1 65535 && devB c o.a && !decide (twoK o.pr o.po ∈ S) && opnGo c (twoK o.pr o.po :: S) r
def opnB (c : Cf) (l : List Opn) : Bool := opnGo c [] l && decide (l.length ≤ 32)
set_option maxRecDepth 100000 in
set_option maxHeartbeats 16000000 in
theorem open_all (w : World) (c : Cf) (vf : Value) (A : Option Addr) (n k : Nat) (lo : List Opn) (hr : Row w w.heap.size A (opL lo)) (hn : n = lo.length) (hl : n ≤ 100000) (hw : ∀ o ∈ lo, wfOp o) (h0 : 0 ≤ c.low) (h1 : c.low ≤ 1000000) :
    Calls Tryz.prog 43 #[.agg (cfC c vf (.slice A n k))] w (fun e w' => e = .returned (.bool (opnB c lo)) ∧ Below w.heap.size w w') := by
  have HN := Lib.hid hn
  have HR := Lib.hid hr
  have HW := Lib.hid hw
  have wl : IntKind.i64.wrap (c.low - 1) = c.low - 1 := IntWalk.i64_in _ (by omega)
  have P0 : ((w.alloc (.cells (cfC c vf (.slice A n k)) 32)).alloc (.map #[] 0)).heap[w.heap.size]? = some (.cells (cfC c vf (.slice A n k)) 32 (0, 0)) := heap_alloc_of (heap_alloc_new w _)
  have M1 : KM 121 ((w.alloc (.cells (cfC c vf (.slice A n k)) 32)).alloc (.map #[] 0)) (w.heap.size + 1) 0 [] := by
    have h := KM.made 121 (w.alloc (.cells (cfC c vf (.slice A n k)) 32))
    rwa [show (w.alloc (.cells (cfC c vf (.slice A n k)) 32)).heap.size = w.heap.size + 1 by simp] at h
  have b0 : Below w.heap.size w ((w.alloc (.cells (cfC c vf (.slice A n k)) 32)).alloc (.map #[] 0)) := ((Below.refl _ w).alloc (Nat.le_refl _) _).alloc (by simp) _
  have hmm := @run_makeMap Tryz.prog
  clear hr hn hw h0 h1
  go_enter Tryz.func43, Tryz.ntmps43
  go_upto_region 2 with fail
  generalize (w.alloc (.cells (cfC c vf (.slice A n k)) 32)).alloc (.map #[] 0) = w1 at P0 M1 b0 ⊢
  obtain ⟨g, hg⟩ : ∃ g, w.heap.size = g := ⟨_, rfl⟩
  rw [hg] at P0 M1 ⊢
  have HG := Lib.hid hg
  clear hg hmm
  have f0 := (cells_of P0).1
  go_wp2_with fail
  go_loopw [11] (fun v wr => ∃ (i : Nat) (S : List (List UInt8)), v = .int .i64 i ∧ i ≤ n ∧ opnGo c [] lo = opnGo c S (lo.drop i) ∧ KM 121 wr (g + 1) i S ∧
      wr.heap[g]? = some (.cells (cfC c vf (.slice A n k)) 32 (0, 0)) ∧ Below w.heap.size w wr) (fun v _ => n - (intOf v).toNat)
  case atStart => exact ⟨0, [], rfl, Nat.zero_le _, rfl, M1, P0, b0⟩
  case round =>
    clear M1 P0 b0 f0
    obtain ⟨i, S, rfl, hi, hgo, M1, P1, b1⟩ := hrel
    have HGO := Lib.hid hgo
    clear hgo
    rcases Nat.lt_or_ge i n with hlt | hge
    · have hlti : decide ((i : Int) < (n : Int)) = true := decide_eq_true (by omega)
      have hnn : (0 : Int) ≤ (i : Int) ∧ (i : Int) < (n : Int) := by omega
      obtain ⟨f, hf⟩ : ∃ f, lo[i]? = some f := ⟨lo[i]'(by have := HN.out; omega), List.getElem?_eq_getElem _⟩
      obtain ⟨b, o, rfl, hb⟩ := op_some HR.out hf
      have hra := op_range (HR.out.below b1) hf
      have HST := Lib.hid (show opnGo c [] lo = (protB f.pr && inR f.po 1 (c.low - 1) && inR f.tp 1 65535 && devB c f.a && !decide (twoK f.pr f.po ∈ S) && opnGo c (twoK f.pr f.po :: S) (lo.drop (i + 1))) by
        rw [HGO.out, List.drop_eq_getElem_cons (by have := HN.out; omega), show lo[i]'(by have := HN.out; omega) = f by rw [List.getElem?_eq_getElem (by have := HN.out; omega)] at hf; injection hf]
        rfl)
      have HFB := Lib.hid (show opnB c lo = (opnGo c [] lo && decide (lo.length ≤ 32)) from rfl)
      have HWF := Lib.hid (HW.out f (List.mem_of_getElem? hf))
      have HLT := Lib.hid hlt
      have w64 : IntKind.i64.wrap ((i : Int) + 1) = (i : Int) + 1 := IntWalk.i64_in _ (by omega)
      clear hf hlt hi HGO
      go_upto_region 5 with (first | ((with_reducible apply at_load_mid 48); (case hx => exact rfl); (case hc => exact hra); (case hu => exact Tryz.underlying48); (case hd => rfl); (case hi => kernel_rfl)) | ((with_reducible apply at_store_new 48); (case hx => exact rfl); (case hy => exact rfl); (case hg => first | rfl | simp); (case hi => kernel_rfl); (case hold => rfl); (case h1 => kernel_rfl)))
      have F2 := heap_alloc_new wr (.cells (opC f) 48)
      have q2 : Below wr.heap.size wr (wr.alloc (.cells (opC f) 48)) := (Below.refl _ wr).alloc (Nat.le_refl _) _
      have P2 := below_at q2 P1 (heap_lt P1)
      have M2 := M1.below q2
      have b2 := b1.trans (q2.mono b1.size)
      have hgf : g + 1 < wr.heap.size := M1.lt
      obtain ⟨gf, hgf2⟩ : ∃ gf, wr.heap.size = gf := ⟨_, rfl⟩
      rw [hgf2] at F2 hgf ⊢
      generalize wr.alloc (.cells (opC f) 48) = w2 at F2 P2 M2 b2 ⊢
      have f2 := (cells_of F2).1
      clear q2 P1 M1 b1 hgf2 hra
      go_upto_region 6 with ((with_reducible apply at_store_new 121); (case hx => exact rfl); (case hy => exact rfl); (case hg => first | rfl | simp); (case hi => kernel_rfl); (case hold => rfl); (case h1 => kernel_rfl))
      have K3 := heap_alloc_new w2 (.cells #[.int .i64 f.pr, .int .i64 f.po] 121)
      have q3 : Below w2.heap.size w2 (w2.alloc (.cells #[.int .i64 f.pr, .int .i64 f.po] 121)) := (Below.refl _ w2).alloc (Nat.le_refl _) _
      have F3 := below_at q3 F2 (heap_lt F2)
      have P3 := below_at q3 P2 (heap_lt P2)
      have M3 := M2.below q3
      have b3 := b2.trans (q3.mono b2.size)
      have hgk : gf < w2.heap.size := heap_lt F2
      obtain ⟨gk, hgk2⟩ : ∃ gk, w2.heap.size = gk := ⟨_, rfl⟩
      rw [hgk2] at K3 hgk ⊢
      generalize w2.alloc (.cells #[.int .i64 f.pr, .int .i64 f.po] 121) = w3 at K3 F3 P3 M3 b3 ⊢
      have HGK := Lib.hid (show g + 1 < gk by omega)
      have f3 := (cells_of F3).1
      have p3 := (cells_of P3).1
      have kk3 := (cells_of K3).1
      clear q3 F2 P2 M2 b2 f2 hgk2 hgf hgk
      obtain ⟨t1, h1⟩ : ∃ b, (f.pr != 17) = b := ⟨_, rfl⟩
      obtain ⟨t2, h2⟩ : ∃ b, (f.pr != 6) = b := ⟨_, rfl⟩
      obtain ⟨t3, h3⟩ : ∃ b, inR f.po 1 (c.low - 1) = b := ⟨_, rfl⟩
      obtain ⟨t4, h4⟩ : ∃ b, inR f.tp 1 65535 = b := ⟨_, rfl⟩
      obtain ⟨t5, h5⟩ : ∃ b, devB c f.a = b := ⟨_, rfl⟩
      obtain ⟨t6, h6⟩ : ∃ b, decide (twoK f.pr f.po ∈ S) = b := ⟨_, rfl⟩
      have HST2 := Lib.hid (show opnGo c [] lo = (!(t1 && t2) && t3 && t4 && t5 && !t6 && opnGo c (twoK f.pr f.po :: S) (lo.drop (i + 1))) by rw [HST.out, protB, h1, h2, h3, h4, h5, h6])
      have E3 := Lib.hid h3
      have E4 := Lib.hid h4
      have E5 := Lib.hid h5
      have E6 := Lib.hid h6
      clear h3 h4 h5 h6 HST
      rcases t1 with _ | _ <;> rcases t2 with _ | _
      case true.true =>
        have HV := Lib.hid (show opnB c lo = false by rw [HFB.out, HST2.out]; rfl)
        go_wp2_with fail
        go_ret
        exact ⟨by rw [HV.out]; rfl, b3⟩
      all_goals
        go_wp2_with fail
        refine (within_any w3 f.po 1 (c.low - 1)).mono ?_
        rw [E3.out]
        rintro e w4 ⟨rfl, rfl⟩
        rcases t3 with _ | _
        · have HV := Lib.hid (show opnB c lo = false by rw [HFB.out, HST2.out]; rfl)
          go_wp2_with fail
          go_ret
          exact ⟨by rw [HV.out]; rfl, b3⟩
        go_wp2_with fail
        refine (within_any w4 f.tp 1 65535).mono ?_
        rw [E4.out]
        rintro e w5 ⟨rfl, rfl⟩
        rcases t4 with _ | _
        · have HV := Lib.hid (show opnB c lo = false by rw [HFB.out, HST2.out]; rfl)
          go_wp2_with fail
          go_ret
          exact ⟨by rw [HV.out]; rfl, b3⟩
        clear p3
        go_wp2_with (first | ((with_reducible apply at_load_row 32); (case hx => exact rfl); (case hg => exact P3); (case hu => exact Tryz.underlying32); (case hd => rfl); (case hi => kernel_rfl)) | ((with_reducible apply at_load_guard 32); (case hx => exact rfl); (case hg => exact P3); (case hw => first | rfl | kernel_rfl); (case hu => exact Tryz.underlying32); (case hd => rfl); (case hi => kernel_rfl)))
        refine (dev_any w5 c vf _ f.a).mono ?_
        rw [E5.out]
        rintro e w6 ⟨rfl, q6⟩
        have K6 := below_at q6 K3 (heap_lt K3)
        have P6 := below_at q6 P3 (heap_lt P3)
        have M6 := M3.below q6
        have b6 := b3.trans (q6.mono b3.size)
        have l1 := M6.look lawTwo Tryz.underlying120 (.agg #[.int .i64 f.pr, .int .i64 f.po]) _ (key_two f.pr f.po HWF.out.1 HWF.out.2)
        rw [E6.out] at l1
        have kk6 := (cells_of K6).1
        clear q6 K3 P3 M3 b3 f3 kk3 F3
        rcases t5 with _ | _
        · have HV := Lib.hid (show opnB c lo = false by rw [HFB.out, HST2.out]; rfl)
          go_wp2_with fail
          go_ret
          exact ⟨by rw [HV.out]; rfl, b6⟩
        rcases t6 with _ | _
        case true =>
          have HV := Lib.hid (show opnB c lo = false by rw [HFB.out, HST2.out]; rfl)
          go_wp2_with fail
          go_ret
          exact ⟨by rw [HV.out]; rfl, b6⟩
        have HG2 := Lib.hid (show opnGo c [] lo = opnGo c (twoK f.pr f.po :: S) (lo.drop (i + 1)) by rw [HST2.out]; rfl)
        have hi := HLT.out
        clear HST2 HFB E3 E4 E5 E6 hnn hlti
        go_wp2_with (at_mapUpdate; refine wpList_mapPut rfl _ _ _ 120 rfl lawTwo Tryz.underlying120 (g + 1) i S rfl M6 (by omega) (.agg #[.int .i64 f.pr, .int .i64 f.po]) rfl rfl _ (key_two f.pr f.po HWF.out.1 HWF.out.2) ?_; intro w7 M7 g7)
        have P7 := grown_at g7 P6 (by omega)
        have hg0 := HG.out
        have b7 : Below w.heap.size w w7 := below_grown b6 g7 b6.size (by omega)
        clear l1 kk6
        go_wp2_with fail
        go_roundw
        case rel => exact ⟨i + 1, _, by push_cast; rfl, hi, HG2.out, M7, P7, b7⟩
        case measure => simp [intOf]; omega
    · obtain rfl : i = n := by omega
      have hlti : decide ((i : Int) < (i : Int)) = false := decide_eq_false (by omega)
      have HE := Lib.hid (show opnB c lo = decide (lo.length ≤ 32) by
        rw [show opnB c lo = (opnGo c [] lo && decide (lo.length ≤ 32)) from rfl, HGO.out, List.drop_of_length_le (by have := HN.out; omega)]
        rfl)
      have f1 := (cells_of P1).1
      have HL2 := Lib.hid (show decide (lo.length ≤ 32) = decide ((i : Int) ≤ 32) by
        have := HN.out
        rcases Nat.lt_or_ge 32 lo.length with h | h
        · rw [decide_eq_false (by omega), decide_eq_false (by omega)]
        · rw [decide_eq_true (by omega), decide_eq_true (by omega)])
      clear hi hge M1
      go_wp2_with fail
      go_ret
      exact ⟨by rw [HE.out, HL2.out]; rfl, b1⟩
end
section
open Go.RowKit

def checkG (C : Cg) : Bool := netB C.c && poolB C.c && timesB C.c && fixB C.c C.lf && opnB C.c C.lo
def chkG (C : Cg) : Int := if checkG C = true then 0 else 1
/-- What a configuration's two slices read as. -/
structure CR (w : World) (B : Nat) (C : Cg) (A : Option Addr) (n : Nat) (A2 : Option Addr) (n2 : Nat) : Prop where
  rf : Row w B A (fxL C.lf)
  nf : n = C.lf.length
  lf : n ≤ 100000
  ro : Row w B A2 (opL C.lo)
  no : n2 = C.lo.length
  lo : n2 ≤ 100000
  wf : ∀ o ∈ C.lo, wfOp o
section
variable {w w' : World} {B B' : Nat} {C : Cg} {A : Option Addr} {n : Nat} {A2 : Option Addr} {n2 : Nat}
theorem CR.below (h : CR w B C A n A2 n2) (hb : Below B w w') : CR w' B C A n A2 n2 := ⟨h.rf.below hb, h.nf, h.lf, h.ro.below hb, h.no, h.lo, h.wf⟩
theorem CR.more (h : CR w B C A n A2 n2) (hb : B ≤ B') : CR w B' C A n A2 n2 := ⟨h.rf.more hb, h.nf, h.lf, h.ro.more hb, h.no, h.lo, h.wf⟩
/-- In a later world. -/
theorem CR.next (h : CR w w.heap.size C A n A2 n2) (hb : Below w.heap.size w w') : CR w' w'.heap.size C A n A2 n2 := (h.below hb).more hb.size
theorem CR.grown {g : Nat} (h : CR w B C A n A2 n2) (hg : w.grownBy w' (some g)) (hB : B ≤ w.heap.size) (hgB : B ≤ g) : CR w' B C A n A2 n2 :=
  ⟨h.rf.grown hg hB (fun k hk => by injection hk with hk; omega), h.nf, h.lf, h.ro.grown hg hB (fun k hk => by injection hk with hk; omega), h.no, h.lo, h.wf⟩
end
theorem times_low {c : Cf} (h : timesB c = true) : 0 ≤ c.low ∧ c.low ≤ 1000000 := by
  simp only [timesB, inR, Bool.and_eq_true, decide_eq_true_eq] at h
  omega
set_option maxRecDepth 100000 in
set_option maxHeartbeats 8000000 in
theorem check_all (w : World) (C : Cg) (A : Option Addr) (n k : Nat) (A2 : Option Addr) (n2 k2 : Nat) (hC : CR w w.heap.size C A n A2 n2) : Calls Tryz.prog 13 #[.agg (cfC C.c (.slice A n k) (.slice A2 n2 k2))] w
    (fun e w' => e = .returned (.int .i64 (chkG C)) ∧ Below w.heap.size w w') := by
  have hB : chkG C = (if (netB C.c && poolB C.c && timesB C.c && fixB C.c C.lf && opnB C.c C.lo) = true then 0 else 1) := rfl
  obtain ⟨c, lf, lo⟩ := C
  simp only at hB
  obtain ⟨t1, h1⟩ : ∃ b, netB c = b := ⟨_, rfl⟩
  obtain ⟨t2, h2⟩ : ∃ b, poolB c = b := ⟨_, rfl⟩
  obtain ⟨t3, h3⟩ : ∃ b, timesB c = b := ⟨_, rfl⟩
  obtain ⟨t4, h4⟩ : ∃ b, fixB c lf = b := ⟨_, rfl⟩
  obtain ⟨t5, h5⟩ : ∃ b, opnB c lo = b := ⟨_, rfl⟩
  rw [h1, h2, h3, h4, h5] at hB
  have E1 := Lib.hid h1
  have E2 := Lib.hid h2
  have E3 := Lib.hid h3
  have E4 := Lib.hid h4
  have E5 := Lib.hid h5
  have HB := Lib.hid hB
  have HC := Lib.hid hC
  clear h1 h2 h3 h4 h5 hB hC
  have P0 := heap_alloc_new w (.cells (cfC c (.slice A n k) (.slice A2 n2 k2)) 32)
  have b0 : Below w.heap.size w (w.alloc (.cells (cfC c (.slice A n k) (.slice A2 n2 k2)) 32)) := (Below.refl _ w).alloc (Nat.le_refl _) _
  go_enter Tryz.func13, Tryz.ntmps13
  go_upto_region 1 with fail
  generalize w.alloc (.cells (cfC c (.slice A n k) (.slice A2 n2 k2)) 32) = w1 at P0 b0 ⊢
  go_wp2_with (first | ((with_reducible apply at_load_row 32); (case hx => exact rfl); (case hg => exact P0); (case hu => exact Tryz.underlying32); (case hd => rfl); (case hi => kernel_rfl)) | ((with_reducible apply at_load_guard 32); (case hx => exact rfl); (case hg => exact P0); (case hw => first | rfl | kernel_rfl); (case hu => exact Tryz.underlying32); (case hd => rfl); (case hi => kernel_rfl)))
  refine (net_any w1 c _ _).mono ?_
  rw [E1.out]
  rintro e w2 ⟨rfl, q2⟩
  have P1 := below_at q2 P0 (heap_lt P0)
  have b1 := b0.trans (q2.mono b0.size)
  clear P0 b0 q2
  rcases t1 with _ | _
  · go_wp2_with fail
    go_ret
    exact ⟨by rw [HB.out]; rfl, b1⟩
  go_wp2_with (first | ((with_reducible apply at_load_row 32); (case hx => exact rfl); (case hg => exact P1); (case hu => exact Tryz.underlying32); (case hd => rfl); (case hi => kernel_rfl)) | ((with_reducible apply at_load_guard 32); (case hx => exact rfl); (case hg => exact P1); (case hw => first | rfl | kernel_rfl); (case hu => exact Tryz.underlying32); (case hd => rfl); (case hi => kernel_rfl)))
  refine (pool_any w2 c _ _).mono ?_
  rw [E2.out]
  rintro e w3 ⟨rfl, q3⟩
  have P2 := below_at q3 P1 (heap_lt P1)
  have b2 := b1.trans (q3.mono b1.size)
  clear P1 b1 q3
  rcases t2 with _ | _
  · go_wp2_with fail
    go_ret
    exact ⟨by rw [HB.out]; rfl, b2⟩
  go_wp2_with (first | ((with_reducible apply at_load_row 32); (case hx => exact rfl); (case hg => exact P2); (case hu => exact Tryz.underlying32); (case hd => rfl); (case hi => kernel_rfl)) | ((with_reducible apply at_load_guard 32); (case hx => exact rfl); (case hg => exact P2); (case hw => first | rfl | kernel_rfl); (case hu => exact Tryz.underlying32); (case hd => rfl); (case hi => kernel_rfl)))
  refine (times_any w3 c _ _).mono ?_
  rw [E3.out]
  rintro e w4 ⟨rfl, q4⟩
  have P3 := below_at q4 P2 (heap_lt P2)
  have b3 := b2.trans (q4.mono b2.size)
  clear P2 b2 q4
  rcases t3 with _ | _
  · go_wp2_with fail
    go_ret
    exact ⟨by rw [HB.out]; rfl, b3⟩
  go_wp2_with (first | ((with_reducible apply at_load_row 32); (case hx => exact rfl); (case hg => exact P3); (case hu => exact Tryz.underlying32); (case hd => rfl); (case hi => kernel_rfl)) | ((with_reducible apply at_load_guard 32); (case hx => exact rfl); (case hg => exact P3); (case hw => first | rfl | kernel_rfl); (case hu => exact Tryz.underlying32); (case hd => rfl); (case hi => kernel_rfl)))
  have CR4 := HC.out.next b3
  refine (fixed_all w4 c _ A n k lf CR4.rf CR4.nf CR4.lf).mono ?_
  rw [E4.out]
  rintro e w5 ⟨rfl, q5⟩
  have P4 := below_at q5 P3 (heap_lt P3)
  have b4 := b3.trans (q5.mono b3.size)
  clear P3 b3 q5 CR4
  rcases t4 with _ | _
  · go_wp2_with fail
    go_ret
    exact ⟨by rw [HB.out]; rfl, b4⟩
  go_wp2_with (first | ((with_reducible apply at_load_row 32); (case hx => exact rfl); (case hg => exact P4); (case hu => exact Tryz.underlying32); (case hd => rfl); (case hi => kernel_rfl)) | ((with_reducible apply at_load_guard 32); (case hx => exact rfl); (case hg => exact P4); (case hw => first | rfl | kernel_rfl); (case hu => exact Tryz.underlying32); (case hd => rfl); (case hi => kernel_rfl)))
  have CR5 := HC.out.next b4
  refine (open_all w5 c _ A2 n2 k2 lo CR5.ro CR5.no CR5.lo CR5.wf (times_low E3.out).1 (times_low E3.out).2).mono ?_
  rw [E5.out]
  rintro e w6 ⟨rfl, q6⟩
  have b5 := b4.trans (q6.mono b4.size)
  clear P4 b4 q6 CR5
  rcases t5 with _ | _
  all_goals
    go_wp2_with fail
    go_ret
    exact ⟨by rw [HB.out]; rfl, b5⟩
end
end Go.Proofs.YtnmdiageigbphaaGreatDoor
