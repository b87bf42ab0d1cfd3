/-
  conf: one value read.
-/
import Derived.Test.YtnmdiageigbphaaGreatDoorKp4
import Derived.Deep.Onto
namespace Go.Proofs.YtnmdiageigbphaaGreatDoor
section
open Go.RowKit

/-- A value of a line. -/
inductive Vl
  | n (v : Nat)
  | a (x : Ad4)
  | m (x : Mac6)
  | o (x : Ad4) (b : Nat)
abbrev owC (x : Ad4) (b : Nat) : Array Value := #[.int .u8 (x.a.toNat : Int), .int .u8 (x.b.toNat : Int), .int .u8 (x.c.toNat : Int), .int .u8 (x.d.toNat : Int), .int .i64 (b : Int)]
def Vl.val : Vl → Value
  | .n v => .iface 3 (.int .i64 (v : Int))
  | .a x => .iface 24 (adV x)
  | .m x => .iface 28 (macV x)
  | .o x b => .iface 138 (.agg (owC x b))
abbrev maC (m : Mac6) : Array Value := #[.int .u8 (m.a.toNat : Int), .int .u8 (m.b.toNat : Int), .int .u8 (m.c.toNat : Int), .int .u8 (m.d.toNat : Int), .int .u8 (m.e.toNat : Int), .int .u8 (m.f.toNat : Int)]
def valO : Option Vl → Value
  | some v => v.val
  | none => Value.nilIface
def valN (s : List UInt8) : Option Vl := (numC s).map Vl.n
def valA (s : List UInt8) : Option Vl := if (parseV s).2 = 0 then some (.a (parseV s).1) else none
def valM (s : List UInt8) : Option Vl := if (parseMV s).2 = 0 then some (.m (parseMV s).1) else none
def valOw (s : List UInt8) : Option Vl := if (cutE 47 s).2.2 = true ∧ (parseV (cutE 47 s).1).2 = 0 ∧ (numC (cutE 47 s).2.1).isSome = true then some (.o (parseV (cutE 47 s).1).1 ((numC (cutE 47 s).2.1).getD 0)) else none
abbrev sUdp : List UInt8 := [117, 100, 112]
abbrev sTcp : List UInt8 := [116, 99, 112]
def valP (s : List UInt8) : Option Vl := if s = sUdp then some (.n 17) else if s = sTcp then some (.n 6) else none
def valK (k : UInt8) (s : List UInt8) : Option Vl := if k = 110 then valN s else if k = 97 then valA s else if k = 109 then valM s else if k = 111 then valOw s else if k = 112 then valP s else none
def VlP (w : World) (v : Option Vl) (e : Ending) (w' : World) : Prop := e = .returned (valO v) ∧ Below w.heap.size w w'
theorem parseMV_err (s : List UInt8) : (parseMV s).2 = 0 ∨ (parseMV s).2 = 9 := by
  unfold parseMV
  split <;> simp

set_option maxRecDepth 100000 in
set_option maxHeartbeats 4000000 in
theorem value_n (w : World) (s : List UInt8) (hl : s.length ≤ 1000000) : Calls Tryz.prog 93 #[.int .i32 110, .string (str s)] w (VlP w (valN s)) := by
  go_enter Tryz.func93, Tryz.ntmps93
  go_wp2_with fail
  refine (numc_any w s (by omega)).mono ?_
  rintro e w1 ⟨rfl, q1⟩
  rcases h : numC s with _ | v
  · have HV := Lib.hid (show valN s = none by rw [valN, h]; rfl)
    clear h
    go_wp2_with fail
    go_ret
    exact ⟨by rw [HV.out]; rfl, q1⟩
  · have HV := Lib.hid (show valN s = some (.n v) by rw [valN, h]; rfl)
    clear h
    go_wp2_with fail
    go_ret
    exact ⟨by rw [HV.out]; rfl, q1⟩
set_option maxRecDepth 100000 in
set_option maxHeartbeats 4000000 in
theorem value_a (w : World) (s : List UInt8) (hl : s.length ≤ 1000000) : Calls Tryz.prog 93 #[.int .i32 97, .string (str s)] w (VlP w (valA s)) := by
  go_enter Tryz.func93, Tryz.ntmps93
  go_wp2_with fail
  refine (parse_any w s (by omega)).mono ?_
  obtain ⟨⟨a, er⟩, hv⟩ : ∃ v, parseV s = v := ⟨_, rfl⟩
  have HE := Lib.hid (parseV_err s)
  unfold ParsePost
  rw [hv] at HE ⊢
  rintro e w1 ⟨rfl, q1⟩
  have HV := Lib.hid hv
  clear hv
  go_upto_region 8 with ((with_reducible apply at_store_new 24); (case hx => exact rfl); (case hy => exact rfl); (case hg => first | rfl | simp); (case hi => kernel_rfl); (case hold => rfl); (case h1 => kernel_rfl))
  have q2 : Below w1.heap.size w1 (w1.alloc (.cells (adC a) 24)) := (Below.refl _ w1).alloc (Nat.le_refl _) _
  have P2 := heap_alloc_new w1 (.cells (adC a) 24)
  have b2 := q1.trans (q2.mono q1.size)
  generalize w1.alloc (.cells (adC a) 24) = w2 at P2 b2 ⊢
  clear q1 q2
  have he := HE.out
  rcases he with rfl | rfl
  · have HR := Lib.hid (show valA s = some (.a a) by rw [valA, HV.out]; rfl)
    go_wp2_with ((with_reducible apply at_load_row 24); (case hx => exact rfl); (case hg => exact P2); (case hu => exact Tryz.underlying24); (case hd => rfl); (case hi => kernel_rfl))
    go_ret
    exact ⟨by rw [HR.out]; rfl, b2⟩
  · have HR := Lib.hid (show valA s = none by rw [valA, HV.out]; rfl)
    go_wp2_with fail
    go_ret
    exact ⟨by rw [HR.out]; rfl, b2⟩
set_option maxRecDepth 100000 in
set_option maxHeartbeats 4000000 in
theorem value_m (w : World) (s : List UInt8) (hl : s.length ≤ 1000000) : Calls Tryz.prog 93 #[.int .i32 109, .string (str s)] w (VlP w (valM s)) := by
  go_enter Tryz.func93, Tryz.ntmps93
  go_wp2_with fail
  refine (parseMac_any w s (by omega)).mono ?_
  obtain ⟨⟨a, er⟩, hv⟩ : ∃ v, parseMV s = v := ⟨_, rfl⟩
  have HE := Lib.hid (parseMV_err s)
  unfold ParseMPost
  rw [hv] at HE ⊢
  rintro e w1 ⟨rfl, q1⟩
  have HV := Lib.hid hv
  clear hv
  go_upto_region 12 with ((with_reducible apply at_store_new 28); (case hx => exact rfl); (case hy => exact rfl); (case hg => first | rfl | simp); (case hi => kernel_rfl); (case hold => rfl); (case h1 => kernel_rfl))
  have q2 : Below w1.heap.size w1 (w1.alloc (.cells (maC a) 28)) := (Below.refl _ w1).alloc (Nat.le_refl _) _
  have P2 := heap_alloc_new w1 (.cells (maC a) 28)
  have b2 := q1.trans (q2.mono q1.size)
  generalize w1.alloc (.cells (maC a) 28) = w2 at P2 b2 ⊢
  clear q1 q2
  have he := HE.out
  rcases he with rfl | rfl
  · have HR := Lib.hid (show valM s = some (.m a) by rw [valM, HV.out]; rfl)
    go_wp2_with ((with_reducible apply at_load_row 28); (case hx => exact rfl); (case hg => exact P2); (case hu => exact Tryz.underlying28); (case hd => rfl); (case hi => kernel_rfl))
    go_ret
    exact ⟨by rw [HR.out]; rfl, b2⟩
  · have HR := Lib.hid (show valM s = none by rw [valM, HV.out]; rfl)
    go_wp2_with fail
    go_ret
    exact ⟨by rw [HR.out]; rfl, b2⟩
set_option maxRecDepth 100000 in
set_option maxHeartbeats 4000000 in
theorem value_o (w : World) (hm : mlIs w) (s : List UInt8) (hl : s.length ≤ 1000000) : Calls Tryz.prog 93 #[.int .i32 111, .string (str s)] w (VlP w (valOw s)) := by
  have hls := cutE_len 47 s
  have hc := cut_any w hm s 47 hl
  obtain ⟨⟨x, y, f⟩, hcv⟩ : ∃ v, cutE 47 s = v := ⟨_, rfl⟩
  rw [hcv] at hls hc
  simp only at hls
  have HC := Lib.hid hcv
  clear hcv hm
  go_enter Tryz.func93, Tryz.ntmps93
  go_wp2_with fail
  refine hc.mono ?_
  rintro e w0 ⟨rfl, q0⟩
  clear hc
  go_wp2_with fail
  refine (parse_any w0 x (by omega)).mono ?_
  obtain ⟨⟨a, er⟩, hv⟩ : ∃ v, parseV x = v := ⟨_, rfl⟩
  have HE := Lib.hid (parseV_err x)
  unfold ParsePost
  rw [hv] at HE ⊢
  rintro e w1 ⟨rfl, q1'⟩
  have HV := Lib.hid hv
  have q1 := q0.trans (q1'.mono q0.size)
  clear hv q0 q1'
  go_upto_region 17 with ((with_reducible apply at_store_new 24); (case hx => exact rfl); (case hy => exact rfl); (case hg => first | rfl | simp); (case hi => kernel_rfl); (case hold => rfl); (case h1 => kernel_rfl))
  have q2 : Below w1.heap.size w1 (w1.alloc (.cells (adC a) 24)) := (Below.refl _ w1).alloc (Nat.le_refl _) _
  have P2 := heap_alloc_new w1 (.cells (adC a) 24)
  have b2 := q1.trans (q2.mono q1.size)
  obtain ⟨g, hg⟩ : ∃ g, w1.heap.size = g := ⟨_, rfl⟩
  rw [hg] at P2 ⊢
  generalize w1.alloc (.cells (adC a) 24) = w2 at P2 b2 ⊢
  clear q1 q2 hg
  go_wp2_with fail
  refine (numc_any w2 y (by omega)).mono ?_
  rintro e w3 ⟨rfl, q3⟩
  have P3 := below_at q3 P2 (heap_lt P2)
  have b3 := b2.trans (q3.mono b2.size)
  clear P2 b2 q3
  have he := HE.out
  rcases hn : numC y with _ | v <;> rcases he with rfl | rfl <;> rcases f with _ | _
  case some.inl.true =>
    have HR := Lib.hid (show valOw s = some (.o a v) by simp [valOw, HC.out, HV.out, hn])
    clear hn
    go_wp2_with ((with_reducible apply at_load_row 24); (case hx => exact rfl); (case hg => exact P3); (case hu => exact Tryz.underlying24); (case hd => rfl); (case hi => kernel_rfl))
    go_ret
    exact ⟨by rw [HR.out]; rfl, b3⟩
  all_goals
    have HR := Lib.hid (show valOw s = none by simp [valOw, HC.out, HV.out, hn])
    clear hn
    go_wp2_with fail
    go_ret
    exact ⟨by rw [HR.out]; rfl, b3⟩
set_option maxRecDepth 100000 in
set_option maxHeartbeats 4000000 in
theorem value_p (w : World) (s : List UInt8) : Calls Tryz.prog 93 #[.int .i32 112, .string (str s)] w (VlP w (valP s)) := by
  by_cases h1 : s = sUdp
  · subst h1
    have x1 : ((str sUdp).toList == [117, 100, 112]) = true := by rw [toList_str]; rfl
    go_enter Tryz.func93, Tryz.ntmps93
    go_wp2_with fail
    go_ret
    exact ⟨rfl, Below.refl _ _⟩
  have x1 : ((str s).toList == [117, 100, 112]) = false := by rw [toList_str]; simpa using h1
  by_cases h2 : s = sTcp
  · subst h2
    have x2 : ((str sTcp).toList == [116, 99, 112]) = true := by rw [toList_str]; rfl
    go_enter Tryz.func93, Tryz.ntmps93
    go_wp2_with fail
    go_ret
    exact ⟨rfl, Below.refl _ _⟩
  have x2 : ((str s).toList == [116, 99, 112]) = false := by rw [toList_str]; simpa using h2
  have HV := Lib.hid (show valP s = none by rw [valP, if_neg h1, if_neg h2])
  clear h1 h2
  go_enter Tryz.func93, Tryz.ntmps93
  go_wp2_with fail
  go_ret
  exact ⟨by rw [HV.out]; rfl, Below.refl _ _⟩
/-- A kind of value. -/
def isKind (k : UInt8) : Prop := k = 110 ∨ k = 97 ∨ k = 109 ∨ k = 111 ∨ k = 112
theorem value_any (w : World) (hm : mlIs w) (k : UInt8) (hk : isKind k) (s : List UInt8) (hl : s.length ≤ 1000000) : Calls Tryz.prog 93 #[.int .i32 (k.toNat : Int), .string (str s)] w (VlP w (valK k s)) := by
  rcases hk with rfl | rfl | rfl | rfl | rfl
  · exact value_n w s hl
  · exact value_a w s hl
  · exact value_m w s hl
  · exact value_o w hm s hl
  · exact value_p w s
end
section
open Go.RowKit

def IO (w : World) (H : Nat) (A : Option Addr) (n c : Nat) (l : List Value) : Prop := n = l.length ∧ w.ownsRow H 20 1 (.slice A n c) n l
theorem infoAny : (Tryz.prog.info? 20).map (fun i => (i.zero, i.size, i.bytes)) = some (some .nilIface, 1, 16) := by kernel_rfl
section
variable {w w' : World} {H n c : Nat} {A : Option Addr} {l : List Value}
theorem IO.alloc (h : IO w H A n c l) (o : Obj) : IO (w.alloc o) H A n c l := ⟨h.1, h.2.alloc o⟩
theorem IO.row (h : IO w H A n c l) : Row w w.heap.size A l := Row.of_own h.2
theorem IO.at_ (h : IO w H A n c l) {k : Nat} {v : Value} (hk : l[k]? = some v) : ∃ b o, A = some ⟨b, o, none⟩ ∧ b < w.heap.size ∧ w.cell? ⟨b, o + k, none⟩ = some v := h.row.at_ hk
theorem IO.below (h : IO w H A n c l) (hb : Below w.heap.size w w') : IO w' H A n c l := by
  refine ⟨h.1, h.2.kept (grown_of_below none hb) ?_⟩
  rcases (Value.slice A n c).ownBlock with _ | k
  · exact .inl rfl
  · exact .inr (by simp)
theorem IO.iterAt (h : IO w H A n c l) {k : Nat} {s : ByteArray} {pos : Nat} (hk : w.heap[k]? = some (.stringIter s pos)) (pos' : Nat) : IO (w.iterAt k s pos') H A n c l := by
  refine ⟨h.1, h.2.1, ?_⟩
  rcases h.2.2 with hn | ⟨g, cap, cur, hv, hb, hg, rest⟩
  · exact .inl hn
  · refine .inr ⟨g, cap, cur, hv, hb, ?_, rest⟩
    rw [Lib.iterAt_other]
    · exact hg
    · rintro rfl
      rw [hk] at hg
      cases hg
theorem IO.grow_ne (h : IO w H A n c l) {k : Nat} {s : ByteArray} {pos : Nat} (hk : w.heap[k]? = some (.stringIter s pos)) (hg : w.grownBy w' (Value.slice A n c).ownBlock) : w'.heap[k]? = some (.stringIter s pos) := by
  refine (hg.block k (heap_lt hk) ?_).trans hk
  intro e
  rcases h.2.2 with ⟨hv, _⟩ | ⟨g, cap, cur, hv, hb, hgg, _⟩
  · injection hv with e1 _ _
    subst e1
    simp [Value.ownBlock] at e
  · injection hv with e1 _ _
    subst e1
    simp [Value.ownBlock] at e
    subst e
    rw [hk] at hgg
    cases hgg
end
/-- append(own row of interface values, one). -/
theorem appI {w : World} {ops : Array Oper} {rest : List Oper} {o : Oper} {a : Act} {Q : Exit → Act → World → Prop} (hgd : o.guard = none) (s x : Operand)
    (ho : o.op = .call { callee := .builtin .append, args := #[s, x], argTypes := #[100, 100] })
    (H : Nat) (A : Option Addr) (n c : Nat) (l : List Value) (hs : a.eval s = .slice A n c) (hown : IO w H A n c l)
    (g c2 : Nat) (y : Value) (hy1 : y.oneCell' = true) (hx : a.eval x = .slice (some ⟨g, 0, none⟩) 1 c2) (hr : w.cell? ⟨g, 0, none⟩ = some y) (hgl : g < w.heap.size)
    (hlen : l.length ≤ 1000) (hbase : H ≤ w.heap.size)
    (h : ∀ A' n' c' w', IO w' H A' n' c' (l ++ [y]) → Below H w w' → w.grownBy w' (Value.slice A n c).ownBlock → wpList Tryz.prog ops Q rest (a.put o.dst (.slice A' n' c')) w') : wpList Tryz.prog ops Q (o :: rest) a w := by
  obtain ⟨i0, hi, hz0, hz1, hz2⟩ := info_parts infoAny
  obtain ⟨rfl, hown⟩ := hown
  refine wpList_app w hgd s x 100 ho 20 i0 .nilIface 16 Tryz.underlying100 hi hz0 hz1 hz2 rfl H _ _ _ hs hown w.heap.size (some ⟨g, 0, none⟩) 1 c2 [y] hx (.inr ⟨g, 0, rfl, hgl, ?_⟩) rfl (by simpa using hy1) (by unfold maxLen; omega) (by omega) hbase ?_
  · intro j u hj
    match j, hj with
    | 0, hj => simp at hj; subst hj; exact hr
  · intro A' c' w' ho' hg _
    exact h A' (l.length + 1) c' w' ⟨by simp, ho'⟩ ((Below.refl H w).grown hg hbase fun k hk => (hown.lt k hk).1) hg

def valsGo : List UInt8 → List (List UInt8) → Option (List Vl)
  | [], _ => some []
  | _ :: _, [] => none
  | k :: ks, x :: xs => match valK k x with
    | none => none
    | some v => (valsGo ks xs).map (v :: ·)
def valuesV (name text : List UInt8) : Option (List Vl) :=
  if kindsV name = [] ∨ (words text).length ≠ (kindsV name).length then none else valsGo (kindsV name) (words text)
theorem kinds_are (n : List UInt8) : ∀ k ∈ kindsV n, isKind k := by
  unfold kindsV isKind
  repeat' split
  all_goals decide
theorem kinds_asc (n : List UInt8) : asc (kindsV n) := fun k hk => by
  rcases kinds_are n k hk with rfl | rfl | rfl | rfl | rfl <;> decide
theorem kinds_len (n : List UInt8) : (kindsV n).length ≤ 4 := by
  unfold kindsV
  repeat' split
  all_goals decide
theorem words_mem (s : List UInt8) : ∀ x ∈ words s, x.length ≤ s.length := by
  suffices h : ∀ (s w : List UInt8), ∀ x ∈ wordsW w s, x.length ≤ w.length + s.length by
    intro x hx
    have := h s [] x hx
    simpa using this
  intro s
  induction s with
  | nil =>
    intro w x hx
    rw [wordsW] at hx
    split at hx
    · simp at hx
    · simp at hx; subst hx; simp
  | cons b r ih =>
    intro w x hx
    rw [wordsW] at hx
    split at hx
    · split at hx
      · have := ih [] x hx
        simp at this ⊢
        omega
      · rcases List.mem_cons.1 hx with rfl | hx
        · simp
        · have := ih [] x hx
          simp at this ⊢
          omega
    · have := ih (w ++ [b]) x hx
      simp at this ⊢
      omega
def VsP (w : World) (v : Option (List Vl)) (e : Ending) (w' : World) : Prop :=
  (match v with
    | some l => ∃ A n c, e = .returned (.tuple #[.slice A n c, .bool true]) ∧ IO w' w.heap.size A n c (l.map Vl.val)
    | none => e = .returned (.tuple #[.slice none 0 0, .bool false])) ∧ Below w.heap.size w w'
theorem val_one (v : Vl) : v.val.oneCell' = true := by cases v <;> rfl
end
section
open Go.RowKit

theorem vals_step {ks : List UInt8} {xs : List (List UInt8)} {j : Nat} (hk : j < ks.length) (hx : j < xs.length) :
    valsGo (ks.drop j) (xs.drop j) = match valK (ks.getD j 0) (xs.getD j []) with
      | none => none
      | some v => (valsGo (ks.drop (j + 1)) (xs.drop (j + 1))).map (v :: ·) := by
  rw [List.drop_eq_getElem_cons hk, List.drop_eq_getElem_cons hx, valsGo, show ks.getD j 0 = ks[j] by simp [List.getD, hk], show xs.getD j [] = xs[j] by simp [List.getD, hx]]
  all_goals (cases valK ks[j] xs[j] <;> rfl)
theorem row_cell {w : World} {B b o : Nat} {xs : List Value} (h : Row w B (some ⟨b, o, none⟩) xs) {j : Nat} {u : Value} (hj : xs[j]? = some u) : w.cell? ⟨b, o + j, none⟩ = some u := by
  have := h.cells _ rfl j u hj
  rw [Addr.add_lit] at this
  exact this
theorem val_nil (v : Vl) (w : World) : (binOp .eql 20 v.val .nilIface).run Tryz.prog w = .ok (.bool false) w := by
  cases v <;> kernel_rfl
theorem val_guard (v : Vl) (w : World) (x y : Operand) : (eqGuard .eql 20 x y v.val .nilIface).run Tryz.prog w = .ok () w := by
  cases v <;> rfl
theorem nil_nil (w : World) : (binOp .eql 20 .nilIface .nilIface).run Tryz.prog w = .ok (.bool true) w := by kernel_rfl
theorem nil_guard (w : World) (x : Operand) (v : Value) : (eqGuard .eql 20 x (.const v) .nilIface .nilIface).run Tryz.prog w = .ok () w := by
  cases x <;> rfl
set_option maxRecDepth 100000 in
set_option maxHeartbeats 4000000 in
theorem values_any (w : World) (hm : mlIs w) (name text : List UInt8) (ha : asc text) (hl : text.length ≤ 1000000) :
    Calls Tryz.prog 58 #[.string (str name), .string (str text)] w (VsP w (valuesV name text)) := by
  have hmp := hm.pos
  have hwl := words_mem text
  have hks := kinds_are name
  have hka := kinds_asc name
  have hkl := kinds_len name
  have hku : valuesV name text = if kindsV name = [] ∨ (words text).length ≠ (kindsV name).length then none else valsGo (kindsV name) (words text) := rfl
  obtain ⟨ks, hkv⟩ : ∃ ks, kindsV name = ks := ⟨_, rfl⟩
  have hkc := fun w => kinds_any w name
  rw [hkv] at hks hka hkl hku hkc
  have HKU := Lib.hid hku
  clear hku hkv
  go_enter Tryz.func58, Tryz.ntmps58
  go_wp2_with fail
  refine (words_any w text ha hl).mono ?_
  rintro e w1 ⟨A, n, c, rfl, ho, b1⟩
  obtain ⟨ws, hws⟩ : ∃ ws, words text = ws := ⟨_, rfl⟩
  rw [hws] at ho hwl
  have HWS := Lib.hid hws
  have HN := Lib.hid ho.1
  have hm1 := hm.below b1 hmp
  clear hws ha hm
  go_wp2_with fail
  refine (hkc w1).mono ?_
  rintro e w1' ⟨rfl, rfl⟩
  clear hkc
  have hsk : (str ks).size = ks.length := rfl
  by_cases hk0 : ks = []
  · have HV := Lib.hid (show valuesV name text = none by rw [HKU.out, if_pos (.inl hk0)])
    have x1 : ((str ks).toList.isEmpty) = true := by rw [toList_str, hk0]; rfl
    clear hk0
    go_wp2_with fail
    go_ret2
    exact ⟨by rw [HV.out]; rfl, b1⟩
  have x1 : ((str ks).toList.isEmpty) = false := by rw [toList_str]; simpa using hk0
  by_cases hnl : n = ks.length
  case neg =>
    have HV := Lib.hid (show valuesV name text = none by rw [HKU.out, if_pos (.inr (by rw [HWS.out]; have := HN.out; omega))])
    have x2 : ((n : Int) != (ks.length : Int)) = true := by rw [bne_iff_ne]; omega
    clear hk0 hnl
    go_wp2_with fail
    go_ret2
    exact ⟨by rw [HV.out]; rfl, b1⟩
  have x2 : ((n : Int) != (ks.length : Int)) = false := by rw [hnl]; simp
  have HV0 := Lib.hid (show valuesV name text = valsGo ks ws by rw [HKU.out, if_neg (by rw [HWS.out]; rintro (h | h); exact hk0 h; have := HN.out; omega), HWS.out])
  have hpos : 0 < ks.length := List.length_pos_iff.2 hk0
  obtain ⟨b, o, rfl, hbl, _⟩ := ho.at_ (getD_some [] (show 0 < ws.length by have := HN.out; omega))
  have hrow := ho.row
  obtain ⟨B, hB⟩ : ∃ B, w1'.heap.size = B := ⟨_, rfl⟩
  have HWN := Lib.hid (show ws.length = ks.length by have := HN.out; omega)
  have HNL := Lib.hid hnl
  clear hk0 HKU HWS HN ho hnl
  go_wp2_with fail
  have hit0 := World.iter_heap w1' (str ks) 0
  have b2 : Below w1'.heap.size w1' (w1'.iter (str ks) 0) := below_iter w1' _ _
  rw [hB] at hit0 b2 hrow
  have HB := Lib.hid hB
  have HROW := Lib.hid (hrow.below b2)
  have HB1 := Lib.hid (show w.heap.size ≤ B by have := b1.size; omega)
  have b2' := b1.trans (b2.mono HB1.out)
  have hm2 := hm1.below b2 (by have := hmp; have := HB1.out; omega)
  clear hB hrow hm1 b1
  generalize w1'.iter (str ks) 0 = wl at hit0 b2 b2' hm2 HROW ⊢
  go_loopw [8] (fun v wr => ∃ (A' : Option Addr) (n' c' j : Nat) (vs : List Vl), v = .slice A' n' c' ∧ j ≤ ks.length ∧ vs.length = j ∧ valsGo ks ws = (valsGo (ks.drop j) (ws.drop j)).map (vs ++ ·) ∧
    IO wr B A' n' c' (vs.map Vl.val) ∧ wr.heap[B]? = some (.stringIter (str ks) j) ∧ Below B wl wr) (fun _ wr => ks.length - wr.iterPos B)
  case atStart => exact ⟨none, 0, 0, 0, [], rfl, Nat.zero_le _, rfl, by simp, ⟨rfl, World.ownsRow_nil _ _ _ _⟩, hit0, Below.refl _ _⟩
  case round =>
    obtain ⟨A', n', c', j, vs, rfl, hj, hvl, hgo, hio, hit, hbr⟩ := hrel
    have HGO := Lib.hid hgo
    have HI := Lib.hid hit
    have HVL := Lib.hid hvl
    clear hgo hvl
    by_cases hlt : j < ks.length
    · have hnx := next_asc wr B ks j hka hit hlt
      have hks1 := hks (ks.getD j 0) (by simp [List.getD, hlt])
      have hstep := vals_step (ks := ks) (xs := ws) hlt (by have := HWN.out; omega)
      have hxl := hwl (ws.getD j []) (by have := HWN.out; simp [List.getD, show j < ws.length by omega])
      have hcell0 := row_cell (HROW.out.below hbr) (j := j) (u := .string (str (ws.getD j []))) (by have := HWN.out; simp [sv, List.getD, show j < ws.length by omega])
      obtain ⟨k, hk⟩ : ∃ k, ks.getD j 0 = k := ⟨_, rfl⟩
      obtain ⟨x, hx⟩ : ∃ x, ws.getD j [] = x := ⟨_, rfl⟩
      rw [hk] at hnx hks1 hstep
      rw [hx] at hxl hcell0 hstep
      have HST := Lib.hid hstep
      have hio2 := hio.iterAt hit (j + 1)
      have hit2 := Lib.iterAt_heap wr B (str ks) j (j + 1) hit
      have q2 := Lib.below_iterAt (Below.refl B wr) (k := B) (Nat.le_refl _) (str ks) (j + 1)
      have hb2 := hbr.trans q2
      have hz2 : B < (wr.iterAt B (str ks) (j + 1)).heap.size := heap_lt hit2
      have hcell : (wr.iterAt B (str ks) (j + 1)).cell? ⟨b, o + j, none⟩ = some (.string (str x)) := (World.cell?_of_block (w := wr) (a := ⟨b, o + j, none⟩) (q2.block b (by have := HB.out; omega))).trans hcell0
      have hm3 := hm2.below hb2 (by have := hmp; have := HB1.out; omega)
      have hjn : (0 : Int) ≤ (j : Int) ∧ (j : Int) < (n : Int) := by have := HNL.out; omega
      have HZ := Lib.hid hz2
      clear hit hio hk hx hstep hcell0 q2 hz2
      generalize wr.iterAt B (str ks) (j + 1) = wi at hnx hio2 hit2 hb2 HZ hcell hm3
      go_wp2_with fail
      refine (value_any wi hm3 k hks1 x (by omega)).mono ?_
      rintro e w4 ⟨rfl, q4⟩
      have hit4 := below_at q4 hit2 HZ.out
      have hio4 := hio2.below q4
      have hb4 := hb2.trans (q4.mono (by have := HZ.out; omega))
      have hz4 := heap_lt hit4
      clear hcell hm3 hio2 hit2 hb2 hks1
      rcases hv : valK k x with _ | v
      · have HV := Lib.hid (show valuesV name text = none by rw [HV0.out, HGO.out, HST.out, hv]; rfl)
        clear hv
        have hne := nil_nil
        have hgd := nil_guard
        rw [show valO none = Value.nilIface from rfl]
        go_wp2_with fail
        go_ret2
        exact ⟨by rw [HV.out]; rfl, b2'.trans (hb4.mono HB1.out)⟩
      · have hv1 := val_one v
        have HG2 := Lib.hid (show valsGo ks ws = (valsGo (ks.drop (j + 1)) (ws.drop (j + 1))).map ((vs ++ [v]) ++ ·) by
          rw [HGO.out, HST.out, hv]
          simp only [Option.map_map]
          congr 1
          funext l
          simp)
        clear hv
        have hne := val_nil v
        rw [show valO (some v) = v.val from rfl]
        obtain ⟨tt, xx, hu⟩ : ∃ t x, v.val = .iface t x := by cases v <;> exact ⟨_, _, rfl⟩
        have hgd := val_guard v
        rw [hu] at hv1 hne hgd ⊢
        have HU := Lib.hid hu
        clear hu
        go_wp2_with (at_builtin; go_must (refine appI rfl _ _ rfl B A' n' c' (vs.map Vl.val) rfl (hio4.alloc _) w4.heap.size 1 (.iface tt xx) hv1 rfl ((cells_of (heap_alloc_new w4 _)).1 0) (by simp) (by have := HVL.out; simp; omega) (by simp; omega) ?_))
        intro A2 n2 c2 w5 hio5 hbw hg
        have hit5 := IO.grow_ne (hio4.alloc _) (heap_alloc_of hit4) hg
        have hb5 := (hb4.alloc (by omega) _).trans hbw
        go_wp2_with fail
        go_roundw
        case rel => exact ⟨A2, n2, c2, j + 1, vs ++ [v], rfl, by omega, by have := HVL.out; simp; omega, HG2.out, by rw [List.map_append, List.map_cons, List.map_nil, HU.out]; exact hio5, hit5, hb5⟩
        case measure => simp [World.iterPos, hit5, HI.out]; omega
    · obtain rfl : j = ks.length := by omega
      have hnx : ∀ ty, (Instr.next (.pointer (some ⟨B, 0, none⟩)) true ty).run Tryz.prog wr = .ok (.tuple #[.bool false]) wr := fun ty => Lib.run_next_end_at wr B (str ks) ks.length ty hit (by rw [str_size]; omega)
      have HV := Lib.hid (show valuesV name text = some vs by rw [HV0.out, HGO.out, List.drop_length, valsGo]; simp)
      clear hit
      go_wp2_with fail
      go_ret2
      refine ⟨?_, b2'.trans (hbr.mono HB1.out)⟩
      rw [HV.out]
      exact ⟨A', n', c', rfl, hio.1, World.ownsRow.mono hio.2 HB1.out⟩
end
end Go.Proofs.YtnmdiageigbphaaGreatDoor
