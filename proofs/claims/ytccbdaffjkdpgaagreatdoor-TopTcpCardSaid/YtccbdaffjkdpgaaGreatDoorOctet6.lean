/-
  The writers' contracts in the words b16, b32; the references' U16, U32.
-/
import Derived.Test.YtccbdaffjkdpgaaGreatDoorOctet3
import Derived.Laws.BytesArg
import Derived.Test.YtccbdaffjkdpgaaGreatDoorRegion
import Derived.Laws.CopyOwn
namespace Go.Proofs.YtccbdaffjkdpgaaGreatDoor
section
open Go.RowKit

/-- The string of a list of bytes. -/
def str (l : List UInt8) : ByteArray := ⟨l.toArray⟩
theorem str_data (l : List UInt8) : (str l).data.toList = l := rfl
theorem str_size (l : List UInt8) : (str l).size = l.length := rfl
theorem str_inj {l m : List UInt8} (h : str l = str m) : l = m := by
  have := congrArg (fun s : ByteArray => s.data.toList) h
  exact this
theorem str_append (l m : List UInt8) : str l ++ str m = str (l ++ m) := by
  apply ByteArray.ext
  simp [str]
theorem strOfNums_bv (l : List UInt8) : strOfNums (l.map fun b => (b.toNat : Int)) = str l := by
  unfold strOfNums str
  congr 2
  rw [List.map_map]
  conv => rhs; rw [← List.map_id l]
  apply List.map_congr_left
  intro b _
  simp

/-- string(bytes). -/
theorem run_str {w : World} {B n c : Nat} {A : Option Addr} {l : List UInt8} (h : BS w B A n c l) :
    (convert 27 9 (.slice A n c)).run Tryz.prog w = .ok (.string (str l)) w := by
  obtain ⟨rfl, hnc, hcm, hr⟩ := h
  rcases hr with hr | ⟨b, o, rfl, _, hc⟩
  · obtain rfl : l = [] := by
      have := congrArg List.length hr
      rw [bv_length] at this
      exact List.eq_nil_of_length_eq_zero this
    rw [run_convert_bytes_string w 27 9 5 A _ _ Tryz.underlying27 Tryz.underlying5 Tryz.underlying9]
    cases A with
    | none => rfl
    | some a => rfl
  · have := run_convert_bytes_arg (P := Tryz.prog) w 27 5 Tryz.underlying27 Tryz.underlying5 b o l.length c (l.map fun b => (b.toNat : Int)) (by simp) (fun i hi => by
      rw [hc i _ (bv_get l i hi)]
      simp [hi]) 9 Tryz.underlying9
    rw [this, strOfNums_bv]

theorem BS.nil_ (w : World) (B : Nat) : BS w B none 0 0 [] := ⟨rfl, Nat.le_refl _, by simp [maxLen], .inl rfl⟩
def OwnPost (w : World) (l : List UInt8) (e : Ending) (w' : World) : Prop :=
  ∃ A n c, e = .returned (.slice A n c) ∧ OB w' w.heap.size A n c l ∧ Below w.heap.size w w'

/-- An integer's lowest byte. -/
def bN (x : Int) : UInt8 := UInt8.ofNat (x % 256).toNat
theorem bN_val (x : Int) : ((bN x).toNat : Int) = x % 256 := by
  unfold bN
  rw [UInt8.toNat_ofNat']
  omega

set_option maxHeartbeats 400000 in
theorem w16_any (w : World) (A : Option Addr) (n c : Nat) (l : List UInt8) (v : Int) (h : BS w w.heap.size A n c l) (hl : l.length ≤ 1099511627776) :
    Calls Tryz.prog 232 #[.slice A n c, .int .i64 v] w (OwnPost w (l ++ [bN (v / 256), bN v])) := by
  go_enter Tryz.func232, Tryz.ntmps232
  go_wp2_with (at_builtin; go_must (refine app8 rfl _ _ rfl w.heap.size _ 0 0 [] rfl (OB.empty w _ _ _ rfl (Nat.le_refl _) rfl) w.heap.size A n c l rfl (h.alloc (Nat.le_refl _) _) (by simp; omega) (by simp) ?_))
  intro A' n' c' w1 ho hb _
  have hz := hb.size
  go_wp2_with (at_builtin; go_must (refine app8 rfl _ _ rfl w.heap.size _ _ _ l rfl (ho.alloc _) _ _ 2 2 [bN (v / 256), bN v] rfl (BS.block [bN (v / 256), bN v] (heap_alloc_new w1 _) ?h1 (by simp [maxLen])) ?h2 ?h3 ?_))
  case h1 => simp [bv, bN_val]
  case h2 => simp; omega
  case h3 => simp at hz ⊢; omega
  intro A2 n2 c2 w2 ho2 hb2 _
  go_wp2
  go_ret
  exact ⟨A2, n2, c2, rfl, ho2, ((((Below.refl _ w).alloc (Nat.le_refl _) _).trans hb).alloc (by simp at hz; omega) _).trans hb2⟩

set_option maxHeartbeats 400000 in
theorem w32_any (w : World) (A : Option Addr) (n c : Nat) (l : List UInt8) (v : Int) (h : BS w w.heap.size A n c l) (hl : l.length ≤ 1099511627776) (hv0 : 0 ≤ v) (hv1 : v < 4294967296) :
    Calls Tryz.prog 231 #[.slice A n c, .int .u32 v] w (OwnPost w (l ++ [bN (v / 16777216), bN (v / 65536), bN (v / 256), bN v])) := by
  go_enter Tryz.func231, Tryz.ntmps231
  go_wp2_with (at_builtin; go_must (refine app8 rfl _ _ rfl w.heap.size _ 0 0 [] rfl (OB.empty w _ _ _ rfl (Nat.le_refl _) rfl) w.heap.size A n c l rfl (h.alloc (Nat.le_refl _) _) (by simp; omega) (by simp) ?_))
  intro A' n' c' w1 ho hb _
  have hz := hb.size
  go_wp2_with (at_builtin; go_must (refine app8 rfl _ _ rfl w.heap.size _ _ _ l rfl (ho.alloc _) _ _ 4 4 [bN (v / 16777216), bN (v / 65536), bN (v / 256), bN v] rfl (BS.block [bN (v / 16777216), bN (v / 65536), bN (v / 256), bN v] (heap_alloc_new w1 _) ?h1 (by simp [maxLen])) ?h2 ?h3 ?_))
  case h1 => simp [bv, bN_val]; omega
  case h2 => simp; omega
  case h3 => simp at hz ⊢; omega
  intro A2 n2 c2 w2 ho2 hb2 _
  go_wp2
  go_ret
  exact ⟨A2, n2, c2, rfl, ho2, ((((Below.refl _ w).alloc (Nat.le_refl _) _).trans hb).alloc (by simp at hz; omega) _).trans hb2⟩

set_option maxHeartbeats 400000 in
theorem rw16_any (w : World) (A : Option Addr) (n c : Nat) (l : List UInt8) (v : Int) (h : BS w w.heap.size A n c l) (hl : l.length ≤ 1099511627776) :
    Calls Tryz.prog 79 #[.slice A n c, .int .i64 v] w (OwnPost w (l ++ [bN (v / 256), bN v])) := by
  go_enter Tryz.func79, Tryz.ntmps79
  go_wp2_with (at_builtin; go_must (refine app8 rfl _ _ rfl w.heap.size _ 0 0 [] rfl (OB.empty w _ _ _ rfl (Nat.le_refl _) rfl) w.heap.size A n c l rfl (h.alloc (Nat.le_refl _) _) (by simp; omega) (by simp) ?_))
  intro A' n' c' w1 ho hb _
  have hz := hb.size
  go_wp2_with (at_builtin; go_must (refine app8 rfl _ _ rfl w.heap.size _ _ _ l rfl (ho.alloc _) _ _ 2 2 [bN (v / 256), bN v] rfl (BS.block [bN (v / 256), bN v] (heap_alloc_new w1 _) ?h1 (by simp [maxLen])) ?h2 ?h3 ?_))
  case h1 => simp [bv, bN_val]
  case h2 => simp; omega
  case h3 => simp at hz ⊢; omega
  intro A2 n2 c2 w2 ho2 hb2 _
  go_wp2
  go_ret
  exact ⟨A2, n2, c2, rfl, ho2, ((((Below.refl _ w).alloc (Nat.le_refl _) _).trans hb).alloc (by simp at hz; omega) _).trans hb2⟩
def b32 (v : Int) : List UInt8 := [bN (v / 16777216), bN (v / 65536), bN (v / 256), bN v]
def b16 (v : Int) : List UInt8 := [bN (v / 256), bN v]

theorem bN_lt (x y : Int) : bN x < bN y ↔ x % 256 < y % 256 := by
  have h1 := bN_val x
  have h2 := bN_val y
  rw [UInt8.lt_iff_toNat_lt]
  omega
theorem bN_eq (x y : Int) : bN x = bN y ↔ x % 256 = y % 256 := by
  have h1 := bN_val x
  have h2 := bN_val y
  rw [← UInt8.toNat_inj]
  omega
theorem toList_str (l : List UInt8) : (str l).toList = l := ByteArray.toList_mk l
theorem and_mask (x : Int) (m k : Nat) (hm : m = 2 ^ k - 1) (hk : k ≤ 62) : bits BinOp.and IntKind.i64 x (m : Int) = x % (2 ^ k : Nat) := by
  have h2 : 2 ^ k ≤ 2 ^ 62 := Nat.pow_le_pow_right (by omega) hk
  have hp : 0 < 2 ^ k := Nat.two_pow_pos k
  have hmm : (BitVec.ofInt 64 (m : Int)).toNat = m := by
    rw [BitVec.ofInt_natCast, BitVec.toNat_ofNat]; exact Nat.mod_eq_of_lt (by omega)
  show IntKind.i64.wrap ((BitVec.ofInt 64 x &&& BitVec.ofInt 64 (m : Int)).toNat : Int) = _
  rw [BitVec.toNat_and, hmm, hm, Nat.and_two_pow_sub_one_eq_mod, BitVec.toNat_ofInt, IntKind.wrap_i64]
  have h1 : ((2 ^ 64 : Nat) : Int) = (2 ^ (64 - k) : Nat) * (2 ^ k : Nat) := by
    rw [← Int.natCast_mul, ← Nat.pow_add]; congr 2; omega
  have h3 : (((x % (2 ^ 64 : Nat)).toNat % 2 ^ k : Nat) : Int) = x % (2 ^ k : Nat) := by
    rw [Int.natCast_emod, Int.toNat_of_nonneg (Int.emod_nonneg _ (by decide)), h1, Int.emod_emod_of_dvd _ (Int.dvd_mul_left _ _)]
  rw [h3]
  have h4 : 0 ≤ x % (2 ^ k : Nat) := Int.emod_nonneg _ (by omega)
  have h5 : x % (2 ^ k : Nat) < (2 ^ k : Nat) := Int.emod_lt_of_pos _ (by omega)
  generalize x % (2 ^ k : Nat) = y at *
  omega
theorem and16 (x : Int) : bits BinOp.and IntKind.i64 x 65535 = x % 65536 := and_mask x 65535 16 rfl (by omega)

/-- What the writers leave, said so that any order of the calls and the readings serves: in every later world the slice reads as the bytes' string. -/
def Later (w : World) (A : Option Addr) (n c : Nat) (l : List UInt8) : Prop :=
  ∀ w', Below w.heap.size w w' → (convert 27 9 (.slice A n c)).run Tryz.prog w' = .ok (.string (str l)) w'

theorem BS.later {w : World} {B n c : Nat} {A : Option Addr} {l : List UInt8} (h : BS w B A n c l) (hB : B ≤ w.heap.size) : Later w A n c l :=
  fun _ hb => run_str (h.below (hb.mono hB))
theorem Later.drew {w : World} {A : Option Addr} {n c : Nat} {l : List UInt8} (h : Later w A n c l) : Later w.drew A n c l :=
  fun w' hb => h w' ⟨hb.os, hb.tape, hb.output, hb.size, hb.block⟩
theorem Later.mono {w w' : World} {A : Option Addr} {n c : Nat} {l : List UInt8} (h : Later w A n c l) (hb : Below w.heap.size w w') : Later w' A n c l :=
  fun w2 h2 => h w2 (hb.trans (h2.mono hb.size))
theorem Later.now {w : World} {A : Option Addr} {n c : Nat} {l : List UInt8} (h : Later w A n c l) : (convert 27 9 (.slice A n c)).run Tryz.prog w = .ok (.string (str l)) w :=
  h w (Below.refl _ _)
end
section
open Go.RowKit

theorem grown_of_below {w w' : World} (row : Option Nat) (hb : Below w.heap.size w w') : w.grownBy w' row :=
  ⟨hb.os, hb.tape, hb.output, hb.size, fun k hk _ => hb.block k hk⟩
theorem BS.ext {w w' : World} {B n c : Nat} {A : Option Addr} {l : List UInt8} {M : Nat → Prop} (h : BS w B A n c l) (hx : Ext M w w') (hB : B ≤ w.heap.size) (hM : ∀ k, k < B → ¬ M k) : BS w' B A n c l :=
  h.below (hx.below hB hM)
theorem OB.ext {w w' : World} {H n c : Nat} {A : Option Addr} {l : List UInt8} {M : Nat → Prop} (h : OB w H A n c l) (hx : Ext M w w') (hM : ∀ k, H ≤ k → k < w.heap.size → ¬ M k) : OB w' H A n c l :=
  ⟨h.1, h.2.1, by
    rcases h.2.2 with h0 | ⟨g, cap, cur, hv, hb, hg, rest⟩
    · exact .inl h0
    · exact .inr ⟨g, cap, cur, hv, hb, (hx.block g (heap_lt hg) (hM g hb (heap_lt hg))).trans hg, rest⟩⟩
theorem Rd.ext {w w' : World} {g : Nat} {l : List UInt8} {sh : Bool} {M : Nat → Prop} (h : Rd w g l sh) (hx : Ext M w w') (hM : ∀ k, k ≤ g → ¬ M k) : Rd w' g l sh :=
  h.below (hx.below (H := g + 1) h.lt fun k hk => hM k (by omega)) (by omega)
theorem BS.reads {w : World} {B n c : Nat} {A : Option Addr} {l : List UInt8} {M : Nat → Prop} (h : BS w B A n c l) (hB : B ≤ w.heap.size) (hM : ∀ k, k < B → ¬ M k) :
    ∀ x, Ext M w x → (convert 27 9 (.slice A n c)).run Tryz.prog x = .ok (.string (str l)) x :=
  fun _ hx => run_str (h.ext hx hB hM)
theorem OB.reads {w : World} {H n c : Nat} {A : Option Addr} {l : List UInt8} {M : Nat → Prop} (h : OB w H A n c l) (hM : ∀ k, H ≤ k → k < w.heap.size → ¬ M k) :
    ∀ x, Ext M w x → (convert 27 9 (.slice A n c)).run Tryz.prog x = .ok (.string (str l)) x :=
  fun _ hx => run_str (h.ext hx hM).bs

theorem BS.part {w : World} {g o : Nat} {cs : Array Value} {t : TypeId} {fr : Nat × Nat} (l : List UInt8) (c : Nat) (h : w.heap[g]? = some (.cells cs t fr)) (hc : (cs.toList.drop o).take l.length = bv l) (hl : l.length ≤ c) (hm : c ≤ maxLen) :
    BS w (g + 1) (some ⟨g, o, none⟩) l.length c l := by
  refine ⟨rfl, hl, hm, .inr ⟨g, o, rfl, by omega, fun j u hu => ?_⟩⟩
  rw [cell_of_row w g (o + j) _ t fr h]
  rw [← hc, List.getElem?_take] at hu
  split at hu
  · rw [List.getElem?_drop] at hu
    simpa using hu
  · cases hu
theorem Ext.cells {w : World} {M : Nat → Prop} {g : Nat} {cs : Array Value} {t : TypeId} (h : w.heap[g]? = some (.cells cs t (0, 0))) (hM : ¬ M g) :
    ∀ x, Ext M w x → ∀ j, x.cell? ⟨g, j, none⟩ = cs[j]? := by
  intro x hx j
  have h1 := (hx.block g (heap_lt h) hM).trans h
  simp [World.cell?, h1]
theorem infoU8s : (Tryz.prog.info? 5).map (·.size) = some 1 := by kernel_rfl

/-- append(own row of bytes, bytes...), at one operation. -/
theorem wp_app8 {w : World} {o : Oper} {a : Act} {K : Act → World → Prop} {Q : Exit → Act → World → Prop} (s x : Operand) (_T1 _T2 : TypeId)
    (ho : o.op = .call { callee := .builtin .append, args := #[s, x], argTypes := #[27, 27] })
    (H : Nat) (A : Option Addr) (n c : Nat) (l : List UInt8) (hs : a.eval s = .slice A n c) (hown : OB w H A n c l)
    (B : Nat) (A2 : Option Addr) (n2 c2 : Nat) (l2 : List UInt8) (hx : a.eval x = .slice A2 n2 c2) (hr : BS w B A2 n2 c2 l2)
    (hlen : l.length + l2.length ≤ 140737488355328) (hbase : H ≤ w.heap.size)
    (h : ∀ A' n' c' w', OB w' H A' n' c' (l ++ l2) → Below H w w' → w.grownBy w' (Value.slice A n c).ownBlock → K (a.put o.dst (.slice A' n' c')) w') : o.wp Tryz.prog a w K Q := by
  obtain ⟨i0, hi, hz0, hz1, hz2⟩ := info_parts infoU8
  obtain ⟨rfl, hown⟩ := hown
  obtain ⟨rfl, hnc, hcm, hr⟩ := hr
  refine wp_app w s x 27 ho 5 i0 (.int .u8 0) 1 Tryz.underlying27 hi hz0 hz1 hz2 rfl H _ _ _ hs hown B A2 _ c2 (bv l2) hx hr (bv_length l2) (bv_one l2) (by unfold maxLen; omega) (by omega) hbase ?_
  intro A' c' w' ho' hg _
  exact h A' (l.length + l2.length) c' w' ⟨by simp, by rw [bv_append]; exact ho'⟩ ((Below.refl H w).grown hg hbase fun k hk => (hown.lt k hk).1) hg

/-- What a block holds behind a copy of l into it from cell off on. -/
def splice8 (cur : Array Value) (off : Nat) (l : List UInt8) : Array Value := (cur.toList.take off ++ (bv l ++ cur.toList.drop (off + l.length))).toArray

/-- copy(a row of cells, bytes), at one operation. -/
theorem run_copy8 {w : World} {ty : TypeId} {g off dLen dCap : Nat} {cur : Array Value} {t : TypeId} (hg : w.heap[g]? = some (.cells cur t (0, 0)))
    {B n c : Nat} {A : Option Addr} {l : List UInt8} (h : BS w B A n c l) (hn : n ≤ dLen) (hfit : off + n ≤ cur.size) :
    ∃ w', (Builtin.copy_ #[27, 27] ty #[.slice (some ⟨g, off, none⟩) dLen dCap, .slice A n c]).run Tryz.prog w = .ok (goInt n) w' ∧
      w'.heap[g]? = some (.cells (splice8 cur off l) t (0, 0)) ∧ w.grownBy w' (some g) := by
  obtain ⟨rfl, hnc, hcm, hr⟩ := h
  rcases A with _ | ad
  · have h0 : bv l = [] := by
      rcases hr with hr | ⟨_, _, hA, _⟩
      · exact hr
      · cases hA
    obtain rfl : l = [] := by
      have := congrArg List.length h0
      rw [bv_length] at this
      exact List.eq_nil_of_length_eq_zero this
    refine ⟨w, ?_, ?_, World.grownBy.refl w _⟩
    · cases hq : Tryz.prog.info? 5 with
      | none => have := infoU8s; rw [hq] at this; cases this
      | some i => simp [Builtin.copy_, run_underlying Tryz.underlying27, Builtin.lenOf, Builtin.firstCells, sizeOf, typeInfo, hq, storeCells]
    · rw [hg]; simp [splice8, bv]
  · have hm : Nat.min l.length dLen = l.length := Nat.min_eq_left hn
    have hrun := run_copy_row (P := Tryz.prog) w 27 27 ty 5 g off dLen dCap ad l.length c cur t (bv l) Tryz.underlying27 infoU8s hg
      (by rw [bv_length, hm]) (hr.cells ad rfl) (by rw [bv_length]; exact hfit) (bv_one l)
    rw [bv_length] at hrun
    refine ⟨_, hrun, ?_, ⟨rfl, rfl, rfl, by simp [World.setRow], fun k hk hne => setRow_other w g k _ (fun e => hne (by rw [e]))⟩⟩
    rw [setRow_heap w g cur _ t (0, 0) hg]
    simp [splice8, List.append_assoc]

theorem wp_copy8 {w : World} {o : Oper} {a : Act} {K : Act → World → Prop} {Q : Exit → Act → World → Prop} (d s : Operand)
    (ho : o.op = .call { callee := .builtin .copy, args := #[d, s], argTypes := #[27, 27] })
    (g off dLen dCap : Nat) (cur : Array Value) (t : TypeId) (hd : a.eval d = .slice (some ⟨g, off, none⟩) dLen dCap) (hg : w.heap[g]? = some (.cells cur t (0, 0)))
    (B n c : Nat) (A : Option Addr) (l : List UInt8) (hs : a.eval s = .slice A n c) (hb : BS w B A n c l) (hn : n ≤ dLen) (hfit : off + n ≤ cur.size)
    (h : ∀ w', w'.heap[g]? = some (.cells (splice8 cur off l) t (0, 0)) → w.grownBy w' (some g) → K (a.put o.dst (goInt n)) w') : o.wp Tryz.prog a w K Q := by
  obtain ⟨w', hrun, h1, h2⟩ := run_copy8 (ty := o.type) (dCap := dCap) hg hb hn hfit
  unfold Oper.wp execOp
  simp only [ho, resolve, invoke, builtin, Sem.run_bind, Sem.run_pure, Result.andThen_ok, List.map_toArray, List.map_cons, List.map_nil, hd, hs, hrun]
  exact h w' h1 h2
theorem wpList_copy8 {w : World} {ops : Array Oper} {rest : List Oper} {o : Oper} {a : Act} {Q : Exit → Act → World → Prop} (hgd : o.guard = none) (d s : Operand)
    (ho : o.op = .call { callee := .builtin .copy, args := #[d, s], argTypes := #[27, 27] })
    (g off dLen dCap : Nat) (cur : Array Value) (t : TypeId) (hd : a.eval d = .slice (some ⟨g, off, none⟩) dLen dCap) (hg : w.heap[g]? = some (.cells cur t (0, 0)))
    (B n c : Nat) (A : Option Addr) (l : List UInt8) (hs : a.eval s = .slice A n c) (hb : BS w B A n c l) (hn : n ≤ dLen) (hfit : off + n ≤ cur.size)
    (h : ∀ w', w'.heap[g]? = some (.cells (splice8 cur off l) t (0, 0)) → w.grownBy w' (some g) → wpList Tryz.prog ops Q rest (a.put o.dst (goInt n)) w') : wpList Tryz.prog ops Q (o :: rest) a w :=
  wpList_plain hgd fun _ hK => wp_copy8 d s ho g off dLen dCap cur t hd hg B n c A l hs hb hn hfit fun w' h1 h2 => hK _ _ (h w' h1 h2)
end
section
open Go.RowKit

theorem i64_or_join (a b : Nat) (i : Nat) (ha : a % 2 ^ i = 0) (hb : b < 2 ^ i) (hab : a + b < 9223372036854775808) : bits BinOp.or IntKind.i64 (a : Int) (b : Int) = (a : Int) + b := by
  have oi : ∀ x : Nat, x < 9223372036854775808 → (BitVec.ofInt 64 (x : Int)).toNat = x := fun x hx => by
    rw [BitVec.ofInt_natCast, BitVec.toNat_ofNat]; exact Nat.mod_eq_of_lt (by omega)
  show IntKind.i64.wrap ((BitVec.ofInt 64 (a : Int) ||| BitVec.ofInt 64 (b : Int)).toNat : Int) = _
  rw [BitVec.toNat_or, oi a (by omega), oi b (by omega), nat_join i a b ha hb, IntKind.wrap_i64]
  omega
theorem and16u (x : Int) (h0 : 0 ≤ x) (h1 : x < 4294967296) : bits BinOp.and IntKind.u32 x 65535 = x % 65536 := by
  obtain ⟨n, rfl⟩ := Int.eq_ofNat_of_zero_le h0
  have := u32_and_nat n 65535 (by omega) (by omega)
  rw [show ((65535 : Nat) : Int) = 65535 by rfl] at this
  rw [this, nat_mask16]
  omega
theorem beN_b16 (v : Int) : (beN (b16 v) : Int) = v % 65536 := by
  have h1 := bN_val (v / 256)
  have h2 := bN_val v
  simp only [b16, beN, List.foldl_cons, List.foldl_nil]
  omega
theorem beN_b32 (v : Int) (h0 : 0 ≤ v) (h1 : v < 4294967296) : (beN (b32 v) : Int) = v := by
  have h1 := bN_val (v / 256)
  have h2 := bN_val v
  have h3 := bN_val (v / 65536)
  have h4 := bN_val (v / 16777216)
  simp only [b32, beN, List.foldl_cons, List.foldl_nil]
  omega
theorem b32_b16 (v : Int) (_h0 : 0 ≤ v) (_h1 : v < 4294967296) : b32 v = b16 (v / 65536) ++ b16 (v % 65536) := by
  have e1 : bN (v / 65536 / 256) = bN (v / 16777216) := by have := bN_eq (v / 65536 / 256) (v / 16777216); rw [this]; omega
  have e2 : bN (v % 65536 / 256) = bN (v / 256) := by rw [bN_eq]; omega
  have e3 : bN (v % 65536) = bN v := by rw [bN_eq]; omega
  simp [b32, b16, e1, e2, e3]

set_option maxHeartbeats 400000 in
theorem rw32_any (w : World) (A : Option Addr) (n c : Nat) (l : List UInt8) (v : Int) (h : BS w w.heap.size A n c l) (hl : l.length ≤ 1000000000) (hv0 : 0 ≤ v) (hv1 : v < 4294967296) :
    Calls Tryz.prog 74 #[.slice A n c, .int .u32 v] w (OwnPost w (l ++ b32 v)) := by
  have hx := and16u v hv0 hv1
  go_enter Tryz.func74, Tryz.ntmps74
  go_wp2_with fail
  refine (rw16_any w A n c l _ h (by omega)).mono ?_
  rintro e w1 ⟨A1, n1, c1, rfl, ho1, hb1⟩
  go_wp2_with fail
  refine (rw16_any w1 A1 n1 c1 _ _ ho1.bs (by simp; omega)).mono ?_
  rintro e w2 ⟨A2, n2, c2, rfl, ho2, hb2⟩
  go_wp2_with fail
  go_ret
  have e1 : l ++ [bN (v / 65536 / 256), bN (v / 65536)] ++ [bN (v % 65536 / 256), bN (v % 65536)] = l ++ b32 v := by
    rw [b32_b16 v hv0 hv1, List.append_assoc]; rfl
  rw [e1] at ho2
  exact ⟨A2, n2, c2, rfl, ho2.lower hb1.size, hb1.trans (hb2.mono hb1.size)⟩
theorem w16_post (w : World) (A : Option Addr) (n c : Nat) (l : List UInt8) (v : Int) (h : BS w w.heap.size A n c l) (hl : l.length ≤ 1099511627776) :
    Calls Tryz.prog 232 #[.slice A n c, .int .i64 v] w (OwnPost w (l ++ b16 v)) := w16_any w A n c l v h hl
theorem w32_post (w : World) (A : Option Addr) (n c : Nat) (l : List UInt8) (v : Int) (h : BS w w.heap.size A n c l) (hl : l.length ≤ 1099511627776) (hv0 : 0 ≤ v) (hv1 : v < 4294967296) :
    Calls Tryz.prog 231 #[.slice A n c, .int .u32 v] w (OwnPost w (l ++ b32 v)) := w32_any w A n c l v h hl hv0 hv1
theorem rw16_post (w : World) (A : Option Addr) (n c : Nat) (l : List UInt8) (v : Int) (h : BS w w.heap.size A n c l) (hl : l.length ≤ 1099511627776) :
    Calls Tryz.prog 79 #[.slice A n c, .int .i64 v] w (OwnPost w (l ++ b16 v)) := rw16_any w A n c l v h hl
end
end Go.Proofs.YtccbdaffjkdpgaaGreatDoor
