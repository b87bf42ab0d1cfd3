/-
  conf: what a configuration that may be is known by.
-/
import Derived.Test.YtnmdiageigbphaaGreatDoorTq2
import Derived.Test.YtnmdiageigbphaaGreatDoorBsh
import Derived.Test.YtnmdiageigbphaaGreatDoorKq12
namespace Go.Proofs.YtnmdiageigbphaaGreatDoor
section
open Go.RowKit

def ln (nm v : List UInt8) : List UInt8 := nm ++ [32, 61, 32] ++ v
def headL (c : Cf) : List (List UInt8) :=
  [ln nLan (textN c.own c.lanB.toNat), ln nLanmac (textM c.lm), ln nWanmac (textM c.wm), ln nFirst (textA c.fst), ln nLast (textA c.lst), ln nTime (decB c.time.toNat), ln nDns (textA c.dns),
    ln nUdp (decB c.udp.toNat), ln nTcp (decB c.tcp.toNat), ln nIcmp (decB c.icmp.toNat), ln nLow (decB c.low.toNat)]
def fxT (f : Fx) : List UInt8 := ln nFixed (textM f.m ++ 32 :: textA f.a)
def prT (p : Int) : List UInt8 := if p = 17 then sUdp else sTcp
def opT (o : Opn) : List UInt8 := ln nOpen (prT o.pr ++ 32 :: (decB o.po.toNat ++ 32 :: (textA o.a ++ 32 :: decB o.tp.toNat)))
def linesG (C : Cg) : List (List UInt8) := headL C.c ++ C.lf.map fxT ++ C.lo.map opT
/-- Lines, one behind the other, each with its end. -/
def catL (l : List (List UInt8)) : List UInt8 := (l.map (· ++ [10])).flatten
def textG (C : Cg) : List UInt8 := catL (linesG C)
theorem catL_snoc (l : List (List UInt8)) (x : List UInt8) : catL (l ++ [x]) = catL l ++ (x ++ [10]) := by simp [catL]
theorem kept_below {e : TypeId} {b : Option Nat} {w w' : World} (q : Below w.heap.size w w') : Lib.OthersKept e b w w' := fun k o h _ _ => (q.block k (heap_lt h)).trans h
theorem BB.lt {B b : Nat} {bs : List UInt8} {w : World} (h : BB B b bs w) : b < w.heap.size := by
  rcases h with h | h <;> exact h.lt
theorem below_mono_eq {B : Nat} {w w' : World} (q : Below w.heap.size w w') (h : B ≤ w.heap.size) : Below B w w' := q.mono h
set_option maxRecDepth 100000 in
set_option maxHeartbeats 2000000 in
theorem lineF_any (w : World) (b : Nat) (bs nm : List UInt8) (hb : BB b b bs w) (bk o c n : Nat) (vs : List (List UInt8)) (hn : n = vs.length)
    (hcells : ∀ j x, vs[j]? = some x → w.cell? ⟨bk, o + j, none⟩ = some (.string (str x))) (hbk : bk < w.heap.size) (hN : n ≤ 10) (hcap : n ≤ c) (l1 : nm.length ≤ 100) (l2 : (Lib.join vs [32]).length ≤ 1000) (l3 : bs.length ≤ 900000) :
    Calls Tryz.prog 30 #[.string (str nm), .slice (some ⟨bk, o, none⟩) n c, .pointer (some ⟨b, 0, none⟩)] w
      (fun e w' => e = .returned (.tuple #[]) ∧ BB b b (bs ++ (ln nm (Lib.join vs [32]) ++ [10])) w' ∧ Below b w w' ∧ Lib.OthersKept 5 (some b) w w') := by
  have hbl := hb.lt
  have hj := join_any w bk o c n vs [32] hn hcells hbk (by omega) hcap (by omega)
  obtain ⟨J, hJ⟩ : ∃ J, Lib.join vs [32] = J := ⟨_, rfl⟩
  rw [hJ] at hj l2 ⊢
  have a1 : ∀ w, (Op.stringOp .add (str nm) ⟨#[32, 61, 32]⟩).run Tryz.prog w = .ok (.string (str (nm ++ [32, 61, 32]))) w := fun w => str_addL w nm [32, 61, 32] (by simp; omega)
  have hL : (ln nm J ++ [10]).length ≤ 1200 := by simp [ln]; omega
  have HL := Lib.hid (show ln nm J ++ [10] = nm ++ [32, 61, 32] ++ J ++ [10] from rfl)
  obtain ⟨U, hU⟩ : ∃ U, nm ++ [32, 61, 32] = U := ⟨_, rfl⟩
  have hUl : U.length ≤ 103 := by rw [← hU]; simp; omega
  have a2 : ∀ w, (Op.stringOp .add (str U) (str J)).run Tryz.prog w = .ok (.string (str (U ++ J))) w := fun w => str_addL w U J (by omega)
  have a3 : ∀ w, (Op.stringOp .add (str (U ++ J)) ⟨#[10]⟩).run Tryz.prog w = .ok (.string (str (U ++ J ++ [10]))) w := fun w => str_addL w (U ++ J) [10] (by simp; omega)
  rw [hU] at a1
  have HLL := Lib.hid (show ln nm J ++ [10] = U ++ J ++ [10] by rw [HL.out, hU])
  obtain ⟨V, hV⟩ : ∃ V, U ++ J ++ [10] = V := ⟨_, rfl⟩
  have HV := Lib.hid (show ln nm J ++ [10] = V by rw [HLL.out, hV])
  rw [hV] at a3
  have hVl : V.length ≤ 1200 := by rw [← HV.out]; exact hL
  clear hn hcells hJ hL hU hV HL HLL hUl
  go_enter Tryz.func30, Tryz.ntmps30
  go_wp2_with fail
  refine hj.mono ?_
  rintro e w1 ⟨rfl, q1⟩
  have hb1 := hb.next q1
  have hz1 := q1.size
  clear hj
  go_wp2_with fail
  refine (bwrite_any b b bs V w1 hb1 (by omega) (by omega)).mono ?_
  rintro e w2 ⟨rfl, hb2, q2, k2⟩
  go_wp2_with fail
  go_end0
  exact ⟨rfl, by rw [HV.out]; exact hb2, (q1.mono (by omega)).trans q2, (kept_below q1).trans k2⟩
/-- What holds between two lines written: the builder at block b, the configuration at block g0. -/
structure TxI (b g0 : Nat) (cs : Array Value) (wb : World) (L : List (List UInt8)) (w : World) : Prop where
  q : Below b wb w
  bb : BB b b (catL L) w
  pw : powIs w
  P : w.heap[g0]? = some (.cells cs 32 (0, 0))
  len : (catL L).length ≤ 300 * L.length
theorem TxI.next {b g0 : Nat} {cs : Array Value} {wb w w' : World} {L : List (List UInt8)} (I : TxI b g0 cs wb L w) (p : Below w.heap.size w w') : TxI b g0 cs wb L w' :=
  ⟨I.q.trans (p.mono (Nat.le_of_lt I.bb.lt)), I.bb.next p, I.pw.below p, below_at p I.P (heap_lt I.P), I.len⟩
theorem powIs.belowB {w w' : World} {B : Nat} (h : powIs w) (hb : Below B w w') (hB : 1 < B) : powIs w' := by
  unfold powIs Lib.TabIs World.var? at h ⊢
  rw [globPow] at h ⊢
  rw [Option.bind_some] at h ⊢
  rw [hb.block 1 hB]
  exact h
/-- One line of one value. -/
theorem line1_any {b g0 : Nat} {cs : Array Value} {wb w : World} {L : List (List UInt8)} (I : TxI b g0 cs wb L w) (nm v : List UInt8) (hg : g0 < b) (hp : 1 < b) (l1 : nm.length ≤ 50) (l2 : v.length ≤ 240) (l3 : L.length ≤ 1000) :
    Calls Tryz.prog 30 #[.string (str nm), .slice (some ⟨w.heap.size, 0, none⟩) 1 1, .pointer (some ⟨b, 0, none⟩)] (w.alloc (.cells #[.string (str v)] 9))
      (fun e w' => e = .returned (.tuple #[]) ∧ TxI b g0 cs wb (L ++ [ln nm v]) w') := by
  have I2 := I.next ((Below.refl w.heap.size w).alloc (Nat.le_refl _) (.cells #[.string (str v)] 9))
  have hll := I.len
  have hc := (cells_of (heap_alloc_new w (.cells #[.string (str v)] 9))).1
  refine (lineF_any _ b _ nm I2.bb w.heap.size 0 1 1 [v] rfl (fun j x hx => ?_) (by simp) (by decide) (Nat.le_refl _) (by omega) (by rw [Lib.join_one]; omega) (by omega)).mono ?_
  · rcases j with _ | j
    · obtain rfl : v = x := by simpa using hx
      exact hc 0
    · simp at hx
  · rintro e w' ⟨rfl, h1, h2, h3⟩
    rw [Lib.join_one] at h1
    refine ⟨rfl, I2.q.trans h2, by rw [catL_snoc]; exact h1, I2.pw.belowB h2 hp, below_at h2 I2.P hg, ?_⟩
    rw [catL_snoc]
    have e : (ln nm v ++ [10]).length = nm.length + v.length + 4 := by simp [ln]; omega
    rw [List.length_append, e]
    simp
    omega
/-- One line of some values, wherever they lie. -/
theorem lineN_any {b g0 : Nat} {cs : Array Value} {wb w : World} {L : List (List UInt8)} (I : TxI b g0 cs wb L w) (nm : List UInt8) (vs : List (List UInt8)) (bk n c : Nat) (hn : n = vs.length) (hN : n ≤ 10) (hcap : n ≤ c) (hbk : bk < w.heap.size)
    (hcells : ∀ j x, vs[j]? = some x → w.cell? ⟨bk, 0 + j, none⟩ = some (.string (str x))) (hg : g0 < b) (hp : 1 < b) (l1 : nm.length ≤ 50) (l2 : (Lib.join vs [32]).length ≤ 240) (l3 : L.length ≤ 1000) :
    Calls Tryz.prog 30 #[.string (str nm), .slice (some ⟨bk, 0, none⟩) n c, .pointer (some ⟨b, 0, none⟩)] w
      (fun e w' => e = .returned (.tuple #[]) ∧ TxI b g0 cs wb (L ++ [ln nm (Lib.join vs [32])]) w' ∧ Below b w w' ∧ Lib.OthersKept 5 (some b) w w') := by
  have hll := I.len
  refine (lineF_any _ b _ nm I.bb bk 0 c n vs hn hcells hbk hN hcap (by omega) (by omega) (by omega)).mono ?_
  rintro e w' ⟨rfl, h1, h2, h3⟩
  refine ⟨rfl, ⟨I.q.trans h2, by rw [catL_snoc]; exact h1, I.pw.belowB h2 hp, below_at h2 I.P hg, ?_⟩, h2, h3⟩
  rw [catL_snoc]
  have e : (ln nm (Lib.join vs [32]) ++ [10]).length = nm.length + (Lib.join vs [32]).length + 4 := by simp [ln]; omega
  rw [List.length_append, e]
  simp
  omega
theorem netText_int (w : World) (hp : powIs w) (a : Ad4) (b : Int) (h0 : 0 ≤ b) (h1 : b ≤ 1000) : Calls Tryz.prog 33 #[netV a b] w (fun e w' => e = .returned (.string (str (textN a b.toNat))) ∧ Below w.heap.size w w') := by
  have h := netText_any w hp a b.toNat (by omega)
  rwa [Int.toNat_of_nonneg h0] at h
theorem itoa_int (w : World) (hp : powIs w) (v : Int) (h0 : 0 ≤ v) (h1 : v ≤ 9000000000) : Calls Tryz.prog 36 #[.int .i64 v] w (fun e w' => e = .returned (.string (str (decB v.toNat))) ∧ Below w.heap.size w w') := by
  have h := itoa_any w hp v.toNat (by omega)
  rwa [Int.toNat_of_nonneg h0] at h
set_option maxRecDepth 100000 in
theorem protocol_any (w : World) (p : Int) : Calls Tryz.prog 37 #[.int .i64 p] w (fun e w' => e = .returned (.string (str (prT p))) ∧ w' = w) := by
  by_cases h : p = 17
  · have d1 : (p == 17) = true := by rw [h]; rfl
    have HP := Lib.hid (show prT p = sUdp from if_pos h)
    clear h
    go_enter Tryz.func37, Tryz.ntmps37
    go_wp2_with fail
    go_ret
    exact ⟨by rw [HP.out]; rfl, rfl⟩
  · have d1 : (p == 17) = false := by rw [beq_eq_false_iff_ne]; exact h
    have HP := Lib.hid (show prT p = sTcp from if_neg h)
    clear h
    go_enter Tryz.func37, Tryz.ntmps37
    go_wp2_with fail
    go_ret
    exact ⟨by rw [HP.out]; rfl, rfl⟩
theorem decB_len9 {n : Nat} (h : n < 1000000000) : (decB n).length ≤ 9 := dec_len 8 n h
theorem dec_len240 (n : Nat) (h : n ≤ 9000000000) : (decB n).length ≤ 240 := by have := decB_le n; omega
theorem join_two (x y : List UInt8) : Lib.join [x, y] [32] = x ++ 32 :: y := by simp [Lib.join, List.intercalate]
theorem join_four (x y z u : List UInt8) : Lib.join [x, y, z, u] [32] = x ++ 32 :: (y ++ 32 :: (z ++ 32 :: u)) := by simp [Lib.join, List.intercalate]
theorem textM_17 (m : Mac6) : (textM m).length = 17 := by simp [textM, hex2]
/-- What may change beside a line written: the builder, rows of bytes, what is new. -/
def kM (b : Nat) (w0 : World) : Nat → Prop := fun j => j = b ∨ w0.heap.size ≤ j ∨ ∃ cs fr, w0.heap[j]? = some (.cells cs 5 fr)
theorem kM_no {b gf : Nat} {w : World} {cs : Array Value} {t : TypeId} {fr : Nat × Nat} (h : w.heap[gf]? = some (.cells cs t fr)) (hb : gf ≠ b) (ht : t ≠ 5) : ¬ kM b w gf := by
  rintro (h1 | h1 | ⟨cs', fr', h1⟩)
  · exact hb h1
  · have := heap_lt h
    omega
  · rw [h] at h1
    injection h1 with h1
    injection h1 with _ h1 _
    exact ht h1
/-- A line written, beside a region: what lay there and is no row of bytes stays. -/
theorem ext_kept {b : Nat} {w0 w w' : World} (e : Ext (kM b w0) w0.drew w) (q : Below b w w') (k : Lib.OthersKept 5 (some b) w w') (_ : b ≤ w.heap.size) :
    Ext (kM b w0) w w' := by
  refine ⟨q.os, q.tape, q.output, q.size, fun j hj hn => ?_⟩
  have h1 : j ≠ b := fun h => hn (.inl h)
  have h2 : j < w0.heap.size := Nat.lt_of_not_le fun h => hn (.inr (.inl h))
  have h3 := e.block j h2 hn
  have h4 : w0.drew.heap[j]? = w0.heap[j]? := rfl
  have h5 : w.heap[j]? = some (w.heap[j]'hj) := Array.getElem?_eq_getElem hj
  rw [h5]
  refine k j _ h5 (fun h => h1 (by injection h)) fun cs fr h => hn (.inr (.inr ⟨cs, fr, ?_⟩))
  rw [← h4, ← h3, h5, h]
end
section
open Go.RowKit

/-- What a configuration that may be is known by. -/
structure OkG (c : Cf) (lf : List Fx) (lo : List Opn) : Prop where
  b0 : 8 ≤ c.lanB
  b1 : c.lanB ≤ 30
  t : 0 ≤ c.time ∧ c.time ≤ 86400
  u : 0 ≤ c.udp ∧ c.udp ≤ 86400
  tc : 0 ≤ c.tcp ∧ c.tcp ≤ 86400
  ic : 0 ≤ c.icmp ∧ c.icmp ≤ 86400
  lw : 1024 ≤ c.low ∧ c.low ≤ 60000
  nf : lf.length ≤ 32
  no : lo.length ≤ 32
  fx : ∀ f ∈ lf, devB c f.a = true
  op : ∀ x ∈ lo, protB x.pr = true ∧ 1 ≤ x.po ∧ x.po ≤ c.low - 1 ∧ 1 ≤ x.tp ∧ x.tp ≤ 65535 ∧ devB c x.a = true
theorem fixGo_dev {c : Cf} : ∀ {l : List Fx} {sm sa : List (List UInt8)}, fixGo c sm sa l = true → ∀ f ∈ l, devB c f.a = true
  | [], _, _, _ => fun _ h => by cases h
  | g :: r, sm, sa, h => fun f hf => by
    rw [fixGo] at h
    simp only [Bool.and_eq_true] at h
    rcases List.mem_cons.1 hf with rfl | hf
    · exact h.1.1.1
    · exact fixGo_dev h.2 f hf
theorem opnGo_ok {c : Cf} : ∀ {l : List Opn} {S : List (List UInt8)}, opnGo c S l = true → ∀ x ∈ l, protB x.pr = true ∧ 1 ≤ x.po ∧ x.po ≤ c.low - 1 ∧ 1 ≤ x.tp ∧ x.tp ≤ 65535 ∧ devB c x.a = true
  | [], _, _ => fun _ h => by cases h
  | g :: r, S, h => fun x hx => by
    rw [opnGo] at h
    simp only [Bool.and_eq_true, inR, decide_eq_true_eq] at h
    rcases List.mem_cons.1 hx with rfl | hx
    · obtain ⟨⟨⟨⟨⟨h1, h2, h3⟩, h4, h5⟩, h6⟩, _⟩, _⟩ := h
      exact ⟨h1, h2, h3, h4, h5, h6⟩
    · exact opnGo_ok h.2 x hx
theorem ok_of {c : Cf} {lf : List Fx} {lo : List Opn} (h : chkG ⟨c, lf, lo⟩ = 0) : OkG c lf lo := by
  have h1 : checkG ⟨c, lf, lo⟩ = true := by
    rw [chkG] at h
    split at h
    · assumption
    · cases h
  simp only [checkG, Bool.and_eq_true] at h1
  obtain ⟨⟨⟨⟨hn, _⟩, ht⟩, hf⟩, ho⟩ := h1
  rw [netB] at hn
  rw [timesB] at ht
  rw [fixB] at hf
  rw [opnB] at ho
  simp only [Bool.and_eq_true, inR, decide_eq_true_eq] at hn ht hf ho
  refine ⟨by omega, by omega, by omega, by omega, by omega, by omega, by omega, by omega, by omega, fixGo_dev hf.1, opnGo_ok ho.1⟩
theorem textA_240 (a : Ad4) : (textA a).length ≤ 240 := by have := textA_le a; omega
theorem textM_240 (m : Mac6) : (textM m).length ≤ 240 := by simp [textM, hex2]
theorem textN_240 (a : Ad4) (n : Nat) (h : n ≤ 1000) : (textN a n).length ≤ 240 := by
  have := textA_le a
  have := decB_le n
  simp [textN]
  omega
end
end Go.Proofs.YtnmdiageigbphaaGreatDoor
