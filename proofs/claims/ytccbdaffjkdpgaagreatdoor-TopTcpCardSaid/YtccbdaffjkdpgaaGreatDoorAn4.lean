/-
  The reading of a device's address (package addr).
-/
import Derived.Test.YtccbdaffjkdpgaaGreatDoorZeros
import Derived.Lib.TrimUEq
import Derived.Lib.OthersKept
import Derived.Laws.RangeAny
import Derived.Test.YtccbdaffjkdpgaaGreatDoorBig
namespace Go.Proofs.YtccbdaffjkdpgaaGreatDoor
section
open Go.RowKit

/-- One rune of a string: where its first byte is below 128: that byte; else none of its bytes is below 128, nor is it. -/
theorem dec_step (l : List UInt8) (pos : Nat) (h : pos < l.length) : ∃ r k : Nat, Utf8.decode (str l) pos = (r, k) ∧ 1 ≤ k ∧ pos + k ≤ l.length ∧ r ≤ 1114111 ∧
    (((l.getD pos 0).toNat < 128 ∧ r = (l.getD pos 0).toNat ∧ k = 1) ∨ (128 ≤ (l.getD pos 0).toNat ∧ 128 ≤ r ∧ ∀ j, pos ≤ j → j < pos + k → 128 ≤ (l.getD j 0).toNat)) := by
  have e := Lib.decode_N (str l) pos
  rw [str_data] at e
  have hr := Lib.rune_le (str l) pos
  obtain ⟨b0, hb0⟩ : ∃ b0, (l.getD pos 0).toNat = b0 := ⟨_, rfl⟩
  obtain ⟨b1, hb1⟩ : ∃ b1, (l.getD (pos + 1) 0).toNat = b1 := ⟨_, rfl⟩
  obtain ⟨b2, hb2⟩ : ∃ b2, (l.getD (pos + 2) 0).toNat = b2 := ⟨_, rfl⟩
  obtain ⟨b3, hb3⟩ : ∃ b3, (l.getD (pos + 3) 0).toNat = b3 := ⟨_, rfl⟩
  have hl0 := (l.getD pos 0).toNat_lt
  rw [hb0, hb1, hb2, hb3] at e
  rw [e] at hr
  rw [hb0] at hl0 ⊢
  have one : ∀ j, pos ≤ j → j < pos + 1 → (l.getD j 0).toNat = b0 := by
    intro j h1 h2
    obtain rfl : j = pos := by omega
    exact hb0
  refine ⟨(Lib.decodeN (l.length - pos) b0 b1 b2 b3).1, (Lib.decodeN (l.length - pos) b0 b1 b2 b3).2, e, ?_⟩
  unfold Lib.decodeN at hr ⊢
  split
  · exact ⟨by simp, by simp; omega, by simp at hr ⊢; omega, .inl ⟨by omega, rfl, rfl⟩⟩
  · rename_i hn
    refine ⟨?_, ?_, by rw [if_neg hn] at hr; exact hr, .inr ⟨by omega, ?_, ?_⟩⟩
    · repeat' split
      all_goals simp
    · repeat' split
      all_goals simp only
      all_goals omega
    · repeat' split
      all_goals simp only
      all_goals omega
    · intro j h1 h2
      have hj : j = pos ∨ j = pos + 1 ∨ j = pos + 2 ∨ j = pos + 3 ∨ pos + 4 ≤ j := by omega
      rcases hj with rfl | rfl | rfl | rfl | hj
      · omega
      · rw [hb1]
        revert h2
        repeat' split
        all_goals simp only
        all_goals omega
      · rw [hb2]
        revert h2
        repeat' split
        all_goals simp only
        all_goals omega
      · rw [hb3]
        revert h2
        repeat' split
        all_goals simp only
        all_goals omega
      · revert h2
        repeat' split
        all_goals simp only
        all_goals omega

/-- Digits, read from n on; whether it is the first. -/
def numGo : Nat → Bool → List UInt8 → Option Nat
  | n, _, [] => some n
  | n, first, b :: r => if b.toNat < 48 ∨ 57 < b.toNat ∨ (first = false ∧ n = 0) ∨ 1000 < n then none else numGo (10 * n + (b.toNat - 48)) false r
def numV (s : List UInt8) : Nat := (numGo 0 true s).getD 0
def numOk (s : List UInt8) (most : Nat) : Bool := (numGo 0 true s).isSome && !s.isEmpty && decide (numV s ≤ most)
theorem numOk_le {s : List UInt8} {most : Nat} (h : numOk s most = true) : numV s ≤ most := by
  simp [numOk] at h
  exact h.2
theorem numGo_le : ∀ (l : List UInt8) (n : Nat) (f : Bool) (v : Nat), n ≤ 10009 → numGo n f l = some v → v ≤ 10009
  | [], n, f, v, h, e => by simp [numGo] at e; omega
  | b :: r, n, f, v, h, e => by
    rw [numGo] at e
    split at e
    · cases e
    · have := b.toNat_lt
      exact numGo_le r _ false v (by omega) e
theorem numV_le (s : List UInt8) : numV s ≤ 10009 := by
  unfold numV
  rcases h : numGo 0 true s with _ | v
  · simp
  · exact numGo_le s 0 true v (by omega) h
theorem drop_get (l : List UInt8) (pos : Nat) (h : pos < l.length) : l.drop pos = l.getD pos 0 :: l.drop (pos + 1) := by
  rw [List.drop_eq_getElem_cons h]
  simp [List.getD, h]
def NrPost (w : World) (s : List UInt8) (most : Nat) (e : Ending) (w' : World) : Prop :=
  e = .returned (.tuple #[.int .i64 (numV s), .bool (numOk s most)]) ∧ Below w.heap.size w w'
theorem below_iter (w : World) (s : ByteArray) (pos : Nat) : Below w.heap.size w (w.iter s pos) := (Below.refl _ w).alloc (Nat.le_refl _) _

theorem num_none {s : List UInt8} {most : Nat} (h : numGo 0 true s = none) : numV s = 0 ∧ numOk s most = false := by simp [numV, numOk, h]
theorem num_some {s : List UInt8} {most n : Nat} (h : numGo 0 true s = some n) : numV s = n ∧ numOk s most = (!s.isEmpty && decide (n ≤ most)) := by simp [numV, numOk, h]

set_option maxRecDepth 100000 in
set_option maxHeartbeats 2000000 in
theorem num_any (w : World) (s : List UInt8) (most : Nat) (hl : s.length ≤ 1099511627776) (_hm : most ≤ 1000) :
    Calls Tryz.prog 440 #[.string (str s), .int .i64 most] w (NrPost w s most) := by
  go_enter Tryz.func440, Tryz.ntmps440
  go_wp2_with fail
  go_loopw [6] (fun v wr => ∃ n pos : Nat, v = .int .i64 n ∧ pos ≤ s.length ∧ n ≤ 10009 ∧ numGo 0 true s = numGo n (pos == 0) (s.drop pos) ∧ wr = w.iter (str s) pos) (fun _ wr => s.length - wr.iterPos w.heap.size)
  case atStart => exact ⟨0, 0, rfl, Nat.zero_le _, Nat.zero_le _, rfl, rfl⟩
  case round =>
    obtain ⟨n, pos, rfl, hp, hn, hg, rfl⟩ := hrel
    have HG := Lib.hid hg
    clear hg
    by_cases hlt : pos < s.length
    · obtain ⟨r, k, hd, hk1, hk2, hr, hrk⟩ := dec_step s pos hlt
      have hnx : ∀ ty, (Instr.next (.pointer (some ⟨w.heap.size, 0, none⟩)) true ty).run Tryz.prog (w.iter (str s) pos) = .ok (.tuple #[.bool true, .int .i64 pos, .int .i32 r]) (w.iter (str s) (pos + k)) := by
        intro ty
        have := run_next_any (P := Tryz.prog) w (str s) pos ty hlt
        rw [hd] at this
        exact this
      have HE := Lib.hid (drop_get s pos hlt)
      have HRK := Lib.hid hrk
      clear hrk hd
      have bad : (r < 48 ∨ 57 < r ∨ (0 < pos ∧ n = 0) ∨ 1000 < n) → numGo 0 true s = none := by
        intro hbad
        rw [HG.out, HE.out, numGo, if_pos]
        rcases HRK.out with ⟨h1, h2, h3⟩ | ⟨h1, h2, h3⟩
        · rcases hbad with h | h | h | h
          · exact .inl (by omega)
          · exact .inr (.inl (by omega))
          · exact .inr (.inr (.inl ⟨by rw [beq_eq_false_iff_ne]; omega, h.2⟩))
          · exact .inr (.inr (.inr h))
        · exact .inr (.inl (by omega))
      have good : 48 ≤ r → r ≤ 57 → ¬ (0 < pos ∧ n = 0) → ¬ 1000 < n → k = 1 ∧ numGo 0 true s = numGo (10 * n + (r - 48)) false (s.drop (pos + 1)) := by
        intro g1 g2 g3 g4
        rcases HRK.out with ⟨h1, h2, h3⟩ | ⟨h1, h2, h3⟩
        · refine ⟨h3, ?_⟩
          rw [HG.out, HE.out, numGo, if_neg, ← h2]
          rintro (h | h | h | h)
          · omega
          · omega
          · have h5 := h.1
            rw [beq_eq_false_iff_ne] at h5
            exact g3 ⟨by omega, h.2⟩
          · omega
        · omega
      have HBAD := Lib.hid bad
      have HGOOD := Lib.hid good
      clear bad good
      by_cases c1 : r < 48
      · have HB := Lib.hid (num_none (most := most) (HBAD.out (.inl c1)))
        have d1 : decide ((r : Int) < 48) = true := decide_eq_true (by omega)
        go_wp2_with fail
        go_ret2
        exact ⟨by rw [HB.out.1, HB.out.2]; rfl, below_iter w _ _⟩
      have d1 : decide ((r : Int) < 48) = false := decide_eq_false (by omega)
      by_cases c2 : 57 < r
      · have HB := Lib.hid (num_none (most := most) (HBAD.out (.inr (.inl c2))))
        have d2 : decide (57 < (r : Int)) = true := decide_eq_true (by omega)
        go_wp2_with fail
        go_ret2
        exact ⟨by rw [HB.out.1, HB.out.2]; rfl, below_iter w _ _⟩
      have d2 : decide (57 < (r : Int)) = false := decide_eq_false (by omega)
      by_cases c3 : 0 < pos ∧ n = 0
      · have HB := Lib.hid (num_none (most := most) (HBAD.out (.inr (.inr (.inl c3)))))
        have d3 : decide (0 < (pos : Int)) = true := decide_eq_true (by omega)
        have d4 : ((n : Int) == 0) = true := by rw [beq_iff_eq]; omega
        go_wp2_with fail
        go_ret2
        exact ⟨by rw [HB.out.1, HB.out.2]; rfl, below_iter w _ _⟩
      rcases Nat.eq_zero_or_pos pos with c4 | c4
      case' inl =>
        subst c4
        have d3 : decide (0 < ((0 : Nat) : Int)) = false := rfl
      case' inr =>
        have d3 : decide (0 < (pos : Int)) = true := decide_eq_true (by omega)
        have d4 : ((n : Int) == 0) = false := by rw [beq_eq_false_iff_ne]; omega
      all_goals
        by_cases c5 : 1000 < n
        · have HB := Lib.hid (num_none (most := most) (HBAD.out (.inr (.inr (.inr c5)))))
          have d5 : decide (1000 < (n : Int)) = true := decide_eq_true (by omega)
          go_wp2_with fail
          go_ret2
          exact ⟨by rw [HB.out.1, HB.out.2]; rfl, below_iter w _ _⟩
        · have d5 : decide (1000 < (n : Int)) = false := decide_eq_false (by omega)
          have HB := Lib.hid (HGOOD.out (by omega) (by omega) c3 c5)
          obtain rfl : k = 1 := HB.out.1
          go_wp2_with fail
          go_roundw
          case rel => exact ⟨10 * n + (r - 48), _, by congr 1; omega, by omega, by omega, by exact HB.out.2, rfl⟩
          case measure => simp; omega
    · have hnx : ∀ ty, (Instr.next (.pointer (some ⟨w.heap.size, 0, none⟩)) true ty).run Tryz.prog (w.iter (str s) pos) = .ok (.tuple #[.bool false]) (w.iter (str s) pos) := fun ty => run_next_end w (str s) pos ty hlt
      have HB := Lib.hid (num_some (most := most) (show numGo 0 true s = some n by rw [HG.out, List.drop_eq_nil_of_le (by omega)]; rfl))
      by_cases hs : s = []
      · have hts : (str s).toList = [] := by rw [toList_str, hs]
        have HS := Lib.hid hs
        clear hs
        go_wp2_with fail
        go_ret2
        exact ⟨by rw [HB.out.1, HB.out.2, HS.out]; rfl, below_iter w _ _⟩
      · have hts : ¬ (str s).toList = [] := by rw [toList_str]; exact hs
        have HS := Lib.hid hs
        clear hs
        go_wp2_with fail
        go_ret2
        refine ⟨?_, below_iter w _ _⟩
        have := HS.out
        rw [HB.out.1, HB.out.2, toList_str]
        rfl
end
section
open Go.RowKit

/-- A text cut at each such byte. -/
def cutB (c : UInt8) : List UInt8 → List (List UInt8)
  | [] => [[]]
  | x :: r => if x = c then [] :: cutB c r else match cutB c r with
    | p :: q => (x :: p) :: q
    | [] => [[x]]
theorem cutB_none (c : UInt8) : ∀ a : List UInt8, (∀ x ∈ a, x ≠ c) → cutB c a = [a]
  | [], _ => rfl
  | x :: r, h => by
    rw [cutB, if_neg (h x (by simp)), cutB_none c r (fun y hy => h y (by simp [hy]))]
theorem cutB_cons (c : UInt8) (b : List UInt8) : ∀ a : List UInt8, (∀ x ∈ a, x ≠ c) → cutB c (a ++ c :: b) = a :: cutB c b
  | [], _ => by simp [cutB]
  | x :: r, h => by
    rw [List.cons_append, cutB, if_neg (h x (by simp)), cutB_cons c b r (fun y hy => h y (by simp [hy]))]
theorem cutB_length (c : UInt8) : ∀ a : List UInt8, (cutB c a).length ≤ a.length + 1
  | [] => by simp [cutB]
  | x :: r => by
    have h := cutB_length c r
    rw [cutB]
    split
    · simp; omega
    · split
      · rename_i hq
        rw [hq] at h
        simp at h ⊢
        omega
      · simp
theorem cutB_mem (c : UInt8) : ∀ (a : List UInt8) (p : List UInt8), p ∈ cutB c a → p.length ≤ a.length
  | [], p, h => by simp [cutB] at h; simp [h]
  | x :: r, p, h => by
    have ih := cutB_mem c r
    rw [cutB] at h
    split at h
    · rcases List.mem_cons.1 h with rfl | h
      · simp
      · have := ih p h; simp; omega
    · split at h
      · rename_i q0 q hq
        rw [hq] at ih
        rcases List.mem_cons.1 h with rfl | h
        · have := ih q0 (by simp); simp; omega
        · have := ih p (by simp [h]); simp; omega
      · simp at h; subst h; simp

/-- Strings' cells. -/
def sv (l : List (List UInt8)) : List Value := l.map fun s => .string (str s)
/-- A slice of strings of the call's own. -/
def SO (w : World) (H : Nat) (A : Option Addr) (n c : Nat) (l : List (List UInt8)) : Prop := n = l.length ∧ w.ownsRow H 9 1 (.slice A n c) n (sv l)
theorem infoStr : (Tryz.prog.info? 9).map (fun i => (i.zero, i.size, i.bytes)) = some (some (.string ⟨#[]⟩), 1, 16) := by kernel_rfl
theorem sv_length (l : List (List UInt8)) : (sv l).length = l.length := by simp [sv]
theorem sv_one (l : List (List UInt8)) : ∀ u ∈ sv l, u.oneCell' = true := by
  intro u hu
  obtain ⟨b, _, rfl⟩ := List.mem_map.1 hu
  rfl
section
variable {w w' : World} {H n c : Nat} {A : Option Addr} {l : List (List UInt8)}
theorem SO.alloc (h : SO w H A n c l) (o : Obj) : SO (w.alloc o) H A n c l := ⟨h.1, h.2.alloc o⟩
theorem SO.row (h : SO w H A n c l) : Row w w.heap.size A (sv l) := Row.of_own h.2
theorem SO.at_ (h : SO w H A n c l) {k : Nat} {s : List UInt8} (hk : l[k]? = some s) : ∃ b o, A = some ⟨b, o, none⟩ ∧ b < w.heap.size ∧ w.cell? ⟨b, o + k, none⟩ = some (.string (str s)) :=
  h.row.at_ (by simp [sv, hk])
theorem SO.iterAt (h : SO w H A n c l) {k : Nat} {s : ByteArray} {pos : Nat} (hk : w.heap[k]? = some (.stringIter s pos)) (pos' : Nat) : SO (w.iterAt k s pos') H A n c l := by
  refine ⟨h.1, h.2.1, ?_⟩
  rcases h.2.2 with hn | ⟨g, cap, cur, hv, hb, hg, rest⟩
  · exact .inl hn
  · refine .inr ⟨g, cap, cur, hv, hb, ?_, rest⟩
    rw [Lib.iterAt_other]
    · exact hg
    · rintro rfl
      rw [hk] at hg
      cases hg
theorem SO.grow_ne (h : SO w H A n c l) {k : Nat} {s : ByteArray} {pos : Nat} (hk : w.heap[k]? = some (.stringIter s pos)) (hg : w.grownBy w' (Value.slice A n c).ownBlock) : w'.heap[k]? = some (.stringIter s pos) := by
  refine (hg.block k (heap_lt hk) ?_).trans hk
  intro e
  rcases h.2.2 with ⟨hv, _⟩ | ⟨g, cap, cur, hv, hb, hgg, _⟩
  · injection hv with e1 _ _
    subst e1
    simp [Value.ownBlock] at e
  · injection hv with e1 _ _
    subst e1
    simp [Value.ownBlock] at e
    subst e
    rw [hk] at hgg
    cases hgg
end
/-- append(own row of strings, a string). -/
theorem appS {w : World} {ops : Array Oper} {rest : List Oper} {o : Oper} {a : Act} {Q : Exit → Act → World → Prop} (hgd : o.guard = none) (s x : Operand)
    (ho : o.op = .call { callee := .builtin .append, args := #[s, x], argTypes := #[205, 205] })
    (H : Nat) (A : Option Addr) (n c : Nat) (l : List (List UInt8)) (hs : a.eval s = .slice A n c) (hown : SO w H A n c l)
    (g c2 : Nat) (y : List UInt8) (hx : a.eval x = .slice (some ⟨g, 0, none⟩) 1 c2) (hr : w.cell? ⟨g, 0, none⟩ = some (.string (str y))) (hgl : g < w.heap.size)
    (hlen : l.length ≤ 1099511627777) (hbase : H ≤ w.heap.size)
    (h : ∀ A' n' c' w', SO w' H A' n' c' (l ++ [y]) → Below H w w' → w.grownBy w' (Value.slice A n c).ownBlock → wpList Tryz.prog ops Q rest (a.put o.dst (.slice A' n' c')) w') : wpList Tryz.prog ops Q (o :: rest) a w := by
  obtain ⟨i0, hi, hz0, hz1, hz2⟩ := info_parts infoStr
  obtain ⟨rfl, hown⟩ := hown
  refine wpList_app w hgd s x 205 ho 9 i0 (.string ⟨#[]⟩) 16 Tryz.underlying205 hi hz0 hz1 hz2 rfl H _ _ _ hs hown w.heap.size (some ⟨g, 0, none⟩) 1 c2 (sv [y]) hx (.inr ⟨g, 0, rfl, hgl, ?_⟩) rfl (sv_one [y]) (by unfold maxLen; omega) (by omega) hbase ?_
  · intro j u hj
    match j, hj with
    | 0, hj => simp [sv] at hj; subst hj; exact hr
  · intro A' c' w' ho' hg _
    exact h A' (l.length + 1) c' w' ⟨by simp, by rw [show sv (l ++ [y]) = sv l ++ sv [y] by simp [sv]]; exact ho'⟩ ((Below.refl H w).grown hg hbase fun k hk => (hown.lt k hk).1) hg

def PartsPost (w : World) (l : List (List UInt8)) (e : Ending) (w' : World) : Prop :=
  ∃ A n c, e = .returned (.slice A n c) ∧ SO w' w.heap.size A n c l ∧ Below w.heap.size w w'
/-- Behind some rounds: these parts, and from where the next begins. -/
def PRel (w : World) (s : List UInt8) (c : UInt8) (v f : Value) (wr : World) (pos : Nat) : Prop :=
  ∃ A n cc ps from_, v = .slice A n cc ∧ f = .int .i64 (from_ : Nat) ∧ SO wr w.heap.size A n cc ps ∧ from_ ≤ pos ∧ pos ≤ s.length ∧ ps.length ≤ from_ ∧ cutB c s = ps ++ cutB c (s.drop from_) ∧
    (∀ j, from_ ≤ j → j < pos → s.getD j 0 ≠ c) ∧ wr.heap[w.heap.size]? = some (.stringIter (str s) pos) ∧ Below w.heap.size w wr
theorem extr (s : List UInt8) (a b : Nat) : (str s).extract a b = str ((s.drop a).take (b - a)) := ByteArray.extract_mk s a b
theorem no_sign {s : List UInt8} {c : UInt8} {f p : Nat} (h : ∀ j, f ≤ j → j < p → s.getD j 0 ≠ c) : ∀ x ∈ (s.drop f).take (p - f), x ≠ c := by
  intro x hx
  obtain ⟨i, hi⟩ := List.mem_iff_getElem?.1 hx
  have hlt := (List.getElem?_eq_some_iff.1 hi).1
  simp at hlt
  rw [List.getElem?_take_of_lt (by omega), List.getElem?_drop] at hi
  have := h (f + i) (by omega) (by omega)
  simp [List.getD, hi] at this
  exact this
theorem cut_at {s : List UInt8} {c : UInt8} {f p : Nat} (h : ∀ j, f ≤ j → j < p → s.getD j 0 ≠ c) (hf : f ≤ p) (hp : p < s.length) (hc : s.getD p 0 = c) : cutB c (s.drop f) = (s.drop f).take (p - f) :: cutB c (s.drop (p + 1)) := by
  rw [← cutB_cons c _ _ (no_sign h)]
  congr 1
  have e1 := List.take_append_drop (p - f) (s.drop f)
  rw [List.drop_drop, show f + (p - f) = p by omega, drop_get s p hp, hc] at e1
  exact e1.symm

set_option maxRecDepth 100000 in
set_option maxHeartbeats 4000000 in
theorem parts_any (w : World) (s : List UInt8) (c : UInt8) (hc : c.toNat < 128) (hl : s.length ≤ 1099511627776) :
    Calls Tryz.prog 439 #[.string (str s), .int .i32 (c.toNat : Int)] w (PartsPost w (cutB c s)) := by
  go_enter Tryz.func439, Tryz.ntmps439
  go_wp2_with fail
  go_loopw [5, 6] (fun v f wr => ∃ pos, PRel w s c v f wr pos) (fun _ _ wr => s.length - wr.iterPos w.heap.size)
  case atStart => exact ⟨0, none, 0, 0, [], 0, rfl, rfl, ⟨rfl, World.ownsRow_nil _ _ _ _⟩, Nat.le_refl _, Nat.zero_le _, Nat.le_refl _, by simp, fun j h1 h2 => by omega, World.iter_heap w (str s) 0, below_iter w _ _⟩
  case round =>
    obtain ⟨pos, A, n, cc, ps, f, rfl, rfl, ho, hfp, hp, hpf, hcut, hno, hit, hb⟩ := hrel
    have HC := Lib.hid hcut
    have HN := Lib.hid hno
    have HI := Lib.hid hit
    clear hcut hno
    have hz := hb.size
    by_cases hlt : pos < s.length
    · obtain ⟨r, k, hd, hk1, hk2, hr, hrk⟩ := dec_step s pos hlt
      have hnx : ∀ ty, (Instr.next (.pointer (some ⟨w.heap.size, 0, none⟩)) true ty).run Tryz.prog wr = .ok (.tuple #[.bool true, .int .i64 pos, .int .i32 r]) (wr.iterAt w.heap.size (str s) (pos + k)) := by
        intro ty
        have := Lib.run_next_any_at (P := Tryz.prog) wr w.heap.size (str s) pos ty hit hlt
        rw [hd] at this
        exact this
      have ho2 := ho.iterAt hit (pos + k)
      have hit2 := Lib.iterAt_heap wr w.heap.size (str s) pos (pos + k) hit
      have hb2 := Lib.below_iterAt hb (k := w.heap.size) (Nat.le_refl _) (str s) (pos + k)
      have hz2 : w.heap.size < (wr.iterAt w.heap.size (str s) (pos + k)).heap.size := heap_lt hit2
      have HRK := Lib.hid hrk
      have HZ := Lib.hid hz2
      clear hrk hd hit ho hz2
      generalize wr.iterAt w.heap.size (str s) (pos + k) = wi at hnx ho2 hit2 hb2 HZ
      by_cases hs : r = c.toNat
      · have hk : k = 1 ∧ s.getD pos 0 = c := by
          rcases HRK.out with ⟨h1, h2, h3⟩ | ⟨h1, h2, h3⟩
          · exact ⟨h3, UInt8.toNat_inj.1 (by omega)⟩
          · omega
        obtain ⟨rfl, hsc⟩ := hk
        have x1 : ((r : Int) == (c.toNat : Int)) = true := by rw [beq_iff_eq]; omega
        have HCA := Lib.hid (cut_at HN.out hfp hlt hsc)
        have HX := Lib.hid (extr s f pos)
        have bnd : f ≤ pos ∧ pos ≤ (str s).size := ⟨hfp, by rw [str_size]; omega⟩
        clear hsc HRK
        go_wp2_with (at_builtin; go_must (refine appS rfl _ _ rfl w.heap.size A n cc ps rfl (ho2.alloc _) wi.heap.size 1 ((s.drop f).take (pos - f)) rfl (by rw [← extr s f pos]; exact (cells_of (heap_alloc_new wi _)).1 0) (by simp) (by omega) (by have := HZ.out; simp; omega) ?_))
        intro A' n' c' w' ho' hbw hg
        have hit3 := SO.grow_ne (ho2.alloc _) (heap_alloc_of hit2) hg
        have hb3 := (hb2.alloc (Nat.le_of_lt HZ.out) _).trans hbw
        have HC2 := Lib.hid (show cutB c s = (ps ++ [(s.drop f).take (pos - f)]) ++ cutB c (s.drop (pos + 1)) by rw [HC.out, HCA.out]; simp)
        go_wp2_with fail
        go_roundw
        case rel => exact ⟨pos + 1, A', n', c', _, pos + 1, rfl, rfl, ho', Nat.le_refl _, by omega, by simp; omega, HC2.out, fun j h1 h2 => by omega, hit3, hb3⟩
        case measure => simp [World.iterPos, hit3, HI.out]; omega
      · have x1 : ((r : Int) == (c.toNat : Int)) = false := by rw [beq_eq_false_iff_ne]; omega
        have HN2 := Lib.hid (show ∀ j, f ≤ j → j < pos + k → s.getD j 0 ≠ c by
          intro j h1 h2
          rcases Nat.lt_or_ge j pos with h3 | h3
          · exact HN.out j h1 h3
          · intro e
            rcases HRK.out with ⟨h4, h5, h6⟩ | ⟨h4, h5, h6⟩
            · obtain rfl : j = pos := by omega
              rw [e] at h5
              omega
            · have := h6 j h3 h2
              rw [e] at this
              omega)
        go_wp2_with fail
        go_roundw
        case rel => exact ⟨pos + k, A, n, cc, ps, f, rfl, rfl, ho2, by omega, by omega, hpf, HC.out, HN2.out, hit2, hb2⟩
        case measure => simp [World.iterPos, hit2, HI.out]; omega
    · obtain rfl : pos = s.length := by omega
      have hnx : ∀ ty, (Instr.next (.pointer (some ⟨w.heap.size, 0, none⟩)) true ty).run Tryz.prog wr = .ok (.tuple #[.bool false]) wr := fun ty => Lib.run_next_end_at wr w.heap.size (str s) s.length ty hit (by rw [str_size]; omega)
      have HZ := Lib.hid (heap_lt hit)
      have HEX := Lib.hid (show (str s).extract f s.length = str (s.drop f) by rw [extr, List.take_of_length_le (by simp)])
      have HFIN := Lib.hid (show cutB c s = ps ++ [s.drop f] by
        rw [HC.out, cutB_none c (s.drop f)]
        intro x hx
        have := no_sign HN.out x
        rw [List.take_of_length_le (by simp)] at this
        exact this hx)
      have hss : (str s).size = s.length := rfl
      clear hit
      go_wp2_with (at_builtin; go_must (refine appS rfl _ _ rfl w.heap.size A n cc ps rfl (ho.alloc _) wr.heap.size 1 (s.drop f) rfl (by rw [← HEX.out]; exact (cells_of (heap_alloc_new wr _)).1 0) (by simp) (by omega) (by have := HZ.out; simp; omega) ?_))
      intro A' n' c' w' ho' hbw hg
      have hb3 := (hb.alloc (Nat.le_of_lt HZ.out) _).trans hbw
      rw [← HFIN.out] at ho'
      go_wp2_with fail
      go_ret
      exact ⟨A', n', c', rfl, ho', hb3⟩
end
section
open Go.RowKit

def ad0 : Ad4 := ⟨0, 0, 0, 0⟩
def okN (ps : List (List UInt8)) (k : Nat) : Bool := (List.range k).all fun i => numOk (ps.getD i []) 255
theorem okN_iff {ps : List (List UInt8)} {k : Nat} : okN ps k = true ↔ ∀ i < k, numOk (ps.getD i []) 255 = true := by simp [okN, List.all_eq_true]
def parseL (ps : List (List UInt8)) : Option Ad4 :=
  if ps.length = 4 ∧ okN ps 4 = true then some ⟨bN (numV (ps.getD 0 [])), bN (numV (ps.getD 1 [])), bN (numV (ps.getD 2 [])), bN (numV (ps.getD 3 []))⟩ else none
def parseA (s : List UInt8) : Option Ad4 := parseL (cutB 46 s)
def parseV (s : List UInt8) : Ad4 × Int := match parseA s with
  | some a => (a, 0)
  | none => (ad0, 9)
def ParsePost (w : World) (s : List UInt8) (e : Ending) (w' : World) : Prop := e = .returned (.tuple #[adV (parseV s).1, .int .i64 (parseV s).2]) ∧ Below w.heap.size w w'
abbrev z4 : Array Value := #[.int .u8 0, .int .u8 0, .int .u8 0, .int .u8 0]
/-- The address behind some rounds. -/
def parC (ps : List (List UInt8)) (j : Nat) : Array Value := #[if 0 < j then .int .u8 (numV (ps.getD 0 [])) else .int .u8 0, if 1 < j then .int .u8 (numV (ps.getD 1 [])) else .int .u8 0, if 2 < j then .int .u8 (numV (ps.getD 2 [])) else .int .u8 0, if 3 < j then .int .u8 (numV (ps.getD 3 [])) else .int .u8 0]
theorem parC_size (ps : List (List UInt8)) (j : Nat) : (parC ps j).size = 4 := rfl
theorem parC_one (ps : List (List UInt8)) : (parC ps 4).all (·.oneCell') = true := by simp [parC, Value.oneCell']
theorem parC_zero (ps : List (List UInt8)) : parC ps 0 = z4 := by simp [parC]
theorem parC_step (ps : List (List UInt8)) (j : Nat) (h : j < 4) : (parC ps j).setIfInBounds j (.int .u8 (numV (ps.getD j []))) = parC ps (j + 1) := by
  rcases (show j = 0 ∨ j = 1 ∨ j = 2 ∨ j = 3 by omega) with rfl | rfl | rfl | rfl <;> simp [parC]
theorem parC_end (ps : List (List UInt8)) (h : ∀ i < 4, numOk (ps.getD i []) 255 = true) : parC ps 4 = adC ⟨bN (numV (ps.getD 0 [])), bN (numV (ps.getD 1 [])), bN (numV (ps.getD 2 [])), bN (numV (ps.getD 3 []))⟩ := by
  have e : ∀ i < 4, ((bN (numV (ps.getD i []))).toNat : Int) = numV (ps.getD i []) := by
    intro i hi
    have h1 := numOk_le (h i hi)
    rw [bN_val]
    omega
  simp only [parC, adC, e 0 (by decide), e 1 (by decide), e 2 (by decide), e 3 (by decide)]
  simp
theorem parse_no {s : List UInt8} (h : ¬ ((cutB 46 s).length = 4 ∧ okN (cutB 46 s) 4 = true)) : parseV s = (ad0, 9) := by simp only [parseV, parseA, parseL, if_neg h]
theorem parse_yes {s : List UInt8} (h : (cutB 46 s).length = 4 ∧ okN (cutB 46 s) 4 = true) :
    parseV s = (⟨bN (numV ((cutB 46 s).getD 0 [])), bN (numV ((cutB 46 s).getD 1 [])), bN (numV ((cutB 46 s).getD 2 [])), bN (numV ((cutB 46 s).getD 3 []))⟩, 0) := by simp only [parseV, parseA, parseL, if_pos h]

theorem SO.cell {w : World} {H n c b o : Nat} {l : List (List UInt8)} (h : SO w H (some ⟨b, o, none⟩) n c l) {k : Nat} {s : List UInt8} (hk : l[k]? = some s) : b < w.heap.size ∧ w.cell? ⟨b, o + k, none⟩ = some (.string (str s)) := by
  obtain ⟨b', o', e, hb, hc⟩ := h.at_ hk
  injection e with e
  injection e with e1 e2
  subst e1 e2
  exact ⟨hb, hc⟩
theorem splice4 (ps : List (List UInt8)) : spliceAt z4 0 (parC ps 4).toList = parC ps 4 := by simp [spliceAt, parC]
theorem getD_some {α : Type} {l : List α} {k : Nat} (d : α) (h : k < l.length) : l[k]? = some (l.getD k d) := by simp [List.getD, h]
theorem grown_cell {w w' : World} {k b o : Nat} {v : Value} (h : w.grownBy w' (some k)) (hb : b < w.heap.size) (hne : b ≠ k) (hc : w.cell? ⟨b, o, none⟩ = some v) : w'.cell? ⟨b, o, none⟩ = some v :=
  (World.cell?_of_block (w := w) (a := ⟨b, o, none⟩) (h.block b hb (by intro e; injection e with e; exact hne e))).trans hc

set_option maxRecDepth 100000 in
set_option maxHeartbeats 4000000 in
theorem parse_any (w : World) (s : List UInt8) (hl : s.length ≤ 1099511627776) : Calls Tryz.prog 365 #[.string (str s)] w (ParsePost w s) := by
  go_enter Tryz.func365, Tryz.ntmps365
  go_wp2_with fail
  have b0 : Below w.heap.size w (w.alloc (.cells z4 26)) := (Below.refl _ w).alloc (Nat.le_refl _) _
  have P0 : (w.alloc (.cells z4 26)).heap[w.heap.size]? = some (.cells z4 26 (0, 0)) := heap_alloc_new w _
  obtain ⟨g, hg⟩ : ∃ g, w.heap.size = g := ⟨_, rfl⟩
  rw [hg] at P0 ⊢
  generalize w.alloc (.cells z4 26) = w1 at b0 P0 ⊢
  refine (parts_any w1 s 46 (by decide) hl).mono ?_
  rintro e w2 ⟨A, n, cc, rfl, ho, q2⟩
  have P2 := below_at q2 P0 (heap_lt P0)
  have b2 := b0.trans (q2.mono b0.size)
  have hn := ho.1
  have HG := Lib.hid hg
  have HN := Lib.hid hn
  clear hn hg b0 P0 q2
  by_cases h4 : n = 4
  case' neg =>
    have x1 : ((n : Int) != 4) = true := by rw [bne_iff_ne]; omega
    have HV := Lib.hid (parse_no (s := s) (fun h => h4 (by have := HN.out; omega)))
    clear h4
    go_wp2_with ((with_reducible apply at_store_part 26); (case hx => exact rfl); (case hy => exact rfl); (case hg => exact heap_alloc_of P2); (case hle => simp); (case hi => kernel_rfl); (case h1 => kernel_rfl); (intro w3 g3 P3; replace P3 := Lib.hid P3))
    refine bodyPost_cell_tmp g _ _ _ rfl rfl P3.out Tryz.underlying26 rfl (by kernel_rfl) rfl ?_
    exact ⟨by rw [HV.out]; rfl, below_grown (b2.alloc b2.size _) g3 (by have := b2.size; simp; omega) (by have := HG.out; omega)⟩
  obtain ⟨b, o, rfl, hbl, _⟩ := ho.at_ (getD_some [] (show 0 < (cutB 46 s).length by have := HN.out; omega))
  subst h4
  have HO := Lib.hid ho
  clear ho
  go_wp2_with fail
  have Pa := heap_alloc_new w2 (.cells z4 26)
  have P3 := heap_alloc_of (o := .cells z4 26) P2
  have b3 := b2.alloc b2.size (.cells z4 26)
  have cells : ∀ j < 4, (w2.alloc (.cells z4 26)).cell? ⟨b, o + j, none⟩ = some (.string (str ((cutB 46 s).getD j []))) := fun j hj =>
    (World.cell?_of_block (w := w2) (a := ⟨b, o + j, none⟩) (Below.heap_alloc w2 _ b hbl)).trans (HO.out.cell (getD_some [] (by have := HN.out; omega))).2
  have hgk : g < w2.heap.size := heap_lt P2
  have lens : ∀ j < 4, ((cutB 46 s).getD j []).length ≤ 1099511627776 := fun j hj =>
    Nat.le_trans (cutB_mem 46 s _ (List.mem_iff_getElem?.2 ⟨j, getD_some [] (by have := HN.out; omega)⟩)) hl
  obtain ⟨ps, hps⟩ : ∃ ps, cutB 46 s = ps := ⟨_, rfl⟩
  rw [hps] at cells lens
  have HPS := Lib.hid hps
  have CELLS := Lib.hid cells
  have LENS := Lib.hid lens
  obtain ⟨k, hk⟩ : ∃ k, w2.heap.size = k := ⟨_, rfl⟩
  have HKS := Lib.hid (show k < (w2.alloc (.cells z4 26)).heap.size by simp; omega)
  have hb3 := b3.size
  rw [hk] at Pa hbl hgk ⊢
  clear hk cells lens hps P2 b2
  generalize w2.alloc (.cells z4 26) = wl at Pa P3 b3 CELLS HKS hb3 ⊢
  have PA := Lib.hid Pa
  clear Pa
  go_loopw [18] (fun iv wr => ∃ j : Nat, iv = .int .i64 j ∧ j ≤ 4 ∧ okN ps j = true ∧ wr.heap[k]? = some (.cells (parC ps j) 26 (0, 0)) ∧ wl.grownBy wr (some k)) (fun iv _ => 4 - (intOf iv).toNat)
  case atStart => exact ⟨0, rfl, Nat.zero_le _, rfl, by rw [parC_zero]; exact PA.out, World.grownBy.refl _ _⟩
  case round =>
    clear PA
    obtain ⟨j, rfl, hj, hok, hPk, hgr⟩ := hrel
    have HOK := Lib.hid hok
    have HGR := Lib.hid hgr
    have hzr := hgr.size
    have PR := grown_at hgr P3 (by omega)
    have br := below_grown b3 hgr hb3 (by have := HG.out; omega)
    clear hok
    by_cases hlt : j < 4
    · have hc := grown_cell hgr (by have := HKS.out; omega) (by omega) (CELLS.out j hlt)
      have hjn : (0 : Int) ≤ (j : Int) ∧ (j : Int) < 4 := ⟨by omega, by omega⟩
      have hlj := LENS.out j hlt
      obtain ⟨p, hp⟩ : ∃ p, ps.getD j [] = p := ⟨_, rfl⟩
      rw [hp] at hc hlj
      have HP := Lib.hid hp
      have hnv := numV_le p
      clear hgr hp
      go_wp2_with fail
      refine (num_any wr p 255 hlj (by decide)).mono ?_
      rintro e w4 ⟨rfl, q4⟩
      have P4 := below_at q4 PR (heap_lt PR)
      have K4 := below_at q4 hPk (heap_lt hPk)
      have b4 := br.trans (q4.mono br.size)
      have HG4 := Lib.hid (grown_below HGR.out q4 hzr)
      clear hc PR hPk br q4
      by_cases hx : numOk p 255 = true
      · have hle := numOk_le hx
        have HX := Lib.hid hx
        obtain ⟨hcK, hfK⟩ := cells_of K4
        have hcj : w4.cell? ⟨k, j, none⟩ = some ((parC ps j).getD j undef) := by
          rw [hcK j]
          rcases (show j = 0 ∨ j = 1 ∨ j = 2 ∨ j = 3 by omega) with rfl | rfl | rfl | rfl <;> rfl
        have K5 := Lib.hid (heap_set_cells (k := j) K4 (.int .u8 (numV p)))
        clear K4 hcK
        go_wp2_with fail
        go_roundw
        case rel =>
          refine ⟨j + 1, by go_num, by omega, okN_iff.2 fun i hi => ?_, ?_, ?_⟩
          · rcases Nat.lt_or_ge i j with h | h
            · exact okN_iff.1 HOK.out i h
            · obtain rfl : i = j := by omega
              rw [HP.out]; exact HX.out
          · rw [← parC_step ps j hlt, HP.out]
            exact K5.out
          · exact grown_setCell HG4.out _ _
        case measure => simp [intOf]; omega
      · have hx' : numOk p 255 = false := by simpa using hx
        have HV := Lib.hid (parse_no (s := s) (fun h => by rw [HPS.out] at h; have := okN_iff.1 h.2 j hlt; rw [HP.out] at this; exact hx this))
        clear hx
        go_wp2_with ((with_reducible apply at_store_part 26); (case hx => exact rfl); (case hy => exact rfl); (case hg => exact P4); (case hle => simp); (case hi => kernel_rfl); (case h1 => kernel_rfl); (intro w5 g5 P5; replace P5 := Lib.hid P5))
        refine bodyPost_cell_tmp g _ _ _ rfl rfl P5.out Tryz.underlying26 rfl (by kernel_rfl) rfl ?_
        exact ⟨by rw [HV.out]; rfl, below_grown b4 g5 b4.size (by have := HG.out; omega)⟩
    · obtain rfl : j = 4 := by omega
      have HV := Lib.hid (parse_yes (s := s) (by rw [HPS.out]; exact ⟨by rw [← HPS.out]; exact HN.out.symm, HOK.out⟩))
      clear hgr hlt
      go_wp2_with (((with_reducible apply at_load_row 26); (case hx => exact rfl); (case hg => exact hPk); (case hu => exact Tryz.underlying26); (case hd => rfl); (case hi => kernel_rfl)); (refine Hid.out ?_))
      refine Lib.hid ?_
      go_wp2_with ((with_reducible apply at_store_part 26); (case hx => exact rfl); (case hy => exact rfl); (case hg => exact PR); (case hle => rw [parC_size]; decide); (case hi => rw [parC_size]; kernel_rfl); (case h1 => exact parC_one ps); (intro w5 g5 P5; replace P5 := Lib.hid P5))
      have P6 := P5.out
      rw [splice4] at P6
      refine bodyPost_cell_tmp g _ _ _ rfl rfl P6 Tryz.underlying26 rfl (by kernel_rfl) rfl ?_
      refine ⟨?_, below_grown br g5 br.size (by have := HG.out; omega)⟩
      rw [HV.out, HPS.out, parC_end ps (okN_iff.1 HOK.out)]
      rfl
end
section
open Go.RowKit

def hexD (r : Nat) : Option Nat := if 48 ≤ r ∧ r ≤ 57 then some (r - 48) else if 97 ≤ r ∧ r ≤ 102 then some (r - 97 + 10) else if 65 ≤ r ∧ r ≤ 70 then some (r - 65 + 10) else none
def hexN (r : Nat) : Nat := (hexD r).getD 0
theorem hexD_le {r d : Nat} (h : hexD r = some d) : d ≤ 15 := by
  unfold hexD at h
  repeat' split at h
  all_goals simp at h
  all_goals omega
theorem hexN_le (r : Nat) : hexN r ≤ 15 := by
  unfold hexN
  rcases h : hexD r with _ | d
  · simp
  · exact hexD_le h
theorem hexD_high {r : Nat} (h : 128 ≤ r) : hexD r = none := by
  unfold hexD
  rw [if_neg (by omega), if_neg (by omega), if_neg (by omega)]

/-- Hex digits, read on. -/
def pairGo : Nat → List UInt8 → Option Nat
  | v, [] => some v
  | v, b :: r => match hexD b.toNat with
    | some d => pairGo (v * 16 % 256 + d) r
    | none => none
def pairV (s : List UInt8) : Nat := (pairGo 0 s).getD 0
def pairOk (s : List UInt8) : Bool := (pairGo 0 s).isSome && s.length == 2
theorem pairGo_le : ∀ (l : List UInt8) (n : Nat) (v : Nat), n ≤ 255 → pairGo n l = some v → v ≤ 255
  | [], n, v, h, e => by simp [pairGo] at e; omega
  | b :: r, n, v, h, e => by
    rw [pairGo] at e
    split at e
    · rename_i d hd
      have := hexD_le hd
      exact pairGo_le r _ v (by omega) e
    · cases e
theorem pairV_le (s : List UInt8) : pairV s ≤ 255 := by
  unfold pairV
  rcases h : pairGo 0 s with _ | v
  · simp
  · exact pairGo_le s 0 v (by omega) h
def PairPost (w : World) (s : List UInt8) (e : Ending) (w' : World) : Prop := e = .returned (.tuple #[.int .u8 (pairV s), .bool (pairOk s)]) ∧ Below w.heap.size w w'
theorem pair_none {s : List UInt8} (h : pairGo 0 s = none) : pairV s = 0 ∧ pairOk s = false := by simp [pairV, pairOk, h]
theorem pair_some {s : List UInt8} {n : Nat} (h : pairGo 0 s = some n) : pairV s = n ∧ pairOk s = (s.length == 2) := by simp [pairV, pairOk, h]
theorem or8 (v d : Nat) (hd : d ≤ 15) : bits BinOp.or IntKind.u8 ((v : Int) * 16 % 256) (d : Int) = ((v * 16 % 256 + d : Nat) : Int) := by
  have e1 : (v : Int) * 16 % 256 = ((v * 16 % 256 : Nat) : Int) := by omega
  rw [e1, u8_or_nat _ _ (by omega) (by omega), nat_join 4 _ d (by omega) (by omega)]

def okM (ps : List (List UInt8)) (k : Nat) : Bool := (List.range k).all fun i => pairOk (ps.getD i [])
theorem okM_iff {ps : List (List UInt8)} {k : Nat} : okM ps k = true ↔ ∀ i < k, pairOk (ps.getD i []) = true := by simp [okM, List.all_eq_true]
def macL (ps : List (List UInt8)) : Mac6 := ⟨bN (pairV (ps.getD 0 [])), bN (pairV (ps.getD 1 [])), bN (pairV (ps.getD 2 [])), bN (pairV (ps.getD 3 [])), bN (pairV (ps.getD 4 [])), bN (pairV (ps.getD 5 []))⟩
def parseM (s : List UInt8) : Option Mac6 := if (cutB 58 s).length = 6 ∧ okM (cutB 58 s) 6 = true then some (macL (cutB 58 s)) else none
def mac0 : Mac6 := ⟨0, 0, 0, 0, 0, 0⟩
def parseMV (s : List UInt8) : Mac6 × Int := match parseM s with
  | some a => (a, 0)
  | none => (mac0, 9)
def ParseMPost (w : World) (s : List UInt8) (e : Ending) (w' : World) : Prop := e = .returned (.tuple #[macV (parseMV s).1, .int .i64 (parseMV s).2]) ∧ Below w.heap.size w w'
abbrev z6 : Array Value := #[.int .u8 0, .int .u8 0, .int .u8 0, .int .u8 0, .int .u8 0, .int .u8 0]
def mpC (ps : List (List UInt8)) (j : Nat) : Array Value := #[if 0 < j then .int .u8 (pairV (ps.getD 0 [])) else .int .u8 0, if 1 < j then .int .u8 (pairV (ps.getD 1 [])) else .int .u8 0, if 2 < j then .int .u8 (pairV (ps.getD 2 [])) else .int .u8 0,
  if 3 < j then .int .u8 (pairV (ps.getD 3 [])) else .int .u8 0, if 4 < j then .int .u8 (pairV (ps.getD 4 [])) else .int .u8 0, if 5 < j then .int .u8 (pairV (ps.getD 5 [])) else .int .u8 0]
theorem mpC_size (ps : List (List UInt8)) (j : Nat) : (mpC ps j).size = 6 := rfl
theorem mpC_one (ps : List (List UInt8)) : (mpC ps 6).all (·.oneCell') = true := by simp [mpC, Value.oneCell']
theorem mpC_zero (ps : List (List UInt8)) : mpC ps 0 = z6 := by simp [mpC]
theorem mpC_step (ps : List (List UInt8)) (j : Nat) (h : j < 6) : (mpC ps j).setIfInBounds j (.int .u8 (pairV (ps.getD j []))) = mpC ps (j + 1) := by
  rcases (show j = 0 ∨ j = 1 ∨ j = 2 ∨ j = 3 ∨ j = 4 ∨ j = 5 by omega) with rfl | rfl | rfl | rfl | rfl | rfl <;> simp [mpC]
theorem mpC_end (ps : List (List UInt8)) : .agg (mpC ps 6) = macV (macL ps) := by
  have e : ∀ i, ((bN (pairV (ps.getD i []))).toNat : Int) = pairV (ps.getD i []) := by
    intro i
    have h1 := pairV_le (ps.getD i [])
    rw [bN_val]
    omega
  simp only [mpC, macL, macV, e 0, e 1, e 2, e 3, e 4, e 5]
  simp
theorem parseM_no {s : List UInt8} (h : ¬ ((cutB 58 s).length = 6 ∧ okM (cutB 58 s) 6 = true)) : parseMV s = (mac0, 9) := by simp only [parseMV, parseM, if_neg h]
theorem parseM_yes {s : List UInt8} (h : (cutB 58 s).length = 6 ∧ okM (cutB 58 s) 6 = true) : parseMV s = (macL (cutB 58 s), 0) := by simp only [parseMV, parseM, if_pos h]
theorem splice6 (ps : List (List UInt8)) : spliceAt z6 0 (mpC ps 6).toList = mpC ps 6 := by simp [spliceAt, mpC]

end
end Go.Proofs.YtccbdaffjkdpgaaGreatDoor
