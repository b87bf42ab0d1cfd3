/-
  What is written is read back, plainly (addresses, nets, devices' addresses).
-/
import Derived.Test.YtabmgggmailomaaDoorAn10
namespace Go.Proofs.YtabmgggmailomaaDoor
open Go.RowKit

theorem dec_all : ((List.range 256).all fun n => numOk (decB n) 255 && (numV (decB n) == n) && (decB n).all (fun b => b != 46 && b != 47)) = true := by kernel_rfl
theorem dec_32 : ((List.range 33).all fun n => numOk (decB n) 32) = true := by kernel_rfl
theorem hex_all : ((List.range 256).all fun n => pairOk (hex2 n) && (pairV (hex2 n) == n) && (hex2 n).all (fun b => b != 58)) = true := by kernel_rfl
theorem dec_of (n : Nat) (h : n < 256) : numOk (decB n) 255 = true ∧ numV (decB n) = n ∧ (∀ b ∈ decB n, b ≠ 46) ∧ (∀ b ∈ decB n, b ≠ 47) := by
  have h1 := List.all_eq_true.1 dec_all n (List.mem_range.2 h)
  rw [Bool.and_eq_true, Bool.and_eq_true, beq_iff_eq, List.all_eq_true] at h1
  obtain ⟨⟨a, b⟩, c⟩ := h1
  exact ⟨a, b, fun x hx => by have := c x hx; simp at this; exact this.1, fun x hx => by have := c x hx; simp at this; exact this.2⟩
theorem hex_of (n : Nat) (h : n < 256) : pairOk (hex2 n) = true ∧ pairV (hex2 n) = n ∧ ∀ b ∈ hex2 n, b ≠ 58 := by
  have h1 := List.all_eq_true.1 hex_all n (List.mem_range.2 h)
  rw [Bool.and_eq_true, Bool.and_eq_true, beq_iff_eq, List.all_eq_true] at h1
  obtain ⟨⟨a, b⟩, c⟩ := h1
  exact ⟨a, b, fun x hx => by have := c x hx; simpa using this⟩
theorem bN_nat (x : UInt8) : bN (x.toNat : Int) = x := UInt8.toNat_inj.1 (by have := bN_val (x.toNat : Int); have := x.toNat_lt; omega)
theorem cut_textA (a : Ad4) : cutB 46 (textA a) = [decB a.a.toNat, decB a.b.toNat, decB a.c.toNat, decB a.d.toNat] := by
  rw [textA, cutB_cons 46 _ _ (dec_of _ a.a.toNat_lt).2.2.1, cutB_cons 46 _ _ (dec_of _ a.b.toNat_lt).2.2.1, cutB_cons 46 _ _ (dec_of _ a.c.toNat_lt).2.2.1, cutB_none 46 _ (dec_of _ a.d.toNat_lt).2.2.1]
theorem parse_text (a : Ad4) : parseV (textA a) = (a, 0) := by
  have h0 := dec_of _ a.a.toNat_lt; have h1 := dec_of _ a.b.toNat_lt; have h2 := dec_of _ a.c.toNat_lt; have h3 := dec_of _ a.d.toNat_lt
  have hc := cut_textA a
  rw [parse_yes ⟨by rw [hc]; rfl, by
    rw [hc, okN_iff]
    intro i hi
    rcases (show i = 0 ∨ i = 1 ∨ i = 2 ∨ i = 3 by omega) with rfl | rfl | rfl | rfl
    · exact h0.1
    · exact h1.1
    · exact h2.1
    · exact h3.1⟩, hc]
  show (Ad4.mk (bN (numV (decB a.a.toNat))) (bN (numV (decB a.b.toNat))) (bN (numV (decB a.c.toNat))) (bN (numV (decB a.d.toNat))), (0 : Int)) = (a, 0)
  rw [h0.2.1, h1.2.1, h2.2.1, h3.2.1, bN_nat, bN_nat, bN_nat, bN_nat]
theorem textA_no (a : Ad4) : ∀ b ∈ textA a, b ≠ 47 := by
  have h0 := (dec_of _ a.a.toNat_lt).2.2.2; have h1 := (dec_of _ a.b.toNat_lt).2.2.2; have h2 := (dec_of _ a.c.toNat_lt).2.2.2; have h3 := (dec_of _ a.d.toNat_lt).2.2.2
  intro b hb
  simp only [textA, List.mem_append, List.mem_cons] at hb
  rcases hb with h | rfl | h | rfl | h | rfl | h
  · exact h0 b h
  · decide
  · exact h1 b h
  · decide
  · exact h2 b h
  · decide
  · exact h3 b h
theorem firstA_idem (a : Ad4) (b : Int) : firstA (firstA a b) b = firstA a b := by
  unfold firstA
  rw [numA_of4 _ (first_lt _ _ (numA_lt a))]
  congr 2
  unfold firstN
  rw [Nat.and_assoc, Nat.and_self]
theorem parse_textN (a : Ad4) (b : Nat) (hb : b ≤ 32) : parseNV (textN (firstA a b) b) = ((firstA a b, b), 0) := by
  have hc : cutB 47 (textN (firstA a b) b) = [textA (firstA a b), decB b] := by
    rw [textN, cutB_cons 47 _ _ (textA_no _), cutB_none 47 _ (dec_of b (by omega)).2.2.2]
  have hd := dec_of b (by omega)
  have h32 := List.all_eq_true.1 dec_32 b (List.mem_range.2 (by omega))
  have hl : ([textA (firstA a b), decB b] : List (List UInt8)).length = 2 := rfl
  rw [parseNV, hc, if_pos hl]
  show netOf (textA (firstA a b)) (decB b) = _
  rw [netOf, parse_text, if_neg (by rw [h32]; simp), hd.2.1, firstA_idem, if_pos (adeq_self _)]
theorem cut_textM (m : Mac6) : cutB 58 (textM m) = [hex2 m.a.toNat, hex2 m.b.toNat, hex2 m.c.toNat, hex2 m.d.toNat, hex2 m.e.toNat, hex2 m.f.toNat] := by
  rw [textM, cutB_cons 58 _ _ (hex_of _ m.a.toNat_lt).2.2, cutB_cons 58 _ _ (hex_of _ m.b.toNat_lt).2.2, cutB_cons 58 _ _ (hex_of _ m.c.toNat_lt).2.2, cutB_cons 58 _ _ (hex_of _ m.d.toNat_lt).2.2, cutB_cons 58 _ _ (hex_of _ m.e.toNat_lt).2.2, cutB_none 58 _ (hex_of _ m.f.toNat_lt).2.2]
theorem parse_textM (m : Mac6) : parseMV (textM m) = (m, 0) := by
  have h0 := hex_of _ m.a.toNat_lt; have h1 := hex_of _ m.b.toNat_lt; have h2 := hex_of _ m.c.toNat_lt; have h3 := hex_of _ m.d.toNat_lt; have h4 := hex_of _ m.e.toNat_lt; have h5 := hex_of _ m.f.toNat_lt
  have hc := cut_textM m
  rw [parseM_yes ⟨by rw [hc]; rfl, by
    rw [hc, okM_iff]
    intro i hi
    rcases (show i = 0 ∨ i = 1 ∨ i = 2 ∨ i = 3 ∨ i = 4 ∨ i = 5 by omega) with rfl | rfl | rfl | rfl | rfl | rfl
    · exact h0.1
    · exact h1.1
    · exact h2.1
    · exact h3.1
    · exact h4.1
    · exact h5.1⟩, hc]
  show (Mac6.mk (bN (pairV (hex2 m.a.toNat))) (bN (pairV (hex2 m.b.toNat))) (bN (pairV (hex2 m.c.toNat))) (bN (pairV (hex2 m.d.toNat))) (bN (pairV (hex2 m.e.toNat))) (bN (pairV (hex2 m.f.toNat))), (0 : Int)) = (m, 0)
  rw [h0.2.1, h1.2.1, h2.2.1, h3.2.1, h4.2.1, h5.2.1, bN_nat, bN_nat, bN_nat, bN_nat, bN_nat, bN_nat]
theorem textM_le (m : Mac6) : (textM m).length = 17 := by simp [textM, hex2]

theorem part_agg {P : Program} (w : World) (t : TypeId) (cs : Array Value) (off n : Nat) (ha : (isAgg t).run P w = .ok true w) (hs : (sizeOf t).run P w = .ok n w) :
    (part t cs off).run P w = .ok (.agg (cs.extract off (off + n))) w := by simp [part, Sem.run_bind, ha, hs]
theorem part_one {P : Program} (w : World) (t : TypeId) (cs : Array Value) (off : Nat) (v : Value) (ha : (isAgg t).run P w = .ok false w) (hv : cs[off]? = some v) :
    (part t cs off).run P w = .ok v w := by simp [part, Sem.run_bind, ha, hv]
theorem eq_ad_in (w : World) (d : Nat) (m : Ad4) : (Op.equalIn (d + 2) 24 (adV m) (adV m)).run Tryd.prog w = .ok true w := by
  have := run_equalIn_bytes (P := Tryd.prog) w d 24 5 4 Tryd.underlying24 Tryd.underlying5 (fun w => by kernel_rfl) m.bytes m.bytes rfl rfl
  rw [beq_self_eq_true] at this
  exact this
set_option maxRecDepth 100000 in
set_option maxHeartbeats 1000000 in
theorem eq_net_fields (w : World) (a : Ad4) (t : Int) : (Op.eqFields 9999 (netC a t) (netC a t) (Tryd.prog.fieldsOf 29).toList).run Tryd.prog w = .ok true w := by
  have q0 := part_agg (P := Tryd.prog) w 24 (netC a t) 0 4 (by kernel_rfl) (by kernel_rfl)
  have q4 := part_one (P := Tryd.prog) w 3 (netC a t) 4 _ (by kernel_rfl) rfl
  change _ = Result.ok (adV a) w at q0
  change _ = Result.ok (Value.int .i64 t) w at q4
  have e4 := run_equalIn_int (P := Tryd.prog) w 9998 3 .i64 .i64 t t Tryd.underlying3
  rw [beq_self_eq_true] at e4
  change (Op.equalIn 9999 _ _ _).run _ _ = _ at e4
  have e0 : (Op.equalIn 9999 24 (adV a) (adV a)).run Tryd.prog w = .ok true w := eq_ad_in w 9997 a
  simp only [Program.fieldsOf, Tryd.underlying29, Op.eqFields, Sem.run_bind, Sem.run_ite, q0, q4, Result.andThen_ok, e0, e4]
  simp
theorem run_eql_net (w : World) (a : Ad4) (t : Int) : (binOp .eql 29 (netV a t) (netV a t)).run Tryd.prog w = .ok (.bool true) w := by
  rw [run_eql_struct, run_equalIn_agg w 9999 29 (netC a t) (netC a t) (by kernel_rfl) (by kernel_rfl), eq_net_fields w]
  rfl
end Go.Proofs.YtabmgggmailomaaDoor
