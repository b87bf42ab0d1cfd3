/-
  What the statements' words make of a client; two bounds that are the same are equal.
-/
import Derived.Test.YtjpmfmmgmlnanaaLs14
import Derived.Test.YtjpmfmmgmlnanaaLs13
import Derived.Test.YtjpmfmmgmlnanaaLs11
namespace Go.Proofs.Ytjpmfmmgmlnanaa
open Go.RowKit

section
variable (typ : UInt8) (secs : Int)
theorem wo_type (h1 : 1 ≤ typ.toNat) (h8 : typ.toNat ≤ 8) : typeO (wordO typ secs) = (typ.toNat : Int) := by
  rw [show typeO (wordO typ secs) = typeB [typ] by simp [typeO, fdO, wordO], typeB_one, if_pos ⟨h1, h8⟩]
theorem wo_k54 : oK (wordO typ secs) 54 = true := by simp [oK, oB, fdO, wordO]
theorem wo_a54 : oA (wordO typ secs) 54 = ⟨10, 0, 0, 254⟩ := by
  rw [oA, if_pos (wo_k54 typ secs)]
  simp [oB, fdO, wordO, adOf]
theorem wo_k51 : oK (wordO typ secs) 51 = true := by simp [oK, oB, fdO, wordO, b32]
theorem wo_n51 (h0 : 0 ≤ secs) (h1 : secs < 4294967296) : ((oN (wordO typ secs) 51 : Nat) : Int) = secs := by
  rw [show oN (wordO typ secs) 51 = beN (b32 secs) by simp [oN, oB, fdO, wordO, b32], beN_b32 secs h0 h1]
theorem wo_a1 : oA (wordO typ secs) 1 = ⟨255, 0, 0, 0⟩ := by
  rw [oA, if_pos (by simp [oK, oB, fdO, wordO])]
  simp [oB, fdO, wordO, adOf]
theorem wo_b3 : oB (wordO typ secs) 3 = [10, 0, 0, 253] := by simp [oB, fdO, wordO]
end

theorem bodies_of {l : List Op1} {os : List Ob} (h : obs l = os) (hs : ∀ o ∈ os, o.2.length ≤ 1099511627776) : ∀ o ∈ l, o.body.length ≤ 1099511627776 := by
  intro o ho
  exact hs (o.code, o.body) (by rw [← h]; exact List.mem_map.2 ⟨o, ho, rfl⟩)
theorem wo_bodies (typ : UInt8) (secs : Int) : ∀ o ∈ wordO typ secs, o.2.length ≤ 1099511627776 := by
  simp [wordO, b32]

/-- What an acknowledgement leaves. -/
def Cl.acked (c : Cl) (your : Ad4) (secs : Int) : Cl := { c with addr := your, mask := ⟨255, 0, 0, 0⟩, router := ⟨10, 0, 0, 253⟩, server := ⟨10, 0, 0, 254⟩, til := c.now + min secs 1000000000, had := c.now, state := 3 }
def Cl.asks (c : Cl) (your : Ad4) : Cl := ({ c with want := your, src := ⟨10, 0, 0, 254⟩ } : Cl).start 2 c.now 4

theorem get_offer (w : World) (g H : Nat) (c : Cl) (h : CB w g c) (xid : Int) (your : Ad4) (secs : Int) (A : Option Addr) (n cc : Nat) (l : List Op1) (ho : OA w H A n cc l) (hob : obs l = wordO 2 secs) (hgH : g < H) (t : Int)
    (c1 : Cl) (hc1 : c.time t = c1) (k1 : c1.ok) (hx : c1.xid = xid) (hmm : c1.m = lmac) (hs : c1.state = 1) (hyo : your ≠ ad0) :
    Calls Try.prog 13 #[.pointer (some ⟨g, 0, none⟩), msV (wordH xid your) A n cc, .int .i64 t] w (GetPost w g (c1.asks your) (some (c1.asks your).msg) false) := by
  have h1 := cget_offer w g H c h (wordH xid your) A n cc l ho hgH (bodies_of hob (wo_bodies 2 secs)) t c1 hc1 k1 ⟨rfl, hmm.symm, hx.symm, by omega, by omega⟩ hs (by rw [hob]; exact wo_type 2 secs (by decide) (by decide)) (by rw [hob]; exact wo_k54 2 secs) hyo
  rw [hob, wo_a54] at h1
  exact h1

theorem get_ack (w : World) (g H : Nat) (c : Cl) (h : CB w g c) (xid : Int) (your : Ad4) (secs : Int) (hs60 : 60 ≤ secs) (hs32 : secs < 4294967296) (A : Option Addr) (n cc : Nat) (l : List Op1) (ho : OA w H A n cc l) (hob : obs l = wordO 5 secs) (hgH : g < H) (t : Int)
    (c1 : Cl) (hc1 : c.time t = c1) (k1 : c1.ok) (hx : c1.xid = xid) (hmm : c1.m = lmac) (hs : c1.state = 2 ∧ c1.src = ⟨10, 0, 0, 254⟩ ∨ c1.state = 4 ∧ c1.server = ⟨10, 0, 0, 254⟩ ∨ c1.state = 5) (hyo : your ≠ ad0) :
    Calls Try.prog 13 #[.pointer (some ⟨g, 0, none⟩), msV (wordH xid your) A n cc, .int .i64 t] w (GetPost w g (c1.acked your secs) none (!(decide (3 ≤ c1.state)) || !adeq c1.addr your)) := by
  have hst : c1.state = 2 ∨ c1.state = 4 ∨ c1.state = 5 := by rcases hs with h | h | h <;> simp [h]
  have h1 := cget_ack w g H c h (wordH xid your) A n cc l ho hgH (bodies_of hob (wo_bodies 5 secs)) t c1 hc1 k1 ⟨rfl, hmm.symm, hx.symm, by omega, by omega⟩ (by omega) (by rw [hob]; exact wo_type 5 secs (by decide) (by decide)) (by rw [hob]; exact wo_k51 5 secs)
    (by rw [hob]; have := wo_n51 5 secs (by omega) hs32; omega) hyo
    (by
      rw [hob, wo_a54, wo_k54]
      refine ⟨rfl, fun e => ?_, fun e => ?_⟩
      · rcases hs with h | h | h
        · exact h.2.symm
        · omega
        · omega
      · rcases hs with h | h | h
        · omega
        · exact h.2.symm
        · omega)
    (by rw [hob, wo_b3]; simp)
  rw [hob, wo_a54, wo_n51 5 secs (by omega) hs32] at h1
  have e : c1.heldAt (wordH xid your) (wordO 5 secs) ⟨10, 0, 0, 254⟩ secs c1.now = c1.acked your secs := by
    unfold Cl.heldAt Cl.acked
    rw [wo_a1, wo_b3]
    rfl
  rw [e] at h1
  exact h1

theorem get_nak (w : World) (g H : Nat) (c : Cl) (h : CB w g c) (xid : Int) (your : Ad4) (secs : Int) (A : Option Addr) (n cc : Nat) (l : List Op1) (ho : OA w H A n cc l) (hob : obs l = wordO 6 secs) (hgH : g < H) (t : Int)
    (c1 : Cl) (hc1 : c.time t = c1) (k1 : c1.ok) (hx : c1.xid = xid) (hmm : c1.m = lmac) (hs : c1.state = 2 ∧ c1.src = ⟨10, 0, 0, 254⟩ ∨ c1.state = 4 ∨ c1.state = 5) :
    Calls Try.prog 13 #[.pointer (some ⟨g, 0, none⟩), msV (wordH xid your) A n cc, .int .i64 t] w (GetPost w g c1.lose none (decide (3 ≤ c1.state))) := by
  have hst : c1.state = 2 ∨ c1.state = 4 ∨ c1.state = 5 := by rcases hs with h | h | h <;> simp [h]
  refine cget_nak w g H c h (wordH xid your) A n cc l ho hgH (bodies_of hob (wo_bodies 6 secs)) t c1 hc1 k1 ⟨rfl, hmm.symm, hx.symm, by omega, by omega⟩ (by omega) (by rw [hob]; exact wo_type 6 secs (by decide) (by decide)) ?_
  rw [hob, wo_a54, wo_k54]
  rintro ⟨e, h | h⟩
  · cases h
  · rcases hs with k | k | k
    · exact h k.2.symm
    · omega
    · omega

theorem part_agg {P : Program} (w : World) (t : TypeId) (cs : Array Value) (off n : Nat) (ha : (isAgg t).run P w = .ok true w) (hs : (sizeOf t).run P w = .ok n w) :
    (part t cs off).run P w = .ok (.agg (cs.extract off (off + n))) w := by simp [part, Sem.run_bind, ha, hs]
theorem part_one {P : Program} (w : World) (t : TypeId) (cs : Array Value) (off : Nat) (v : Value) (ha : (isAgg t).run P w = .ok false w) (hv : cs[off]? = some v) :
    (part t cs off).run P w = .ok v w := by simp [part, Sem.run_bind, ha, hv]
theorem eq_ad_in (w : World) (d : Nat) (m : Ad4) : (Op.equalIn (d + 2) 34 (adV m) (adV m)).run Try.prog w = .ok true w := by
  have := run_equalIn_bytes (P := Try.prog) w d 34 5 4 Try.underlying34 Try.underlying5 (fun w => by kernel_rfl) m.bytes m.bytes rfl rfl
  rw [beq_self_eq_true] at this
  exact this

set_option maxRecDepth 100000 in
set_option maxHeartbeats 1000000 in
theorem eq_bd_fields (w : World) (a m r s : Ad4) (t : Int) : (Op.eqFields 9999 (bdC a m r s t) (bdC a m r s t) (Try.prog.fieldsOf 41).toList).run Try.prog w = .ok true w := by
  have q0 := part_agg (P := Try.prog) w 34 (bdC a m r s t) 0 4 (by kernel_rfl) (by kernel_rfl)
  have q1 := part_agg (P := Try.prog) w 34 (bdC a m r s t) 4 4 (by kernel_rfl) (by kernel_rfl)
  have q2 := part_agg (P := Try.prog) w 34 (bdC a m r s t) 8 4 (by kernel_rfl) (by kernel_rfl)
  have q3 := part_agg (P := Try.prog) w 34 (bdC a m r s t) 12 4 (by kernel_rfl) (by kernel_rfl)
  have q4 := part_one (P := Try.prog) w 2 (bdC a m r s t) 16 _ (by kernel_rfl) rfl
  change _ = Result.ok (adV a) w at q0
  change _ = Result.ok (adV m) w at q1
  change _ = Result.ok (adV r) w at q2
  change _ = Result.ok (adV s) w at q3
  change _ = Result.ok (Value.int .i64 t) w at q4
  have e4 := run_equalIn_int (P := Try.prog) w 9998 2 .i64 .i64 t t Try.underlying2
  rw [beq_self_eq_true] at e4
  change (Op.equalIn 9999 _ _ _).run _ _ = _ at e4
  have e0 : (Op.equalIn 9999 34 (adV a) (adV a)).run Try.prog w = .ok true w := eq_ad_in w 9997 a
  have e1 : (Op.equalIn 9999 34 (adV m) (adV m)).run Try.prog w = .ok true w := eq_ad_in w 9997 m
  have e2 : (Op.equalIn 9999 34 (adV r) (adV r)).run Try.prog w = .ok true w := eq_ad_in w 9997 r
  have e3 : (Op.equalIn 9999 34 (adV s) (adV s)).run Try.prog w = .ok true w := eq_ad_in w 9997 s
  simp only [Program.fieldsOf, Try.underlying41, Op.eqFields, Sem.run_bind, Sem.run_ite, q0, q1, q2, q3, q4, Result.andThen_ok, e0, e1, e2, e3, e4]
  simp
theorem run_eql_bd (w : World) (a m r s : Ad4) (t : Int) : (binOp .eql 41 (.agg (bdC a m r s t)) (.agg (bdC a m r s t))).run Try.prog w = .ok (.bool true) w := by
  rw [run_eql_struct, run_equalIn_agg w 9999 41 (bdC a m r s t) (bdC a m r s t) (by kernel_rfl) (by kernel_rfl), eq_bd_fields w]
  rfl

def a5 : Ad4 := ⟨10, 0, 0, 5⟩
def s254 : Ad4 := ⟨10, 0, 0, 254⟩
/-- Behind Tick(0, draw); behind the offer; behind the acknowledgement, at time t. -/
def cS (t0 draw : Int) : Cl := ⟨lmac, 1, t0, draw, ad0, ad0, ad0, ad0, 0, 0, ad0, ad0, t0, 4, 1⟩
def cO (t0 draw : Int) : Cl := ⟨lmac, 2, t0, draw, ad0, ad0, ad0, ad0, 0, 0, a5, s254, t0, 4, 1⟩
def cH (t0 draw secs t : Int) : Cl := ⟨lmac, 3, t, draw, a5, ⟨255, 0, 0, 0⟩, ⟨10, 0, 0, 253⟩, s254, t + secs, t, a5, s254, t0, 4, 1⟩
theorem new_ok (m : Mac6) : (Cl.new m).ok := by constructor <;> simp [Cl.new]
theorem cS_ok (t0 draw : Int) (h0 : 0 ≤ t0) (h1 : t0 ≤ 1099511627776) (d0 : 0 ≤ draw) (d1 : draw < 4294967296) : (cS t0 draw).ok := by constructor <;> simp only [cS] <;> omega
theorem cO_ok (t0 draw : Int) (h0 : 0 ≤ t0) (h1 : t0 ≤ 1099511627776) (d0 : 0 ≤ draw) (d1 : draw < 4294967296) : (cO t0 draw).ok := by constructor <;> simp only [cO] <;> omega
theorem cH_ok (t0 draw secs t : Int) (h0 : 0 ≤ t0) (h1 : t0 ≤ 1099511627776) (d0 : 0 ≤ draw) (d1 : draw < 4294967296) (k0 : 0 ≤ t) (k1 : t ≤ 1099511627776) (s0 : 0 ≤ secs) (s1 : secs ≤ 1000000000) : (cH t0 draw secs t).ok := by
  constructor <;> simp only [cH] <;> omega
theorem tick_new (t0 draw : Int) (h0 : 0 ≤ t0) (h1 : t0 ≤ 1099511627776) : (Cl.new lmac).tick t0 draw = (cS t0 draw, true) := by
  rcases Int.lt_or_eq_of_le h0 with h | h
  · simp [Cl.tick, Cl.time, Cl.new, Cl.late, Cl.go, Cl.start, cS, h, h1]
  · subst h
    simp [Cl.tick, Cl.time, Cl.new, Cl.late, Cl.go, Cl.start, cS]
theorem cS_asks (t0 draw : Int) : (cS t0 draw).asks a5 = cO t0 draw := by simp [cS, Cl.asks, Cl.start, cO, s254]
theorem time_same (c : Cl) (t : Int) (h : t ≤ c.now) : c.time t = c := by rw [Cl.time, if_neg (by omega)]
theorem cO_acked (t0 draw secs t : Int) (s1 : secs ≤ 1000000000) (h0 : t0 ≤ t) (h1 : t ≤ 1099511627776) : ((cO t0 draw).time t).acked a5 secs = cH t0 draw secs t := by
  rcases Int.lt_or_eq_of_le h0 with h | h
  · have e : min secs 1000000000 = secs := by omega
    simp [Cl.time, cO, h, h1, Cl.acked, cH, e, s254]
  · subst h
    rw [time_same _ _ (by simp [cO])]
    have e : min secs 1000000000 = secs := by omega
    simp [cO, Cl.acked, cH, e, s254]
theorem cS_msg (t0 draw : Int) : (cS t0 draw).msg = (⟨1, 0, draw, 0, 32768, ad0, ad0, ad0, ad0, lmac⟩, [(53, [1]), (55, [1, 3, 6])]) := by simp [Cl.msg, cS]
theorem cO_msg (t0 draw : Int) : (cO t0 draw).msg = (⟨1, 0, draw, 0, 32768, ad0, ad0, ad0, ad0, lmac⟩, [(53, [3]), (50, a5.bytes), (54, s254.bytes), (55, [1, 3, 6])]) := by simp [Cl.msg, cO]
theorem typeO_cons (x : UInt8) (r : List Ob) (h1 : 1 ≤ x.toNat) (h8 : x.toNat ≤ 8) : typeO ((53, [x]) :: r) = (x.toNat : Int) := by
  rw [show typeO ((53, [x]) :: r) = typeB [x] by simp [typeO, fdO], typeB_one, if_pos ⟨h1, h8⟩]
end Go.Proofs.Ytjpmfmmgmlnanaa
