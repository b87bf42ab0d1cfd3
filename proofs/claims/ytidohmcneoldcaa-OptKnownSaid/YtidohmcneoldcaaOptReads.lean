/-
  The walk of the statement OptReads.
-/
import Derived.Test.YtidohmcneoldcaaOpt12
import Derived.Test.YtidohmcneoldcaaOpt5
import Derived.Stop.BytesEq
namespace Go.Proofs.Ytidohmcneoldcaa
open Go.RowKit

def adeq (m o : Ad4) : Bool := m.bytes == o.bytes
theorem adeq_iff (m o : Ad4) : adeq m o = true ↔ m = o := by
  cases m; cases o; simp [adeq, Ad4.bytes]
theorem run_eql_ad (w : World) (m o : Ad4) : (binOp .eql 39 (adV m) (adV o)).run Try.prog w = .ok (.bool (adeq m o)) w :=
  run_eql_bytes (P := Try.prog) w 39 5 4 Try.underlying39 Try.underlying5 (fun w => by kernel_rfl) m.bytes o.bytes rfl rfl

/-- What Get gives, in one form. -/
def GetUPost (w : World) (lo : List Ob) (err : Int) (e : Ending) (w' : World) : Prop :=
  ∃ A n c l, e = .returned (.tuple #[.slice A n c, .int .i64 err]) ∧ OO w' w.heap.size 26 A n c l ∧ obs l = lo ∧ Below w.heap.size w w'
def RGetUPost (w : World) (lo : List Ob) (ok : Bool) (e : Ending) (w' : World) : Prop :=
  ∃ A n c l, e = .returned (.tuple #[.slice A n c, .bool ok]) ∧ OO w' w.heap.size 72 A n c l ∧ obs l = lo ∧ Below w.heap.size w w'
def GetCase (b : List UInt8) (lo : List Ob) (err : Int) (ok : Bool) : Prop := (getO b = some lo ∧ err = 0 ∧ ok = true) ∨ (getO b = none ∧ lo = [] ∧ err = 3 ∧ ok = false)
theorem oget_u (w : World) (A : Option Addr) (n c : Nat) (b : List UInt8) (h : BS w w.heap.size A n c b) (hl : b.length ≤ 1099511627776) (lo : List Ob) (err : Int) (ok : Bool) (hg : GetCase b lo err ok) :
    Calls Try.prog 15 #[.slice A n c] w (GetUPost w lo err) := by
  refine (oget_any w A n c b h hl).mono ?_
  rcases hg with ⟨hg, rfl, rfl⟩ | ⟨hg, rfl, rfl, rfl⟩
  · rw [hg]
    rintro e w' ⟨hb, A, n, c, l, rfl, ho, hl⟩
    exact ⟨A, n, c, l, rfl, ho, hl, hb⟩
  · rw [hg]
    rintro e w' ⟨hb, rfl⟩
    exact ⟨none, 0, 0, [], rfl, OO.nil_ _ _ _, rfl, hb⟩
theorem rget_u (w : World) (A : Option Addr) (n c : Nat) (b : List UInt8) (h : BS w w.heap.size A n c b) (hl : b.length ≤ 1099511627776) (lo : List Ob) (err : Int) (ok : Bool) (hg : GetCase b lo err ok) :
    Calls Try.prog 19 #[.slice A n c] w (RGetUPost w lo ok) := by
  refine (rget_any w A n c b h hl).mono ?_
  rcases hg with ⟨hg, rfl, rfl⟩ | ⟨hg, rfl, rfl, rfl⟩
  · rw [hg]
    rintro e w' ⟨hb, A, n, c, l, rfl, ho, hl⟩
    exact ⟨A, n, c, l, rfl, ho, hl, hb⟩
  · rw [hg]
    rintro e w' ⟨hb, rfl⟩
    exact ⟨none, 0, 0, [], rfl, OO.nil_ _ _ _, rfl, hb⟩

theorem joinO_size : ∀ (l : List Ob) (c : Int) (b : List UInt8) (m : Nat), (∀ o ∈ l, o.2.length ≤ m) → (joinO l c b).length ≤ l.length + 1 ∧ ∀ o ∈ joinO l c b, o.2.length ≤ m + b.length
  | [], c, b, m, _ => by simp [joinO]
  | o :: r, c, b, m, h => by
    have h0 := h o (List.mem_cons_self ..)
    have hr := fun x hx => h x (List.mem_cons_of_mem _ hx)
    rw [joinO]
    split
    · refine ⟨by simp, fun x hx => ?_⟩
      rcases List.mem_cons.1 hx with rfl | hx
      · simp; omega
      · have := hr x hx; omega
    · obtain ⟨h1, h2⟩ := joinO_size r c b m hr
      refine ⟨by simp; omega, fun x hx => ?_⟩
      rcases List.mem_cons.1 hx with rfl | hx
      · omega
      · exact h2 x hx
theorem getF_size : ∀ (k : Nat) (l : List UInt8) (acc r : List Ob) (m : Nat), getF k l acc = some r → acc.length + l.length ≤ m → (∀ o ∈ acc, o.2.length + l.length ≤ m) → r.length ≤ m ∧ ∀ o ∈ r, o.2.length ≤ m
  | 0, _, _, _, _, h, _, _ => by cases h
  | k + 1, [], _, _, _, h, _, _ => by cases h
  | k + 1, c :: r, acc, res, m, h, h1, h2 => by
    rw [getF_cons] at h
    simp only [List.length_cons] at h1 h2
    by_cases h0 : c = 0
    · rw [if_pos h0] at h
      exact getF_size k r acc res m h (by omega) (fun o ho => by have := h2 o ho; omega)
    · rw [if_neg h0] at h
      by_cases h255 : c = 255
      · rw [if_pos h255] at h
        injection h with h
        subst h
        exact ⟨by omega, fun o ho => by have := h2 o ho; omega⟩
      · rw [if_neg h255] at h
        rcases r with _ | ⟨n, r'⟩
        · cases h
        · dsimp only at h
          simp only [List.length_cons] at h1 h2
          by_cases hn : n.toNat ≤ r'.length
          · rw [if_pos hn] at h
            obtain ⟨j1, j2⟩ := joinO_size acc c.toNat (r'.take n.toNat) (m - (r'.length + 1 + 1)) (fun o ho => by have := h2 o ho; omega)
            rw [List.length_take] at j2
            refine getF_size k _ _ res m h (by simp; omega) (fun o ho => ?_)
            have := j2 o ho
            simp
            rcases Nat.lt_or_ge m (r'.length + 2) with h3 | h3
            · omega
            · omega
          · rw [if_neg hn] at h
            cases h
theorem getO_size (b : List UInt8) (r : List Ob) (h : getO b = some r) : r.length ≤ b.length ∧ ∀ o ∈ r, o.2.length ≤ b.length :=
  getF_size _ _ _ _ _ h (by simp) (by simp)

set_option maxRecDepth 100000 in
set_option maxHeartbeats 4000000 in
theorem optReads_walk (w : World) (A : Option Addr) (n c : Nat) (b : List UInt8) (h : BS w w.heap.size A n c b) (code : Int) (_ : (Lit.int .i64 code).wf = true) :
    Calls Try.prog 6 #[.slice A n c, .int .i64 code] w (TruePost w) := by
  have hn := h.1
  have hnm : n ≤ 9223372036854775807 := by have h1 := h.2.1; have h2 := h.2.2.1; unfold maxLen at h2; omega
  by_cases hlong : 1500 < n
  · clear hn
    go_enter Try.func6, Try.ntmps6
    go_wp2_with fail
    refine (awake12_any w).mono ?_
    rintro e w1 ⟨rfl, hb1⟩
    go_wp2_with fail
    go_ret
    exact ⟨rfl, hb1⟩
  have hl : b.length ≤ 1500 := by omega
  clear hn
  obtain ⟨lo, err, ok, hc, hsz, hbz⟩ : ∃ (lo : List Ob) (err : Int) (ok : Bool), GetCase b lo err ok ∧ lo.length ≤ 1500 ∧ ∀ o ∈ lo, o.2.length ≤ 1500 := by
    rcases hg : getO b with _ | lo
    · exact ⟨[], 3, false, .inr ⟨hg, rfl, rfl, rfl⟩, by simp, by simp⟩
    · obtain ⟨h1, h2⟩ := getO_size b lo hg
      exact ⟨lo, 0, true, .inl ⟨hg, rfl, rfl⟩, by omega, fun o ho => by have := h2 o ho; omega⟩
  have hcase : (err = 0 ∧ ok = true) ∨ (err = 3 ∧ ok = false) := by
    rcases hc with ⟨_, h1, h2⟩ | ⟨_, _, h1, h2⟩
    · exact .inl ⟨h1, h2⟩
    · exact .inr ⟨h1, h2⟩
  rcases hcase with ⟨rfl, rfl⟩ | ⟨rfl, rfl⟩
  all_goals
    go_enter Try.func6, Try.ntmps6
    go_wp2_with fail
    refine (awake12_any w).mono ?_
    rintro e w1 ⟨rfl, hb1⟩
    have h1 := (h.below hb1).more hb1.size
    go_wp2_with (at_builtin; go_must (refine app8 rfl _ _ rfl w1.heap.size _ 0 0 [] rfl (OB.empty w1 _ _ _ rfl (Nat.le_refl _) rfl) w1.heap.size A n c b rfl (h1.alloc (Nat.le_refl _) _) (by simp; omega) (by simp) ?_))
    intro A2 n2 c2 w2 ho2 hb2 _
    replace ho2 : OB w2 w1.heap.size A2 n2 c2 b := ho2
    have q2 := (hb1.alloc hb1.size (.cells #[] 5)).trans (hb2.mono hb1.size)
    clear h1
    go_wp2_with fail
    refine (oget_u w2 A2 n2 c2 b ho2.bs (by omega) lo _ _ hc).mono ?_
    rintro e w3 ⟨A3, n3, c3, l3, rfl, ho3, hl3, hb3⟩
    have q3 := q2.trans (hb3.mono q2.size)
    have HL3 := Lib.hid hl3
    have hs3 : l3.length ≤ 1500 := by rw [← obs_length, hl3]; exact hsz
    have hB3 : ∀ o ∈ l3, o.body.length ≤ 1099511627776 := fun o ho => by have := bodies_le (m := 1500) (by rw [hl3]; exact hbz) o ho; omega
    clear hl3
    go_wp2_with fail
    refine (rget_u w3 A n c b ((h.below q3).more q3.size) (by omega) lo _ _ hc).mono ?_
    rintro e w4 ⟨A4, n4, c4, l4, rfl, ho4, hl4, hb4⟩
    have q4 := q3.trans (hb4.mono q3.size)
    have HL4 := Lib.hid hl4
    have hs4 : l4.length ≤ 1500 := by rw [← obs_length, hl4]; exact hsz
    clear hl4
    have os3 := ((ho3.os.below hb4).more hb4.size)
    have os4 := ho4.os
    have EB := Lib.hid (show fdB l4 code = fdB l3 code by rw [fdB_obs, fdB_obs, HL3.out, HL4.out])
    have EK := Lib.hid (show fdK l4 code = fdK l3 code by rw [fdK_obs, fdK_obs, HL3.out, HL4.out])
    have EN := Lib.hid (show scN l4 code = scN l3 code by unfold scN; rw [EB.out, EK.out])
    have ES := Lib.hid (show scK l4 code = scK l3 code by unfold scK; rw [EB.out, EK.out])
    have EA := Lib.hid (show scA l4 code = scA l3 code by unfold scA; rw [EB.out, ES.out])
    clear hsz hbz ho2 ho3 ho4 hb2 hb3 hb4
    go_wp2_with fail
    refine (own12_any w4 A3 n3 c3 l3 os3 (by omega)).mono ?_
    rintro e w5 ⟨A5, n5, c5, rfl, os5, hb5⟩
    have q5 := q4.trans (hb5.mono q4.size)
    have os3' := (os3.below hb5).more hb5.size
    have os4' := (os4.below hb5).more hb5.size
    clear os3 os4 hb5
    go_wp2_with fail
    refine (same12_any w5 A5 n5 c5 l3 os5 A4 n4 c4 l4 os4' (by omega) (by omega)).mono ?_
    rw [HL3.out, HL4.out, sameO_self]
    rintro e w6 ⟨rfl, hb6⟩
    have q6 := q5.trans (hb6.mono q5.size)
    have os36 := (os3'.below hb6).more hb6.size
    have os46 := (os4'.below hb6).more hb6.size
    clear os3' os4' hb6 os5
    go_wp2_with fail
    refine (find_any w6 A3 n3 c3 l3 code os36 hB3).mono ?_
    rintro e w7 ⟨A7, n7, c7, rfl, ho7, hb7⟩
    have q7 := q6.trans (hb7.mono q6.size)
    have os37 := (os36.below hb7).more hb7.size
    have os47 := (os46.below hb7).more hb7.size
    clear os36 os46 hb7
    go_wp2_with fail
    refine (rfind_any w7 A4 n4 c4 l4 code os47).mono ?_
    rw [EB.out, EK.out]
    rintro e w8 ⟨A8, n8, c8, rfl, ho8, hb8⟩
    have q8 := q7.trans (hb8.mono q7.size)
    have os38 := (os37.below hb8).more hb8.size
    have os48 := (os47.below hb8).more hb8.size
    have x8 := (ho7.bs.below hb8).more hb8.size
    have y8 := ho8.more hb8.size
    clear os37 os47 hb8 ho7 ho8
    go_wp2_with fail
    refine (oaddr_any w8 A3 n3 c3 l3 code os38 hB3).mono ?_
    obtain ⟨ad, had⟩ : ∃ ad, scA l3 code = ad := ⟨_, rfl⟩
    rw [had] at EA ⊢
    rintro e w9 ⟨rfl, hb9⟩
    have q9 := q8.trans (hb9.mono q8.size)
    have os39 := (os38.below hb9).more hb9.size
    have os49 := (os48.below hb9).more hb9.size
    have x9 := (x8.below hb9).more hb9.size
    have y9 := (y8.below hb9).more hb9.size
    clear os38 os48 hb9 x8 y8
    go_wp2_with ((with_reducible apply at_store_new 39); (case hx => exact rfl); (case hy => exact rfl); (case hg => first | rfl | simp); (case hi => kernel_rfl); (case hold => rfl); (case h1 => kernel_rfl))
    have ba : Below w9.heap.size w9 (w9.alloc (.cells (adC ad) 39)) := (Below.refl _ w9).alloc (Nat.le_refl _) _
    refine (roaddr_any _ A4 n4 c4 l4 code ((os49.below ba).more (by simp))).mono ?_
    rw [EA.out, ES.out]
    rintro e w10 ⟨rfl, hb10⟩
    have qa := q9.alloc q9.size (.cells (adC ad) 39)
    have q10 := qa.trans (hb10.mono (by have := q9.size; simp; omega))
    have zb : w9.heap.size ≤ w10.heap.size := by have := hb10.size; simp at this; omega
    have bb := ba.trans (hb10.mono (by simp))
    have HA : Hid (w10.heap[w9.heap.size]? = some (.cells (adC ad) 39 (0, 0))) := Lib.hid (below_at hb10 (heap_alloc_at rfl) (by simp))
    have zlt : w9.heap.size < w10.heap.size := heap_lt HA.out
    have os310 := (os39.below bb).more zb
    have os410 := (os49.below bb).more zb
    have x10 := (x9.below bb).more zb
    have y10 := (y9.below bb).more zb
    clear os39 os49 x9 y9 ba bb hb10 qa
    go_wp2_with ((with_reducible apply at_store_new 39); (case hx => exact rfl); (case hy => exact rfl); (case hg => first | rfl | simp); (case hi => kernel_rfl); (case hold => rfl); (case h1 => kernel_rfl))
    have ba : Below w10.heap.size w10 (w10.alloc (.cells (adC ad) 39)) := (Below.refl _ w10).alloc (Nat.le_refl _) _
    refine (secs_any _ A3 n3 c3 l3 code ((os310.below ba).more (by simp)) hB3).mono ?_
    rintro e w11 ⟨rfl, hb11⟩
    have qa := q10.alloc q10.size (.cells (adC ad) 39)
    have q11 := qa.trans (hb11.mono (by have := q10.size; simp; omega))
    have zb : w10.heap.size ≤ w11.heap.size := by have := hb11.size; simp at this; omega
    have bb := ba.trans (hb11.mono (by simp))
    have HA2 : Hid (w11.heap[w9.heap.size]? = some (.cells (adC ad) 39 (0, 0))) := Lib.hid (below_at bb HA.out zlt)
    have HB2 : Hid (w11.heap[w10.heap.size]? = some (.cells (adC ad) 39 (0, 0))) := Lib.hid (below_at hb11 (heap_alloc_at rfl) (by simp))
    have os411 := (os410.below bb).more zb
    have x11 := (x10.below bb).more zb
    have y11 := (y10.below bb).more zb
    have zlt2 : w10.heap.size < w11.heap.size := heap_lt HB2.out
    clear os310 os410 x10 y10 ba bb hb11 qa
    go_wp2_with fail
    refine (rsecs_any w11 A4 n4 c4 l4 code os411).mono ?_
    rw [EN.out, ES.out]
    rintro e w12 ⟨rfl, hb12⟩
    have q12 := q11.trans (hb12.mono q11.size)
    have s1 := run_str (x11.below hb12)
    have s2 := run_str (y11.below hb12)
    have HA3 : Hid (w12.heap[w9.heap.size]? = some (.cells (adC ad) 39 (0, 0))) := Lib.hid (below_at hb12 HA2.out (by omega))
    have HB3 : Hid (w12.heap[w10.heap.size]? = some (.cells (adC ad) 39 (0, 0))) := Lib.hid (below_at hb12 HB2.out zlt2)
    have hs : ((str (fdB l3 code)).toList == (str (fdB l3 code)).toList) = true := beq_self_eq_true _
    have e1 : (fdK l3 code == fdK l3 code) = true := beq_self_eq_true _
    have e2 : (scK l3 code == scK l3 code) = true := beq_self_eq_true _
    have e3 : ∀ x, (binOp .eql 39 (adV ad) (adV ad)).run Try.prog x = .ok (.bool true) x := fun x => by
      have := run_eql_ad x ad ad
      rwa [(adeq_iff ad ad).2 rfl] at this
    clear os411 x11 y11 hb12 HA HA2 HB2
    go_wp2_with (first | ((with_reducible apply at_load_guard 39); (case hx => exact rfl); (case hg => exact HA3.out); (case hw => first | rfl | kernel_rfl); (case hu => exact Try.underlying39); (case hd => rfl); (case hi => kernel_rfl)) | ((with_reducible apply at_load_guard 39); (case hx => exact rfl); (case hg => exact HB3.out); (case hw => first | rfl | kernel_rfl); (case hu => exact Try.underlying39); (case hd => rfl); (case hi => kernel_rfl)))
    go_ret
    exact ⟨rfl, q12⟩
end Go.Proofs.Ytidohmcneoldcaa
