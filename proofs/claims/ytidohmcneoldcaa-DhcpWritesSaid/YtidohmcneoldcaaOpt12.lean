/-
  What each statement of chapter 12 asks first: awake.
-/
import Derived.Test.YtidohmcneoldcaaOpt11
namespace Go.Proofs.Ytidohmcneoldcaa
open Go.RowKit

/-- The bytes of a list's first option of a code, by the options' data alone. -/
def fdO (l : List Ob) (code : Int) : Option (List UInt8) := (l.find? (fun o => o.1 == code)).map (·.2)
theorem fd_obs : ∀ (l : List Op1) (code : Int), (opFind l code).map Op1.body = fdO (obs l) code
  | [], _ => rfl
  | o :: r, code => by
    have ih := fd_obs r code
    unfold opFind fdO at ih ⊢
    show ((o :: r).find? _).map _ = ((o.ob :: obs r).find? _).map _
    rw [List.find?_cons, List.find?_cons]
    show Option.map Op1.body (match o.code == code with | true => some o | false => _) = Option.map _ (match o.code == code with | true => some o.ob | false => _)
    cases o.code == code
    · exact ih
    · rfl
theorem fdB_obs (l : List Op1) (code : Int) : fdB l code = (fdO (obs l) code).getD [] := by
  rw [← fd_obs]
  unfold fdB
  cases opFind l code <;> rfl
theorem fdK_obs (l : List Op1) (code : Int) : fdK l code = (fdO (obs l) code).isSome := by
  rw [← fd_obs]
  unfold fdK
  cases opFind l code <;> rfl

theorem OB.len {w : World} {H n c : Nat} {A : Option Addr} {l : List UInt8} (h : OB w H A n c l) : n = l.length := h.1
theorem bodies_le {l : List Op1} {m : Nat} (h : ∀ o ∈ obs l, o.2.length ≤ m) : ∀ o ∈ l, o.body.length ≤ m := fun o ho => h o.ob (List.mem_map.2 ⟨o, ho, rfl⟩)

set_option maxRecDepth 100000 in
set_option maxHeartbeats 1000000 in
theorem awake12_any (w : World) : Calls Try.prog 11 #[] w (TruePost w) := by
  have G1 := Lib.hid (show getO [53, 1, 1, 255] = some [(53, [1])] by decide)
  have P1 := Lib.hid (show putO [(53, [1])] = ([53, 1, 1, 255], 0) by decide)
  have D1 := Lib.hid (show fdO [(53, [1])] 53 = some [1] by decide)
  go_enter Try.func11, Try.ntmps11
  go_wp2_with fail
  refine (oget_any _ _ 4 4 [53, 1, 1, 255] (BS.block [53, 1, 1, 255] (heap_alloc_new w _) rfl (by simp [maxLen])) (by simp)).mono ?_
  rw [G1.out]
  rintro e w1 ⟨hb1, A1, n1, c1, l1, rfl, ho1, hl1⟩
  have q1 := ((Below.refl _ w).alloc (Nat.le_refl _) (.cells #[.int .u8 53, .int .u8 1, .int .u8 1, .int .u8 255] 5)).trans (hb1.mono (by simp))
  have hn1 : n1 = 1 := by rw [ho1.1, ← obs_length, hl1]; rfl
  subst hn1
  have HL := Lib.hid hl1
  have hll : l1.length ≤ 1099511627776 := by have := ho1.1; omega
  have hbl : ∀ o ∈ l1, o.body.length ≤ 1099511627776 := bodies_le (by rw [hl1]; simp)
  clear hl1
  go_wp2_with fail
  refine (oput_any _ A1 1 c1 l1 ho1.os hll hbl).mono ?_
  rw [HL.out, P1.out]
  rintro e w2 ⟨A2, n2, c2, rfl, ho2, hb2⟩
  have q2 := q1.trans (hb2.mono q1.size)
  have os2 := (ho1.os.below hb2).more hb2.size
  go_wp2_with fail
  refine (find_any _ A1 1 c1 l1 53 os2 hbl).mono ?_
  rw [fdB_obs, fdK_obs, HL.out, D1.out]
  rintro e w3 ⟨A3, n3, c3, rfl, ho3, hb3⟩
  have hn3 : n3 = 1 := ho3.len
  subst hn3
  have q3 := q2.trans (hb3.mono q2.size)
  have hc := run_str ((ho2.below hb3).bs)
  have hs : ((str [53, 1, 1, 255]).toList == [53, 1, 1, 255]) = true := by rw [toList_str]; rfl
  go_wp2_with fail
  go_ret
  exact ⟨rfl, q3⟩
end Go.Proofs.Ytidohmcneoldcaa
