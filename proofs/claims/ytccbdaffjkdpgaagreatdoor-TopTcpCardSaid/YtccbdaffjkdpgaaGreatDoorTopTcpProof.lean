/-
  The statement TopTcp: whatever the input it answers true; each argument reads as it did. No condition.
-/
import Derived.Test.YtccbdaffjkdpgaaGreatDoorTopTcpPre
import Derived.Test.YtccbdaffjkdpgaaGreatDoorTcr
import Derived.Test.YtccbdaffjkdpgaaGreatDoorTcw
namespace Go.Proofs.YtccbdaffjkdpgaaGreatDoor
open Go.RowKit
theorem rows_of {rows : List Vw.Row} [Vw.Val] (h : ∀ w ∈ (Vw.rowV :: rows : List Vw.Row), Vw.RowOk w) (w : Vw.Row) (hw : (Vw.mkTab (Vw.rowV :: rows)).has w) : Vw.RowOk w := h w ((Vw.mkTab_s _).2 w hw)
theorem topTcp_any (w : World) (hm : mlIs w) (n v p k : Int) (_ : (Lit.int .i64 n).wf = true) (hv : (Lit.int .i64 v).wf = true) (_ : (Lit.int .i64 p).wf = true) (_ : (Lit.int .i64 k).wf = true) : Calls Tryz.prog 3 #[.int .i64 n, .int .i64 v, .int .i64 p, .int .i64 k] w (fun e w' => e = .returned (.bool true) ∧ Below w.heap.size w w') := by
  by_cases h : n < 0 ∨ 2 < n ∨ p < 1 ∨ 65535 < p ∨ k < 0 ∨ 100 < k
  · exact tcp_out w hm n v p k h
  · obtain ⟨v1, v2⟩ := wf_i64 hv
    obtain ⟨q, rfl⟩ : ∃ q : Nat, p = q := ⟨p.toNat, by omega⟩
    obtain ⟨j, rfl⟩ : ∃ j : Nat, k = j := ⟨k.toNat, by omega⟩
    have h1 : n = 0 ∨ n = 1 ∨ n = 2 := by omega
    rcases Nat.lt_or_ge q 40000 with hq | hq
    · rcases h1 with rfl | rfl | rfl
      · obtain ⟨inst, e1, e2, e3, e4, e5, e6⟩ := Vw.codes_ok (rows := Vw.rows0) (lo' := 1) (hi' := 39999) v v1 (by omega) (p := q) (k := j) (by omega) (by omega) (by omega) (by omega) Vw.chk0
        exact @tcp_in w hm inst 0 (by decide) v q j e1 e2 e3 fun st hR => @Vw.tc_run0 inst j (by omega) (@rows_of _ inst e4) e5 e6 _ _ _ _ st hR
      · obtain ⟨inst, e1, e2, e3, e4, e5, e6⟩ := Vw.codes_ok (rows := Vw.rows1) (lo' := 1) (hi' := 39999) v v1 (by omega) (p := q) (k := j) (by omega) (by omega) (by omega) (by omega) Vw.chk1
        exact @tcp_in w hm inst 1 (by decide) v q j e1 e2 e3 fun st hR => @Vw.tc_run1 inst j (by omega) (@rows_of _ inst e4) e5 e6 _ _ _ _ st hR
      · obtain ⟨inst, e1, e2, e3, e4, e5, e6⟩ := Vw.codes_ok (rows := Vw.rows2) (lo' := 1) (hi' := 39999) v v1 (by omega) (p := q) (k := j) (by omega) (by omega) (by omega) (by omega) Vw.chk2
        exact @tcp_in w hm inst 2 (by decide) v q j e1 e2 e3 fun st hR => @Vw.tc_run2 inst j (by omega) (@rows_of _ inst e4) e5 e6 _ _ _ _ st hR
    · rcases h1 with rfl | rfl | rfl
      · obtain ⟨inst, e1, e2, e3, e4, e5, e6⟩ := Vw.codes_ok (rows := Vw.rows3) (lo' := 40000) (hi' := 65535) v v1 (by omega) (p := q) (k := j) (by omega) (by omega) (by omega) (by omega) Vw.chk3
        exact @tcp_in w hm inst 0 (by decide) v q j e1 e2 e3 fun st hR => @Vw.tc_run3 inst j (by omega) (@rows_of _ inst e4) e5 e6 _ _ _ _ st hR
      · obtain ⟨inst, e1, e2, e3, e4, e5, e6⟩ := Vw.codes_ok (rows := Vw.rows4) (lo' := 40000) (hi' := 65535) v v1 (by omega) (p := q) (k := j) (by omega) (by omega) (by omega) (by omega) Vw.chk4
        exact @tcp_in w hm inst 1 (by decide) v q j e1 e2 e3 fun st hR => @Vw.tc_run4 inst j (by omega) (@rows_of _ inst e4) e5 e6 _ _ _ _ st hR
      · obtain ⟨inst, e1, e2, e3, e4, e5, e6⟩ := Vw.codes_ok (rows := Vw.rows5) (lo' := 40000) (hi' := 65535) v v1 (by omega) (p := q) (k := j) (by omega) (by omega) (by omega) (by omega) Vw.chk5
        exact @tcp_in w hm inst 2 (by decide) v q j e1 e2 e3 fun st hR => @Vw.tc_run5 inst j (by omega) (@rows_of _ inst e4) e5 e6 _ _ _ _ st hR
end Go.Proofs.YtccbdaffjkdpgaaGreatDoor

namespace Go.Proofs.YtccbdaffjkdpgaaGreatDoor.topTcp
theorem carded : Rows.TopTcpCardSaid := carded_of topTcp_any
#print axioms carded
end Go.Proofs.YtccbdaffjkdpgaaGreatDoor.topTcp
