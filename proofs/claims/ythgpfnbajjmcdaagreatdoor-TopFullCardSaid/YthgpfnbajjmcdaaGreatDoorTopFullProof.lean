/-
  The statement TopFull: whatever the input it answers true; each argument reads as it did. No condition.
-/
import Derived.Test.YthgpfnbajjmcdaaGreatDoorTopFullPre
import Derived.Test.YthgpfnbajjmcdaaGreatDoorTfr
import Derived.Test.YthgpfnbajjmcdaaGreatDoorTfw0
namespace Go.Proofs.YthgpfnbajjmcdaaGreatDoor
open Go.RowKit
theorem topFull_any (w : World) (hm : mlIs w) (a : Int) (_ha : (Lit.int .i64 a).wf = true) : Calls Tryz.prog 3 #[.int .i64 a] w (fun e w' => e = .returned (.bool true) ∧ Below w.heap.size w w') := by
  by_cases h : a < 0 ∨ 2 < a
  · exact full_out w hm a h
  · have h1 : a = 0 ∨ a = 1 ∨ a = 2 := by omega
    rcases h1 with rfl | rfl | rfl
    · exact full_in w hm 0 (by decide) fun st hR => Vw.fu_run0 st hR
    · exact full_in w hm 1 (by decide) fun st hR => Vw.fu_run1 st hR
    · exact full_in w hm 2 (by decide) fun st hR => Vw.fu_run2 st hR
end Go.Proofs.YthgpfnbajjmcdaaGreatDoor

namespace Go.Proofs.YthgpfnbajjmcdaaGreatDoor.topFull
theorem carded : Rows.TopFullCardSaid := carded_of topFull_any
#print axioms carded
end Go.Proofs.YthgpfnbajjmcdaaGreatDoor.topFull
