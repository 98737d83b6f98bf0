/- The law CommitBodies holds: for every input it returns true, and each argument reads afterwards as it read before. -/
import Derived.Test.YtbhfbbfjdklfgaaGreatDoorMYCommitBodies1
import Derived.Test.YtbhfbbfjdklfgaaGreatDoorRows
import Derived.Test.YtbhfbbfjdklfgaaGreatDoorTie
import Derived.WalkKit
import Derived.ProofKit
import Derived.OpenShut
import Derived.ShutString
import Derived.ChangeOld
import Derived.Below
import Derived.SizedLaws
import Derived.Lay
import Derived.LaidOnce
import Derived.SevenTiedAt
import Derived.LaidLaws
import Derived.Handed
import Derived.ChangeVars
import Derived.JoinedOf
set_option linter.unusedVariables false
set_option linter.unusedSimpArgs false
/- The closed facts of CommitBodies. -/
namespace Go.Proofs.YtbhfbbfjdklfgaaGreatDoor.commitBodies
open Go.RowKit
theorem jn1 : Rows.commitBodiesRow.inPlace = Tryz.pinned.checked.prog.inPlace 3 := by kernel_rfl
theorem jn2 : Rows.commitBodiesRow.unfollowed = Tryz.pinned.checked.prog.unfollowed 3 := by kernel_rfl
theorem jn3 : Rows.commitBodiesRow.recurses = Tryz.pinned.checked.prog.recurses 3 := by kernel_rfl
theorem jn4 : Rows.commitBodiesRow.named = Tryz.pinned.checked.prog.varsNamed 3 := by kernel_rfl
theorem joined : joinedFacts Tryz.pinned.checked.prog 3 Tryz.f3 Rows.commitBodiesSpec Rows.commitBodiesRow = true := by unfold joinedFacts; rw [← jn1, ← jn2, ← jn3, ← jn4]; kernel_rfl
theorem jw : Rows.commitBodiesRow.wfByText (OpenSpec.ofChange Rows.commitBodiesSpec) = true := by kernel_rfl
theorem jm : Tryz.pinned.checked.prog.mainIs = some ((true, "122aec7e533ec1bbbaac3b90e11b4338a89c93a5f0ce7185d6d93993e47251e7").1, (true, "122aec7e533ec1bbbaac3b90e11b4338a89c93a5f0ce7185d6d93993e47251e7").2.toList) := by kernel_rfl
theorem jl : true = Tryz.pinned.checked.prog.looks [] := by kernel_rfl
theorem jg : false = Rows.commitBodiesRow.goesBy Tryz.pinned.checked.prog := by kernel_rfl
end Go.Proofs.YtbhfbbfjdklfgaaGreatDoor.commitBodies


