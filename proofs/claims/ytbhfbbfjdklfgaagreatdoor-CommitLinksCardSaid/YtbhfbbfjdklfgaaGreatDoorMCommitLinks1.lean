/- The law CommitLinks holds: for every input it returns true, and each argument reads afterwards as it read before. -/
import Derived.Test.YtbhfbbfjdklfgaaGreatDoorMYCommitLinks1
import Derived.Test.YtbhfbbfjdklfgaaGreatDoorRows
import Derived.Test.YtbhfbbfjdklfgaaGreatDoorTie
import Derived.ProofKit
import Derived.OpenShut
import Derived.ShutString
import Derived.ChangeOld
import Derived.SizedLaws
import Derived.Lay
import Derived.LaidOnce
import Derived.SevenTiedAt
import Derived.LaidLaws
import Derived.Handed
import Derived.ChangeVars
import Derived.JoinedOf
set_option linter.unusedVariables false
set_option linter.unusedSimpArgs false
set_option maxHeartbeats 8000000
set_option maxRecDepth 100000
namespace Go.Proofs.YtbhfbbfjdklfgaaGreatDoor.commitLinks
open Go.RowKit
theorem jn1 : Rows.commitLinksRow.inPlace = Tryz.pinned.checked.prog.inPlace 7 := by kernel_rfl
theorem jn2 : Rows.commitLinksRow.unfollowed = Tryz.pinned.checked.prog.unfollowed 7 := by kernel_rfl
theorem jn3 : Rows.commitLinksRow.recurses = Tryz.pinned.checked.prog.recurses 7 := by kernel_rfl
theorem jn4 : Rows.commitLinksRow.named = Tryz.pinned.checked.prog.varsNamed 7 := by kernel_rfl
theorem joined : joinedFacts Tryz.pinned.checked.prog 7 Tryz.f7 Rows.commitLinksSpec Rows.commitLinksRow = true := by unfold joinedFacts; rw [← jn1, ← jn2, ← jn3, ← jn4]; kernel_rfl
theorem jw : Rows.commitLinksRow.wfByText (OpenSpec.ofChange Rows.commitLinksSpec) = true := by kernel_rfl
theorem jm : Tryz.pinned.checked.prog.mainIs = some ((true, "122aec7e533ec1bbbaac3b90e11b4338a89c93a5f0ce7185d6d93993e47251e7").1, (true, "122aec7e533ec1bbbaac3b90e11b4338a89c93a5f0ce7185d6d93993e47251e7").2.toList) := by kernel_rfl
theorem jl : true = Tryz.pinned.checked.prog.looks [] := by kernel_rfl
theorem jg : false = Rows.commitLinksRow.goesBy Tryz.pinned.checked.prog := by kernel_rfl
end Go.Proofs.YtbhfbbfjdklfgaaGreatDoor.commitLinks

