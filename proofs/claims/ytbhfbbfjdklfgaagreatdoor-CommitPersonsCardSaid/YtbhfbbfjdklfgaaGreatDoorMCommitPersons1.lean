/- The law CommitPersons holds: for every input it returns true, and each argument reads afterwards as it read before. -/
import Derived.Test.YtbhfbbfjdklfgaaGreatDoorMYCommitPersons1
import Derived.Test.YtbhfbbfjdklfgaaGreatDoorRows
import Derived.Test.YtbhfbbfjdklfgaaGreatDoorTie
import Derived.WalkKit
import Derived.ProofKit
import Derived.OpenShut
import Derived.ShutString
import Derived.ChangeOld
import Derived.Below
import Derived.SizedLaws
import Derived.Lay
import Derived.LaidOnce
import Derived.SevenTiedAt
import Derived.LaidLaws
import Derived.Handed
import Derived.ChangeVars
import Derived.JoinedOf
set_option linter.unusedVariables false
set_option linter.unusedSimpArgs false
/- The closed facts of CommitPersons. -/
namespace Go.Proofs.YtbhfbbfjdklfgaaGreatDoor.commitPersons
open Go.RowKit
theorem jn1 : Rows.commitPersonsRow.inPlace = Tryz.pinned.checked.prog.inPlace 6 := by kernel_rfl
theorem jn2 : Rows.commitPersonsRow.unfollowed = Tryz.pinned.checked.prog.unfollowed 6 := by kernel_rfl
theorem jn3 : Rows.commitPersonsRow.recurses = Tryz.pinned.checked.prog.recurses 6 := by kernel_rfl
theorem jn4 : Rows.commitPersonsRow.named = Tryz.pinned.checked.prog.varsNamed 6 := by kernel_rfl
theorem joined : joinedFacts Tryz.pinned.checked.prog 6 Tryz.f6 Rows.commitPersonsSpec Rows.commitPersonsRow = true := by unfold joinedFacts; rw [← jn1, ← jn2, ← jn3, ← jn4]; kernel_rfl
theorem jw : Rows.commitPersonsRow.wfByText (OpenSpec.ofChange Rows.commitPersonsSpec) = true := by kernel_rfl
theorem jm : Tryz.pinned.checked.prog.mainIs = some ((true, "122aec7e533ec1bbbaac3b90e11b4338a89c93a5f0ce7185d6d93993e47251e7").1, (true, "122aec7e533ec1bbbaac3b90e11b4338a89c93a5f0ce7185d6d93993e47251e7").2.toList) := by kernel_rfl
theorem jl : true = Tryz.pinned.checked.prog.looks [] := by kernel_rfl
theorem jg : false = Rows.commitPersonsRow.goesBy Tryz.pinned.checked.prog := by kernel_rfl
end Go.Proofs.YtbhfbbfjdklfgaaGreatDoor.commitPersons


