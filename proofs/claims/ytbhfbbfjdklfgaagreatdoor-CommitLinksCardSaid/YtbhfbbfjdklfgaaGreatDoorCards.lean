/-
  DERIVED. GIVEN WITH THE SEED: THE CARDS: each row of YtbhfbbfjdklfgaaGreatDoorRows.lean that lists a variable, with what it lists TIED to the program's text (the seventh form; the later family's looks); each row that meets fmt, with fmt's text TOLD by the authors' own Lean function (tested against real Go, not proved from fmt's source: count such statements apart). THE CARD IS WHAT COUNTS. Prove the row's statement (the work); the ties are given (YtbhfbbfjdklfgaaGreatDoorTie.lean); close each card by the builder's one call (the guide's Derived/Test/ToyasCard.lean, 'card_holds'). Laid BY PROGRAM, IN A SANDBOX (cutbox-door.mjs). By AI agents, Wed Nov 11 2026. No macro, syntax, notation, axiom, sorry.
-/
import Derived.Test.YtbhfbbfjdklfgaaGreatDoorRows
import GoSem.ClaimSeven
namespace Go.Proofs.YtbhfbbfjdklfgaaGreatDoor
namespace Rows

/-- THE TIED CARD OF 'graftagelaw16.CommitBodies'. -/
def commitBodiesCard : Claim7 := { stood := { row := commitBodiesRow, standIns := [], harness := (true, "122aec7e533ec1bbbaac3b90e11b4338a89c93a5f0ce7185d6d93993e47251e7"), looks := true }, kinds := [], alts := [], laidByText := true, laidKinds := [.data, .data, .data, .data, .sentinel, .sentinel, .pinned], laidTests := true, laidLooks := .later }
def CommitBodiesCardSaid : Prop := Claim7.holds Tryz.pinned (.plain (OpenSpec.ofChange commitBodiesSpec)) commitBodiesCard

/-- THE TIED CARD OF 'graftagelaw16.CommitReads'. -/
def commitReadsCard : Claim7 := { stood := { row := commitReadsRow, standIns := [], harness := (true, "122aec7e533ec1bbbaac3b90e11b4338a89c93a5f0ce7185d6d93993e47251e7"), looks := true }, kinds := [], alts := [], laidByText := true, laidKinds := [.data, .data, .data, .data, .sentinel, .sentinel, .pinned], laidTests := true, laidLooks := .later }
def CommitReadsCardSaid : Prop := Claim7.holds Tryz.pinned (.plain (OpenSpec.ofChange commitReadsSpec)) commitReadsCard

/-- THE TIED CARD OF 'graftagelaw16.CommitTags'. -/
def commitTagsCard : Claim7 := { stood := { row := commitTagsRow, standIns := [], harness := (true, "122aec7e533ec1bbbaac3b90e11b4338a89c93a5f0ce7185d6d93993e47251e7"), looks := true }, kinds := [], alts := [], laidByText := true, laidKinds := [.data, .data, .data, .data, .sentinel, .sentinel, .pinned], laidTests := true, laidLooks := .later }
def CommitTagsCardSaid : Prop := Claim7.holds Tryz.pinned (.plain (OpenSpec.ofChange commitTagsSpec)) commitTagsCard

/-- THE TIED CARD OF 'graftagelaw16.CommitPersons'. -/
def commitPersonsCard : Claim7 := { stood := { row := commitPersonsRow, standIns := [], harness := (true, "122aec7e533ec1bbbaac3b90e11b4338a89c93a5f0ce7185d6d93993e47251e7"), looks := true }, kinds := [], alts := [], laidByText := true, laidKinds := [.data, .data, .data, .data, .sentinel, .sentinel, .pinned], laidTests := true, laidLooks := .later }
def CommitPersonsCardSaid : Prop := Claim7.holds Tryz.pinned (.plain (OpenSpec.ofChange commitPersonsSpec)) commitPersonsCard

/-- THE TIED CARD OF 'graftagelaw16.CommitLinks'. -/
def commitLinksCard : Claim7 := { stood := { row := commitLinksRow, standIns := [], harness := (true, "122aec7e533ec1bbbaac3b90e11b4338a89c93a5f0ce7185d6d93993e47251e7"), looks := true }, kinds := [], alts := [], laidByText := true, laidKinds := [.data, .data, .data, .data, .sentinel, .sentinel, .pinned], laidTests := true, laidLooks := .later }
def CommitLinksCardSaid : Prop := Claim7.holds Tryz.pinned (.plain (OpenSpec.ofChange commitLinksSpec)) commitLinksCard

/-- THE TIED CARD OF 'graftagelaw16.CommitNames'. -/
def commitNamesCard : Claim7 := { stood := { row := commitNamesRow, standIns := [], harness := (true, "122aec7e533ec1bbbaac3b90e11b4338a89c93a5f0ce7185d6d93993e47251e7"), looks := true }, kinds := [], alts := [], laidByText := true, laidKinds := [.data, .data, .data, .data, .sentinel, .sentinel, .pinned], laidTests := true, laidLooks := .later }
def CommitNamesCardSaid : Prop := Claim7.holds Tryz.pinned (.plain (OpenSpec.ofChange commitNamesSpec)) commitNamesCard

/-- THE TIED CARD OF 'graftagelaw38.ReflogRights'. -/
def reflogRightsCard : Claim7 := { stood := { row := reflogRightsRow, standIns := [], harness := (true, "122aec7e533ec1bbbaac3b90e11b4338a89c93a5f0ce7185d6d93993e47251e7"), looks := true }, kinds := [], alts := [], laidByText := true, laidKinds := [.data, .data, .data, .data, .sentinel, .sentinel, .pinned], laidTests := true, laidLooks := .later }
def ReflogRightsCardSaid : Prop := Claim7.holds Tryz.pinned (.plain (OpenSpec.ofChange reflogRightsSpec)) reflogRightsCard

/-- THE TIED CARD OF 'graftagelaw38.ReflogReads'. -/
def reflogReadsCard : Claim7 := { stood := { row := reflogReadsRow, standIns := [], harness := (true, "122aec7e533ec1bbbaac3b90e11b4338a89c93a5f0ce7185d6d93993e47251e7"), looks := true }, kinds := [], alts := [], laidByText := true, laidKinds := [.data, .data, .data, .data, .sentinel, .sentinel, .pinned], laidTests := true, laidLooks := .later }
def ReflogReadsCardSaid : Prop := Claim7.holds Tryz.pinned (.plain (OpenSpec.ofChange reflogReadsSpec)) reflogReadsCard

/-- THE TIED CARD OF 'graftagelaw38.ReflogTells'. -/
def reflogTellsCard : Claim7 := { stood := { row := reflogTellsRow, standIns := [], harness := (true, "122aec7e533ec1bbbaac3b90e11b4338a89c93a5f0ce7185d6d93993e47251e7"), looks := true }, kinds := [], alts := [], laidByText := true, laidKinds := [.data, .data, .data, .data, .sentinel, .sentinel, .pinned], laidTests := true, laidLooks := .later }
def ReflogTellsCardSaid : Prop := Claim7.holds Tryz.pinned (.plain (OpenSpec.ofChange reflogTellsSpec)) reflogTellsCard

/-- THE TIED CARD OF 'graftagelaw38.ReflogWanes'. -/
def reflogWanesCard : Claim7 := { stood := { row := reflogWanesRow, standIns := [], harness := (true, "122aec7e533ec1bbbaac3b90e11b4338a89c93a5f0ce7185d6d93993e47251e7"), looks := true }, kinds := [], alts := [], laidByText := true, laidKinds := [.data, .data, .data, .data, .sentinel, .sentinel, .pinned], laidTests := true, laidLooks := .later }
def ReflogWanesCardSaid : Prop := Claim7.holds Tryz.pinned (.plain (OpenSpec.ofChange reflogWanesSpec)) reflogWanesCard

/-- THE TIED CARD OF 'graftagelaw38.ReflogAdds'. -/
def reflogAddsCard : Claim7 := { stood := { row := reflogAddsRow, standIns := [], harness := (true, "122aec7e533ec1bbbaac3b90e11b4338a89c93a5f0ce7185d6d93993e47251e7"), looks := true }, kinds := [], alts := [], laidByText := true, laidKinds := [.data, .data, .data, .data, .sentinel, .sentinel, .pinned], laidTests := true, laidLooks := .later }
def ReflogAddsCardSaid : Prop := Claim7.holds Tryz.pinned (.plain (OpenSpec.ofChange reflogAddsSpec)) reflogAddsCard

/-- THE TIED CARD OF 'graftagelaw38.ReflogGrows'. -/
def reflogGrowsCard : Claim7 := { stood := { row := reflogGrowsRow, standIns := [], harness := (true, "122aec7e533ec1bbbaac3b90e11b4338a89c93a5f0ce7185d6d93993e47251e7"), looks := true }, kinds := [], alts := [], laidByText := true, laidKinds := [.data, .data, .data, .data, .sentinel, .sentinel, .pinned], laidTests := true, laidLooks := .later }
def ReflogGrowsCardSaid : Prop := Claim7.holds Tryz.pinned (.plain (OpenSpec.ofChange reflogGrowsSpec)) reflogGrowsCard

/-- THE SECOND FORM's CARD OF 'graftagelaw16.CommitBodies'. -/
def commitBodiesUptoCard : Claim7 := { stood := { row := commitBodiesUptoRow, standIns := [], harness := (true, "122aec7e533ec1bbbaac3b90e11b4338a89c93a5f0ce7185d6d93993e47251e7"), looks := true }, kinds := [], alts := [], laidByText := true, laidKinds := [.data, .data, .data, .data, .sentinel, .sentinel, .pinned], laidTests := true, laidLooks := .later }
def CommitBodiesUptoCardSaid : Prop := Claim7.holds Tryz.pinned (.plain (OpenSpec.upto commitBodiesSpec)) commitBodiesUptoCard

/-- THE SECOND FORM's CARD OF 'graftagelaw16.CommitReads'. -/
def commitReadsUptoCard : Claim7 := { stood := { row := commitReadsUptoRow, standIns := [], harness := (true, "122aec7e533ec1bbbaac3b90e11b4338a89c93a5f0ce7185d6d93993e47251e7"), looks := true }, kinds := [], alts := [], laidByText := true, laidKinds := [.data, .data, .data, .data, .sentinel, .sentinel, .pinned], laidTests := true, laidLooks := .later }
def CommitReadsUptoCardSaid : Prop := Claim7.holds Tryz.pinned (.plain (OpenSpec.upto commitReadsSpec)) commitReadsUptoCard

/-- THE SECOND FORM's CARD OF 'graftagelaw16.CommitTags'. -/
def commitTagsUptoCard : Claim7 := { stood := { row := commitTagsUptoRow, standIns := [], harness := (true, "122aec7e533ec1bbbaac3b90e11b4338a89c93a5f0ce7185d6d93993e47251e7"), looks := true }, kinds := [], alts := [], laidByText := true, laidKinds := [.data, .data, .data, .data, .sentinel, .sentinel, .pinned], laidTests := true, laidLooks := .later }
def CommitTagsUptoCardSaid : Prop := Claim7.holds Tryz.pinned (.plain (OpenSpec.upto commitTagsSpec)) commitTagsUptoCard

/-- THE SECOND FORM's CARD OF 'graftagelaw16.CommitPersons'. -/
def commitPersonsUptoCard : Claim7 := { stood := { row := commitPersonsUptoRow, standIns := [], harness := (true, "122aec7e533ec1bbbaac3b90e11b4338a89c93a5f0ce7185d6d93993e47251e7"), looks := true }, kinds := [], alts := [], laidByText := true, laidKinds := [.data, .data, .data, .data, .sentinel, .sentinel, .pinned], laidTests := true, laidLooks := .later }
def CommitPersonsUptoCardSaid : Prop := Claim7.holds Tryz.pinned (.plain (OpenSpec.upto commitPersonsSpec)) commitPersonsUptoCard

/-- THE SECOND FORM's CARD OF 'graftagelaw16.CommitLinks'. -/
def commitLinksUptoCard : Claim7 := { stood := { row := commitLinksUptoRow, standIns := [], harness := (true, "122aec7e533ec1bbbaac3b90e11b4338a89c93a5f0ce7185d6d93993e47251e7"), looks := true }, kinds := [], alts := [], laidByText := true, laidKinds := [.data, .data, .data, .data, .sentinel, .sentinel, .pinned], laidTests := true, laidLooks := .later }
def CommitLinksUptoCardSaid : Prop := Claim7.holds Tryz.pinned (.plain (OpenSpec.upto commitLinksSpec)) commitLinksUptoCard

/-- THE SECOND FORM's CARD OF 'graftagelaw16.CommitNames'. -/
def commitNamesUptoCard : Claim7 := { stood := { row := commitNamesUptoRow, standIns := [], harness := (true, "122aec7e533ec1bbbaac3b90e11b4338a89c93a5f0ce7185d6d93993e47251e7"), looks := true }, kinds := [], alts := [], laidByText := true, laidKinds := [.data, .data, .data, .data, .sentinel, .sentinel, .pinned], laidTests := true, laidLooks := .later }
def CommitNamesUptoCardSaid : Prop := Claim7.holds Tryz.pinned (.plain (OpenSpec.upto commitNamesSpec)) commitNamesUptoCard

/-- THE SECOND FORM's CARD OF 'graftagelaw38.ReflogRights'. -/
def reflogRightsUptoCard : Claim7 := { stood := { row := reflogRightsUptoRow, standIns := [], harness := (true, "122aec7e533ec1bbbaac3b90e11b4338a89c93a5f0ce7185d6d93993e47251e7"), looks := true }, kinds := [], alts := [], laidByText := true, laidKinds := [.data, .data, .data, .data, .sentinel, .sentinel, .pinned], laidTests := true, laidLooks := .later }
def ReflogRightsUptoCardSaid : Prop := Claim7.holds Tryz.pinned (.plain (OpenSpec.upto reflogRightsSpec)) reflogRightsUptoCard

/-- THE SECOND FORM's CARD OF 'graftagelaw38.ReflogReads'. -/
def reflogReadsUptoCard : Claim7 := { stood := { row := reflogReadsUptoRow, standIns := [], harness := (true, "122aec7e533ec1bbbaac3b90e11b4338a89c93a5f0ce7185d6d93993e47251e7"), looks := true }, kinds := [], alts := [], laidByText := true, laidKinds := [.data, .data, .data, .data, .sentinel, .sentinel, .pinned], laidTests := true, laidLooks := .later }
def ReflogReadsUptoCardSaid : Prop := Claim7.holds Tryz.pinned (.plain (OpenSpec.upto reflogReadsSpec)) reflogReadsUptoCard

/-- THE SECOND FORM's CARD OF 'graftagelaw38.ReflogTells'. -/
def reflogTellsUptoCard : Claim7 := { stood := { row := reflogTellsUptoRow, standIns := [], harness := (true, "122aec7e533ec1bbbaac3b90e11b4338a89c93a5f0ce7185d6d93993e47251e7"), looks := true }, kinds := [], alts := [], laidByText := true, laidKinds := [.data, .data, .data, .data, .sentinel, .sentinel, .pinned], laidTests := true, laidLooks := .later }
def ReflogTellsUptoCardSaid : Prop := Claim7.holds Tryz.pinned (.plain (OpenSpec.upto reflogTellsSpec)) reflogTellsUptoCard

/-- THE SECOND FORM's CARD OF 'graftagelaw38.ReflogWanes'. -/
def reflogWanesUptoCard : Claim7 := { stood := { row := reflogWanesUptoRow, standIns := [], harness := (true, "122aec7e533ec1bbbaac3b90e11b4338a89c93a5f0ce7185d6d93993e47251e7"), looks := true }, kinds := [], alts := [], laidByText := true, laidKinds := [.data, .data, .data, .data, .sentinel, .sentinel, .pinned], laidTests := true, laidLooks := .later }
def ReflogWanesUptoCardSaid : Prop := Claim7.holds Tryz.pinned (.plain (OpenSpec.upto reflogWanesSpec)) reflogWanesUptoCard

/-- THE SECOND FORM's CARD OF 'graftagelaw38.ReflogAdds'. -/
def reflogAddsUptoCard : Claim7 := { stood := { row := reflogAddsUptoRow, standIns := [], harness := (true, "122aec7e533ec1bbbaac3b90e11b4338a89c93a5f0ce7185d6d93993e47251e7"), looks := true }, kinds := [], alts := [], laidByText := true, laidKinds := [.data, .data, .data, .data, .sentinel, .sentinel, .pinned], laidTests := true, laidLooks := .later }
def ReflogAddsUptoCardSaid : Prop := Claim7.holds Tryz.pinned (.plain (OpenSpec.upto reflogAddsSpec)) reflogAddsUptoCard

/-- THE SECOND FORM's CARD OF 'graftagelaw38.ReflogGrows'. -/
def reflogGrowsUptoCard : Claim7 := { stood := { row := reflogGrowsUptoRow, standIns := [], harness := (true, "122aec7e533ec1bbbaac3b90e11b4338a89c93a5f0ce7185d6d93993e47251e7"), looks := true }, kinds := [], alts := [], laidByText := true, laidKinds := [.data, .data, .data, .data, .sentinel, .sentinel, .pinned], laidTests := true, laidLooks := .later }
def ReflogGrowsUptoCardSaid : Prop := Claim7.holds Tryz.pinned (.plain (OpenSpec.upto reflogGrowsSpec)) reflogGrowsUptoCard
end Rows
end Go.Proofs.YtbhfbbfjdklfgaaGreatDoor
