/-
  DERIVED. GIVEN WITH THE SEED: THE CARDS: each row of YtfkkbcmbabfipaaDoorRows.lean that lists a variable, with what it lists TIED to the program's text (the seventh form; the later family's looks); each row that meets fmt, with fmt's text TOLD by the authors' own Lean function (tested against real Go, not proved from fmt's source: count such statements apart). THE CARD IS WHAT COUNTS. Prove the row's statement (the work); the ties are given (YtfkkbcmbabfipaaDoorTie.lean); close each card by the builder's one call (the guide's Derived/Test/ToyasCard.lean, 'card_holds'). Laid BY PROGRAM, IN A SANDBOX (cutbox-door.mjs). By AI agents, Wed Nov 11 2026. No macro, syntax, notation, axiom, sorry.
-/
import Derived.Test.YtfkkbcmbabfipaaDoorRows
import GoSem.ClaimSeven
namespace Go.Proofs.YtfkkbcmbabfipaaDoor
namespace Rows

/-- THE TIED CARD OF 'graftagelaw06.PathJoins'. -/
def pathJoinsCard : Claim7 := { stood := { row := pathJoinsRow, standIns := [], harness := (true, "ee9f5152e3bf1d4477e5b03ff39066a230a9e22607e6aac393ddaf4034755f7a"), looks := false }, kinds := [], alts := [], laidByText := true, laidKinds := [.data, .pinned], laidTests := true, laidLooks := .later }
def PathJoinsCardSaid : Prop := Claim7.holds Tryd.pinned (.plain (OpenSpec.ofChange pathJoinsSpec)) pathJoinsCard

/-- THE TIED CARD OF 'graftagelaw06.PathWithin'. -/
def pathWithinCard : Claim7 := { stood := { row := pathWithinRow, standIns := [], harness := (true, "ee9f5152e3bf1d4477e5b03ff39066a230a9e22607e6aac393ddaf4034755f7a"), looks := false }, kinds := [], alts := [], laidByText := true, laidKinds := [.data, .pinned], laidTests := true, laidLooks := .later }
def PathWithinCardSaid : Prop := Claim7.holds Tryd.pinned (.plain (OpenSpec.ofChange pathWithinSpec)) pathWithinCard

/-- THE TIED CARD OF 'graftagelaw06.PathMeets'. -/
def pathMeetsCard : Claim7 := { stood := { row := pathMeetsRow, standIns := [], harness := (true, "ee9f5152e3bf1d4477e5b03ff39066a230a9e22607e6aac393ddaf4034755f7a"), looks := false }, kinds := [], alts := [], laidByText := true, laidKinds := [.data, .pinned], laidTests := true, laidLooks := .later }
def PathMeetsCardSaid : Prop := Claim7.holds Tryd.pinned (.plain (OpenSpec.ofChange pathMeetsSpec)) pathMeetsCard

/-- THE TIED CARD OF 'graftagelaw06.PathIs'. -/
def pathIsCard : Claim7 := { stood := { row := pathIsRow, standIns := [], harness := (true, "ee9f5152e3bf1d4477e5b03ff39066a230a9e22607e6aac393ddaf4034755f7a"), looks := false }, kinds := [], alts := [], laidByText := true, laidKinds := [.data, .pinned], laidTests := true, laidLooks := .later }
def PathIsCardSaid : Prop := Claim7.holds Tryd.pinned (.plain (OpenSpec.ofChange pathIsSpec)) pathIsCard

/-- THE TIED CARD OF 'graftagelaw06.PathBack'. -/
def pathBackCard : Claim7 := { stood := { row := pathBackRow, standIns := [], harness := (true, "ee9f5152e3bf1d4477e5b03ff39066a230a9e22607e6aac393ddaf4034755f7a"), looks := false }, kinds := [], alts := [], laidByText := true, laidKinds := [.data, .pinned], laidTests := true, laidLooks := .later }
def PathBackCardSaid : Prop := Claim7.holds Tryd.pinned (.plain (OpenSpec.ofChange pathBackSpec)) pathBackCard

/-- THE TIED CARD OF 'graftagelaw33.SparseTells'. -/
def sparseTellsCard : Claim7 := { stood := { row := sparseTellsRow, standIns := [], harness := (true, "ee9f5152e3bf1d4477e5b03ff39066a230a9e22607e6aac393ddaf4034755f7a"), looks := false }, kinds := [], alts := [], laidByText := true, laidKinds := [.data, .pinned], laidTests := true, laidLooks := .later }
def SparseTellsCardSaid : Prop := Claim7.holds Tryd.pinned (.plain (OpenSpec.ofChange sparseTellsSpec)) sparseTellsCard

/-- THE TIED CARD OF 'graftagelaw33.SparseAbove'. -/
def sparseAboveCard : Claim7 := { stood := { row := sparseAboveRow, standIns := [], harness := (true, "ee9f5152e3bf1d4477e5b03ff39066a230a9e22607e6aac393ddaf4034755f7a"), looks := false }, kinds := [], alts := [], laidByText := true, laidKinds := [.data, .pinned], laidTests := true, laidLooks := .later }
def SparseAboveCardSaid : Prop := Claim7.holds Tryd.pinned (.plain (OpenSpec.ofChange sparseAboveSpec)) sparseAboveCard

/-- THE TIED CARD OF 'graftagelaw33.SparseMarks'. -/
def sparseMarksCard : Claim7 := { stood := { row := sparseMarksRow, standIns := [], harness := (true, "ee9f5152e3bf1d4477e5b03ff39066a230a9e22607e6aac393ddaf4034755f7a"), looks := false }, kinds := [], alts := [], laidByText := true, laidKinds := [.data, .pinned], laidTests := true, laidLooks := .later }
def SparseMarksCardSaid : Prop := Claim7.holds Tryd.pinned (.plain (OpenSpec.ofChange sparseMarksSpec)) sparseMarksCard

/-- THE TIED CARD OF 'graftagelaw33.SparseParses'. -/
def sparseParsesCard : Claim7 := { stood := { row := sparseParsesRow, standIns := [], harness := (true, "ee9f5152e3bf1d4477e5b03ff39066a230a9e22607e6aac393ddaf4034755f7a"), looks := false }, kinds := [], alts := [], laidByText := true, laidKinds := [.data, .pinned], laidTests := true, laidLooks := .later }
def SparseParsesCardSaid : Prop := Claim7.holds Tryd.pinned (.plain (OpenSpec.ofChange sparseParsesSpec)) sparseParsesCard

/-- THE TIED CARD OF 'graftagelaw33.SparseJoins'. -/
def sparseJoinsCard : Claim7 := { stood := { row := sparseJoinsRow, standIns := [], harness := (true, "ee9f5152e3bf1d4477e5b03ff39066a230a9e22607e6aac393ddaf4034755f7a"), looks := false }, kinds := [], alts := [], laidByText := true, laidKinds := [.data, .pinned], laidTests := true, laidLooks := .later }
def SparseJoinsCardSaid : Prop := Claim7.holds Tryd.pinned (.plain (OpenSpec.ofChange sparseJoinsSpec)) sparseJoinsCard

/-- THE TIED CARD OF 'graftagelaw33.SparseMore'. -/
def sparseMoreCard : Claim7 := { stood := { row := sparseMoreRow, standIns := [], harness := (true, "ee9f5152e3bf1d4477e5b03ff39066a230a9e22607e6aac393ddaf4034755f7a"), looks := false }, kinds := [], alts := [], laidByText := true, laidKinds := [.data, .pinned], laidTests := true, laidLooks := .later }
def SparseMoreCardSaid : Prop := Claim7.holds Tryd.pinned (.plain (OpenSpec.ofChange sparseMoreSpec)) sparseMoreCard

/-- THE SECOND FORM's CARD OF 'graftagelaw06.PathJoins'. -/
def pathJoinsUptoCard : Claim7 := { stood := { row := pathJoinsUptoRow, standIns := [], harness := (true, "ee9f5152e3bf1d4477e5b03ff39066a230a9e22607e6aac393ddaf4034755f7a"), looks := false }, kinds := [], alts := [], laidByText := true, laidKinds := [.data, .pinned], laidTests := true, laidLooks := .later }
def PathJoinsUptoCardSaid : Prop := Claim7.holds Tryd.pinned (.plain (OpenSpec.upto pathJoinsSpec)) pathJoinsUptoCard

/-- THE SECOND FORM's CARD OF 'graftagelaw06.PathWithin'. -/
def pathWithinUptoCard : Claim7 := { stood := { row := pathWithinUptoRow, standIns := [], harness := (true, "ee9f5152e3bf1d4477e5b03ff39066a230a9e22607e6aac393ddaf4034755f7a"), looks := false }, kinds := [], alts := [], laidByText := true, laidKinds := [.data, .pinned], laidTests := true, laidLooks := .later }
def PathWithinUptoCardSaid : Prop := Claim7.holds Tryd.pinned (.plain (OpenSpec.upto pathWithinSpec)) pathWithinUptoCard

/-- THE SECOND FORM's CARD OF 'graftagelaw06.PathMeets'. -/
def pathMeetsUptoCard : Claim7 := { stood := { row := pathMeetsUptoRow, standIns := [], harness := (true, "ee9f5152e3bf1d4477e5b03ff39066a230a9e22607e6aac393ddaf4034755f7a"), looks := false }, kinds := [], alts := [], laidByText := true, laidKinds := [.data, .pinned], laidTests := true, laidLooks := .later }
def PathMeetsUptoCardSaid : Prop := Claim7.holds Tryd.pinned (.plain (OpenSpec.upto pathMeetsSpec)) pathMeetsUptoCard

/-- THE SECOND FORM's CARD OF 'graftagelaw06.PathIs'. -/
def pathIsUptoCard : Claim7 := { stood := { row := pathIsUptoRow, standIns := [], harness := (true, "ee9f5152e3bf1d4477e5b03ff39066a230a9e22607e6aac393ddaf4034755f7a"), looks := false }, kinds := [], alts := [], laidByText := true, laidKinds := [.data, .pinned], laidTests := true, laidLooks := .later }
def PathIsUptoCardSaid : Prop := Claim7.holds Tryd.pinned (.plain (OpenSpec.upto pathIsSpec)) pathIsUptoCard

/-- THE SECOND FORM's CARD OF 'graftagelaw06.PathBack'. -/
def pathBackUptoCard : Claim7 := { stood := { row := pathBackUptoRow, standIns := [], harness := (true, "ee9f5152e3bf1d4477e5b03ff39066a230a9e22607e6aac393ddaf4034755f7a"), looks := false }, kinds := [], alts := [], laidByText := true, laidKinds := [.data, .pinned], laidTests := true, laidLooks := .later }
def PathBackUptoCardSaid : Prop := Claim7.holds Tryd.pinned (.plain (OpenSpec.upto pathBackSpec)) pathBackUptoCard

/-- THE SECOND FORM's CARD OF 'graftagelaw33.SparseTells'. -/
def sparseTellsUptoCard : Claim7 := { stood := { row := sparseTellsUptoRow, standIns := [], harness := (true, "ee9f5152e3bf1d4477e5b03ff39066a230a9e22607e6aac393ddaf4034755f7a"), looks := false }, kinds := [], alts := [], laidByText := true, laidKinds := [.data, .pinned], laidTests := true, laidLooks := .later }
def SparseTellsUptoCardSaid : Prop := Claim7.holds Tryd.pinned (.plain (OpenSpec.upto sparseTellsSpec)) sparseTellsUptoCard

/-- THE SECOND FORM's CARD OF 'graftagelaw33.SparseAbove'. -/
def sparseAboveUptoCard : Claim7 := { stood := { row := sparseAboveUptoRow, standIns := [], harness := (true, "ee9f5152e3bf1d4477e5b03ff39066a230a9e22607e6aac393ddaf4034755f7a"), looks := false }, kinds := [], alts := [], laidByText := true, laidKinds := [.data, .pinned], laidTests := true, laidLooks := .later }
def SparseAboveUptoCardSaid : Prop := Claim7.holds Tryd.pinned (.plain (OpenSpec.upto sparseAboveSpec)) sparseAboveUptoCard

/-- THE SECOND FORM's CARD OF 'graftagelaw33.SparseMarks'. -/
def sparseMarksUptoCard : Claim7 := { stood := { row := sparseMarksUptoRow, standIns := [], harness := (true, "ee9f5152e3bf1d4477e5b03ff39066a230a9e22607e6aac393ddaf4034755f7a"), looks := false }, kinds := [], alts := [], laidByText := true, laidKinds := [.data, .pinned], laidTests := true, laidLooks := .later }
def SparseMarksUptoCardSaid : Prop := Claim7.holds Tryd.pinned (.plain (OpenSpec.upto sparseMarksSpec)) sparseMarksUptoCard

/-- THE SECOND FORM's CARD OF 'graftagelaw33.SparseParses'. -/
def sparseParsesUptoCard : Claim7 := { stood := { row := sparseParsesUptoRow, standIns := [], harness := (true, "ee9f5152e3bf1d4477e5b03ff39066a230a9e22607e6aac393ddaf4034755f7a"), looks := false }, kinds := [], alts := [], laidByText := true, laidKinds := [.data, .pinned], laidTests := true, laidLooks := .later }
def SparseParsesUptoCardSaid : Prop := Claim7.holds Tryd.pinned (.plain (OpenSpec.upto sparseParsesSpec)) sparseParsesUptoCard

/-- THE SECOND FORM's CARD OF 'graftagelaw33.SparseJoins'. -/
def sparseJoinsUptoCard : Claim7 := { stood := { row := sparseJoinsUptoRow, standIns := [], harness := (true, "ee9f5152e3bf1d4477e5b03ff39066a230a9e22607e6aac393ddaf4034755f7a"), looks := false }, kinds := [], alts := [], laidByText := true, laidKinds := [.data, .pinned], laidTests := true, laidLooks := .later }
def SparseJoinsUptoCardSaid : Prop := Claim7.holds Tryd.pinned (.plain (OpenSpec.upto sparseJoinsSpec)) sparseJoinsUptoCard

/-- THE SECOND FORM's CARD OF 'graftagelaw33.SparseMore'. -/
def sparseMoreUptoCard : Claim7 := { stood := { row := sparseMoreUptoRow, standIns := [], harness := (true, "ee9f5152e3bf1d4477e5b03ff39066a230a9e22607e6aac393ddaf4034755f7a"), looks := false }, kinds := [], alts := [], laidByText := true, laidKinds := [.data, .pinned], laidTests := true, laidLooks := .later }
def SparseMoreUptoCardSaid : Prop := Claim7.holds Tryd.pinned (.plain (OpenSpec.upto sparseMoreSpec)) sparseMoreUptoCard
end Rows
end Go.Proofs.YtfkkbcmbabfipaaDoor
