/-
  NARROWER THAN 'FOR EVERY INPUT', by the rows' own cells (each row's printed sentence says how): PathJoins: laid · PathWithin: laid · PathMeets: laid · PathIs: laid · PathBack: laid · SparseTells: laid · SparseAbove: laid · SparseMarks: laid · SparseParses: laid · SparseJoins: laid · SparseMore: laid.
  DERIVED. THE GIVEN ROWS OF THIS SEAT. 11 by the template 'for every input the law returns true; each argument reads behind the call as it read before'; 0 by the template 'total and deterministic' (their statements: YtfkkbcmbabfipaaDoorTotals.lean).
  GIVEN WITH THE SEED: the statements are not yours to turn. If you find one false, say at which input.
  Laid BY PROGRAM, IN A SANDBOX (cutbox-rows.mjs): the forced cells as the released guide's own fill.sh prints them over the translation 7ecdd4277130946d… (all of the seat's roots in one cut). By AI agents, Wed Nov 11 2026. No macro, syntax, notation, axiom, sorry.
-/
import Derived.Test.YtfkkbcmbabfipaaDoorChecked
import GoSem.PinnedTables
import GoSem.Claim
import GoSem.ClaimJoined
import GoSem.ClaimMapViews
import Derived.JoinedTies
import Derived.KernelRfl
namespace Go.Proofs.YtfkkbcmbabfipaaDoor
/- THE CELL 'sum', in the pinned program and in every row, IS THE sha256 OF THE DUMP (.gsa) THAT YtfkkbcmbabfipaaDoorProg.lean LOADS. Nothing in Lean hashes anything: it is a label: what it is worth is what the hold of that sum in a sandbox is worth. -/
noncomputable def Tryd.pinned : Pinned := { name := "ytfkkbcmbabfipaadoor", sum := "7ecdd4277130946dfa01afd2e5b71284e0d0b51e642e46dd30c6bc853409ceac", checked := Tryd.checked }
namespace Rows
def none {H : Type} : Left H := { results := [], args := [] }

/- WHAT THE LISTED PACKAGE-LEVEL VARIABLES READ AS WHEN THE CALL BEGINS. Each datum BY PROGRAM (the guide's laid-datum.mjs) off the statement by which the dump's own 'gosem.cut.vars' lays the variable. In a bare row this is a premise. The card (YtfkkbcmbabfipaaDoorCards.lean) ties it to the program's text. -/
def laid_unicode_utf8_acceptRanges {H : Type} : DataW H := .agg [.agg [.lit (.int .u8 128), .lit (.int .u8 191)], .agg [.lit (.int .u8 160), .lit (.int .u8 191)], .agg [.lit (.int .u8 128), .lit (.int .u8 159)], .agg [.lit (.int .u8 144), .lit (.int .u8 191)], .agg [.lit (.int .u8 128), .lit (.int .u8 143)], .agg [.lit (.int .u8 0), .lit (.int .u8 0)], .agg [.lit (.int .u8 0), .lit (.int .u8 0)], .agg [.lit (.int .u8 0), .lit (.int .u8 0)], .agg [.lit (.int .u8 0), .lit (.int .u8 0)], .agg [.lit (.int .u8 0), .lit (.int .u8 0)], .agg [.lit (.int .u8 0), .lit (.int .u8 0)], .agg [.lit (.int .u8 0), .lit (.int .u8 0)], .agg [.lit (.int .u8 0), .lit (.int .u8 0)], .agg [.lit (.int .u8 0), .lit (.int .u8 0)], .agg [.lit (.int .u8 0), .lit (.int .u8 0)], .agg [.lit (.int .u8 0), .lit (.int .u8 0)]]
/-- One of Go's own tables, pinned by name: the form's constant. -/
def laid_unicode_utf8_first : DataW Unit := Go.Pinned.utf8First

/-- 'graftagelaw06.PathJoins': WHATEVER THE INPUT: true; the input reads as it did. -/
def pathJoinsSpec : ChangeSpec := { name := "pathJoins", fn := fun _ => fun
  | [d1, d2, d3] => { results := [.lit (.bool true)], args := [d1, d2, d3] }
  | _ => none }
def pathJoinsRow : OpenClaim := { program := "ytfkkbcmbabfipaadoor", sum := "7ecdd4277130946dfa01afd2e5b71284e0d0b51e642e46dd30c6bc853409ceac", func := "graftage/graftagelaw06.PathJoins", spec := "pathJoins", inPlace := ["internal/bytealg.CountString", "internal/bytealg.IndexByteString", "internal/bytealg.IndexString", "internal/abi.NoEscape", "internal/bytealg.MakeNoZero"], named := ["unicode/utf8.first", "unicode/utf8.acceptRanges", "internal/bytealg.MaxLen"], apart := false, laid := [("unicode/utf8.acceptRanges", laid_unicode_utf8_acceptRanges), ("unicode/utf8.first", laid_unicode_utf8_first)] }
def PathJoinsSaid : Prop := pathJoinsRow.holds Tryd.pinned (OpenSpec.ofChange pathJoinsSpec)

/-- ITS FALSE NEIGHBOUR: 'it returns false'. Refute it at one input. -/
def pathJoinsWrong : ChangeSpec := { name := "pathJoins", fn := fun _ => fun
  | [d1, d2, d3] => { results := [.lit (.bool false)], args := [d1, d2, d3] }
  | _ => none }
def PathJoinsWrongFalsely : Prop := pathJoinsRow.holds Tryd.pinned (OpenSpec.ofChange pathJoinsWrong)

/-- 'graftagelaw06.PathWithin': WHATEVER THE INPUT: true; the input reads as it did. -/
def pathWithinSpec : ChangeSpec := { name := "pathWithin", fn := fun _ => fun
  | [d1, d2] => { results := [.lit (.bool true)], args := [d1, d2] }
  | _ => none }
def pathWithinRow : OpenClaim := { program := "ytfkkbcmbabfipaadoor", sum := "7ecdd4277130946dfa01afd2e5b71284e0d0b51e642e46dd30c6bc853409ceac", func := "graftage/graftagelaw06.PathWithin", spec := "pathWithin", inPlace := ["internal/bytealg.CountString", "internal/bytealg.IndexByteString", "internal/bytealg.IndexString", "internal/abi.NoEscape", "internal/bytealg.MakeNoZero"], named := ["unicode/utf8.first", "unicode/utf8.acceptRanges", "internal/bytealg.MaxLen"], apart := false, laid := [("unicode/utf8.acceptRanges", laid_unicode_utf8_acceptRanges), ("unicode/utf8.first", laid_unicode_utf8_first)] }
def PathWithinSaid : Prop := pathWithinRow.holds Tryd.pinned (OpenSpec.ofChange pathWithinSpec)

/-- ITS FALSE NEIGHBOUR: 'it returns false'. Refute it at one input. -/
def pathWithinWrong : ChangeSpec := { name := "pathWithin", fn := fun _ => fun
  | [d1, d2] => { results := [.lit (.bool false)], args := [d1, d2] }
  | _ => none }
def PathWithinWrongFalsely : Prop := pathWithinRow.holds Tryd.pinned (OpenSpec.ofChange pathWithinWrong)

/-- 'graftagelaw06.PathMeets': WHATEVER THE INPUT: true; the input reads as it did. -/
def pathMeetsSpec : ChangeSpec := { name := "pathMeets", fn := fun _ => fun
  | [d] => { results := [.lit (.bool true)], args := [d] }
  | _ => none }
def pathMeetsRow : OpenClaim := { program := "ytfkkbcmbabfipaadoor", sum := "7ecdd4277130946dfa01afd2e5b71284e0d0b51e642e46dd30c6bc853409ceac", func := "graftage/graftagelaw06.PathMeets", spec := "pathMeets", inPlace := ["internal/bytealg.CountString", "internal/bytealg.IndexByteString", "internal/bytealg.IndexString", "internal/abi.NoEscape", "internal/bytealg.MakeNoZero"], named := ["unicode/utf8.first", "unicode/utf8.acceptRanges", "internal/bytealg.MaxLen"], apart := false, laid := [("unicode/utf8.acceptRanges", laid_unicode_utf8_acceptRanges), ("unicode/utf8.first", laid_unicode_utf8_first)] }
def PathMeetsSaid : Prop := pathMeetsRow.holds Tryd.pinned (OpenSpec.ofChange pathMeetsSpec)

/-- ITS FALSE NEIGHBOUR: 'it returns false'. Refute it at one input. -/
def pathMeetsWrong : ChangeSpec := { name := "pathMeets", fn := fun _ => fun
  | [d] => { results := [.lit (.bool false)], args := [d] }
  | _ => none }
def PathMeetsWrongFalsely : Prop := pathMeetsRow.holds Tryd.pinned (OpenSpec.ofChange pathMeetsWrong)

/-- 'graftagelaw06.PathIs': WHATEVER THE INPUT: true; the input reads as it did. -/
def pathIsSpec : ChangeSpec := { name := "pathIs", fn := fun _ => fun
  | [d] => { results := [.lit (.bool true)], args := [d] }
  | _ => none }
def pathIsRow : OpenClaim := { program := "ytfkkbcmbabfipaadoor", sum := "7ecdd4277130946dfa01afd2e5b71284e0d0b51e642e46dd30c6bc853409ceac", func := "graftage/graftagelaw06.PathIs", spec := "pathIs", inPlace := ["internal/bytealg.CountString", "internal/bytealg.IndexByteString", "internal/bytealg.IndexString", "internal/abi.NoEscape", "internal/bytealg.MakeNoZero"], named := ["unicode/utf8.first", "unicode/utf8.acceptRanges", "internal/bytealg.MaxLen"], apart := false, laid := [("unicode/utf8.acceptRanges", laid_unicode_utf8_acceptRanges), ("unicode/utf8.first", laid_unicode_utf8_first)] }
def PathIsSaid : Prop := pathIsRow.holds Tryd.pinned (OpenSpec.ofChange pathIsSpec)

/-- ITS FALSE NEIGHBOUR: 'it returns false'. Refute it at one input. -/
def pathIsWrong : ChangeSpec := { name := "pathIs", fn := fun _ => fun
  | [d] => { results := [.lit (.bool false)], args := [d] }
  | _ => none }
def PathIsWrongFalsely : Prop := pathIsRow.holds Tryd.pinned (OpenSpec.ofChange pathIsWrong)

/-- 'graftagelaw06.PathBack': WHATEVER THE INPUT: true; the input reads as it did. -/
def pathBackSpec : ChangeSpec := { name := "pathBack", fn := fun _ => fun
  | [d1, d2] => { results := [.lit (.bool true)], args := [d1, d2] }
  | _ => none }
def pathBackRow : OpenClaim := { program := "ytfkkbcmbabfipaadoor", sum := "7ecdd4277130946dfa01afd2e5b71284e0d0b51e642e46dd30c6bc853409ceac", func := "graftage/graftagelaw06.PathBack", spec := "pathBack", inPlace := ["internal/bytealg.CountString", "internal/bytealg.IndexByteString", "internal/bytealg.IndexString", "internal/abi.NoEscape", "internal/bytealg.MakeNoZero"], named := ["unicode/utf8.first", "unicode/utf8.acceptRanges", "internal/bytealg.MaxLen"], apart := false, laid := [("unicode/utf8.acceptRanges", laid_unicode_utf8_acceptRanges), ("unicode/utf8.first", laid_unicode_utf8_first)] }
def PathBackSaid : Prop := pathBackRow.holds Tryd.pinned (OpenSpec.ofChange pathBackSpec)

/-- ITS FALSE NEIGHBOUR: 'it returns false'. Refute it at one input. -/
def pathBackWrong : ChangeSpec := { name := "pathBack", fn := fun _ => fun
  | [d1, d2] => { results := [.lit (.bool false)], args := [d1, d2] }
  | _ => none }
def PathBackWrongFalsely : Prop := pathBackRow.holds Tryd.pinned (OpenSpec.ofChange pathBackWrong)

/-- 'graftagelaw33.SparseTells': WHATEVER THE INPUT: true; the input reads as it did. -/
def sparseTellsSpec : ChangeSpec := { name := "sparseTells", fn := fun _ => fun
  | [d1, d2] => { results := [.lit (.bool true)], args := [d1, d2] }
  | _ => none }
def sparseTellsRow : OpenClaim := { program := "ytfkkbcmbabfipaadoor", sum := "7ecdd4277130946dfa01afd2e5b71284e0d0b51e642e46dd30c6bc853409ceac", func := "graftage/graftagelaw33.SparseTells", spec := "sparseTells", inPlace := ["internal/bytealg.CountString", "internal/bytealg.IndexByteString", "internal/bytealg.IndexString", "internal/abi.NoEscape"], unfollowed := true, recurses := true, named := ["unicode/utf8.first", "unicode/utf8.acceptRanges", "internal/bytealg.MaxLen"], apart := false, laid := [("unicode/utf8.acceptRanges", laid_unicode_utf8_acceptRanges), ("unicode/utf8.first", laid_unicode_utf8_first)] }
def SparseTellsSaid : Prop := sparseTellsRow.holds Tryd.pinned (OpenSpec.ofChange sparseTellsSpec)

/-- ITS FALSE NEIGHBOUR: 'it returns false'. Refute it at one input. -/
def sparseTellsWrong : ChangeSpec := { name := "sparseTells", fn := fun _ => fun
  | [d1, d2] => { results := [.lit (.bool false)], args := [d1, d2] }
  | _ => none }
def SparseTellsWrongFalsely : Prop := sparseTellsRow.holds Tryd.pinned (OpenSpec.ofChange sparseTellsWrong)

/-- 'graftagelaw33.SparseAbove': WHATEVER THE INPUT: true; the input reads as it did. -/
def sparseAboveSpec : ChangeSpec := { name := "sparseAbove", fn := fun _ => fun
  | [d1, d2, d3] => { results := [.lit (.bool true)], args := [d1, d2, d3] }
  | _ => none }
def sparseAboveRow : OpenClaim := { program := "ytfkkbcmbabfipaadoor", sum := "7ecdd4277130946dfa01afd2e5b71284e0d0b51e642e46dd30c6bc853409ceac", func := "graftage/graftagelaw33.SparseAbove", spec := "sparseAbove", inPlace := ["internal/bytealg.CountString", "internal/bytealg.IndexByteString", "internal/bytealg.IndexString", "internal/abi.NoEscape"], unfollowed := true, recurses := true, named := ["unicode/utf8.first", "unicode/utf8.acceptRanges", "internal/bytealg.MaxLen"], apart := false, laid := [("unicode/utf8.acceptRanges", laid_unicode_utf8_acceptRanges), ("unicode/utf8.first", laid_unicode_utf8_first)] }
def SparseAboveSaid : Prop := sparseAboveRow.holds Tryd.pinned (OpenSpec.ofChange sparseAboveSpec)

/-- ITS FALSE NEIGHBOUR: 'it returns false'. Refute it at one input. -/
def sparseAboveWrong : ChangeSpec := { name := "sparseAbove", fn := fun _ => fun
  | [d1, d2, d3] => { results := [.lit (.bool false)], args := [d1, d2, d3] }
  | _ => none }
def SparseAboveWrongFalsely : Prop := sparseAboveRow.holds Tryd.pinned (OpenSpec.ofChange sparseAboveWrong)

/-- 'graftagelaw33.SparseMarks': WHATEVER THE INPUT: true; the input reads as it did. -/
def sparseMarksSpec : ChangeSpec := { name := "sparseMarks", fn := fun _ => fun
  | [d1, d2] => { results := [.lit (.bool true)], args := [d1, d2] }
  | _ => none }
def sparseMarksRow : OpenClaim := { program := "ytfkkbcmbabfipaadoor", sum := "7ecdd4277130946dfa01afd2e5b71284e0d0b51e642e46dd30c6bc853409ceac", func := "graftage/graftagelaw33.SparseMarks", spec := "sparseMarks", inPlace := ["internal/bytealg.CountString", "internal/bytealg.IndexByteString", "internal/bytealg.IndexString", "internal/abi.NoEscape"], unfollowed := true, recurses := true, named := ["unicode/utf8.first", "unicode/utf8.acceptRanges", "internal/bytealg.MaxLen"], apart := false, laid := [("unicode/utf8.acceptRanges", laid_unicode_utf8_acceptRanges), ("unicode/utf8.first", laid_unicode_utf8_first)] }
def SparseMarksSaid : Prop := sparseMarksRow.holds Tryd.pinned (OpenSpec.ofChange sparseMarksSpec)

/-- ITS FALSE NEIGHBOUR: 'it returns false'. Refute it at one input. -/
def sparseMarksWrong : ChangeSpec := { name := "sparseMarks", fn := fun _ => fun
  | [d1, d2] => { results := [.lit (.bool false)], args := [d1, d2] }
  | _ => none }
def SparseMarksWrongFalsely : Prop := sparseMarksRow.holds Tryd.pinned (OpenSpec.ofChange sparseMarksWrong)

/-- 'graftagelaw33.SparseParses': WHATEVER THE INPUT: true; the input reads as it did. -/
def sparseParsesSpec : ChangeSpec := { name := "sparseParses", fn := fun _ => fun
  | [d] => { results := [.lit (.bool true)], args := [d] }
  | _ => none }
def sparseParsesRow : OpenClaim := { program := "ytfkkbcmbabfipaadoor", sum := "7ecdd4277130946dfa01afd2e5b71284e0d0b51e642e46dd30c6bc853409ceac", func := "graftage/graftagelaw33.SparseParses", spec := "sparseParses", inPlace := ["internal/bytealg.CountString", "internal/bytealg.IndexByteString", "internal/bytealg.IndexString", "internal/abi.NoEscape"], unfollowed := true, recurses := true, named := ["unicode/utf8.first", "unicode/utf8.acceptRanges", "internal/bytealg.MaxLen"], apart := false, laid := [("unicode/utf8.acceptRanges", laid_unicode_utf8_acceptRanges), ("unicode/utf8.first", laid_unicode_utf8_first)] }
def SparseParsesSaid : Prop := sparseParsesRow.holds Tryd.pinned (OpenSpec.ofChange sparseParsesSpec)

/-- ITS FALSE NEIGHBOUR: 'it returns false'. Refute it at one input. -/
def sparseParsesWrong : ChangeSpec := { name := "sparseParses", fn := fun _ => fun
  | [d] => { results := [.lit (.bool false)], args := [d] }
  | _ => none }
def SparseParsesWrongFalsely : Prop := sparseParsesRow.holds Tryd.pinned (OpenSpec.ofChange sparseParsesWrong)

/-- 'graftagelaw33.SparseJoins': WHATEVER THE INPUT: true; the input reads as it did. -/
def sparseJoinsSpec : ChangeSpec := { name := "sparseJoins", fn := fun _ => fun
  | [d1, d2] => { results := [.lit (.bool true)], args := [d1, d2] }
  | _ => none }
def sparseJoinsRow : OpenClaim := { program := "ytfkkbcmbabfipaadoor", sum := "7ecdd4277130946dfa01afd2e5b71284e0d0b51e642e46dd30c6bc853409ceac", func := "graftage/graftagelaw33.SparseJoins", spec := "sparseJoins", inPlace := ["internal/bytealg.CountString", "internal/bytealg.IndexByteString", "internal/bytealg.IndexString", "internal/abi.NoEscape", "slices.overlaps[string]"], unfollowed := true, recurses := true, named := ["unicode/utf8.first", "unicode/utf8.acceptRanges", "internal/bytealg.MaxLen"], apart := false, laid := [("unicode/utf8.acceptRanges", laid_unicode_utf8_acceptRanges), ("unicode/utf8.first", laid_unicode_utf8_first)] }
def SparseJoinsSaid : Prop := sparseJoinsRow.holds Tryd.pinned (OpenSpec.ofChange sparseJoinsSpec)

/-- ITS FALSE NEIGHBOUR: 'it returns false'. Refute it at one input. -/
def sparseJoinsWrong : ChangeSpec := { name := "sparseJoins", fn := fun _ => fun
  | [d1, d2] => { results := [.lit (.bool false)], args := [d1, d2] }
  | _ => none }
def SparseJoinsWrongFalsely : Prop := sparseJoinsRow.holds Tryd.pinned (OpenSpec.ofChange sparseJoinsWrong)

/-- 'graftagelaw33.SparseMore': WHATEVER THE INPUT: true; the input reads as it did. -/
def sparseMoreSpec : ChangeSpec := { name := "sparseMore", fn := fun _ => fun
  | [d1, d2, d3] => { results := [.lit (.bool true)], args := [d1, d2, d3] }
  | _ => none }
def sparseMoreRow : OpenClaim := { program := "ytfkkbcmbabfipaadoor", sum := "7ecdd4277130946dfa01afd2e5b71284e0d0b51e642e46dd30c6bc853409ceac", func := "graftage/graftagelaw33.SparseMore", spec := "sparseMore", inPlace := ["internal/bytealg.CountString", "internal/bytealg.IndexByteString", "internal/bytealg.IndexString", "internal/abi.NoEscape", "slices.overlaps[string]"], unfollowed := true, recurses := true, named := ["unicode/utf8.first", "unicode/utf8.acceptRanges", "internal/bytealg.MaxLen"], apart := false, laid := [("unicode/utf8.acceptRanges", laid_unicode_utf8_acceptRanges), ("unicode/utf8.first", laid_unicode_utf8_first)] }
def SparseMoreSaid : Prop := sparseMoreRow.holds Tryd.pinned (OpenSpec.ofChange sparseMoreSpec)

/-- ITS FALSE NEIGHBOUR: 'it returns false'. Refute it at one input. -/
def sparseMoreWrong : ChangeSpec := { name := "sparseMore", fn := fun _ => fun
  | [d1, d2, d3] => { results := [.lit (.bool false)], args := [d1, d2, d3] }
  | _ => none }
def SparseMoreWrongFalsely : Prop := sparseMoreRow.holds Tryd.pinned (OpenSpec.ofChange sparseMoreWrong)

/- THE SECOND FORM. 'bulk': how many values and letters a reading holds, each counted each time it is reached (what is shared counts as often as it is met; a slice's spare places count too). A statement '..UptoSaid' is the law's where the arguments, and the package variables that the reading takes, are together of bulk at most 1048576: NARROWER than '..Said'. Prove '..Said' where nothing that the law and all that it calls make is longer than what came in: it says more and counts as full. Else prove '..UptoSaid'. A law counts once. -/
mutual
def uptoBulk {H : Type} : DataW H → Nat
  | .lit (.string bytes) => bytes.length + 1
  | .lit _ => 1
  | .nil => 1
  | .ptr d => uptoBulk d + 1
  | .slice elems spare => uptoBulkAll elems + uptoBulkAll spare + 1
  | .agg parts => uptoBulkAll parts + 1
  | .iface _ d => uptoBulk d + 1
  | .map entries => uptoBulkEntries entries + 1
  | .held _ => 1
def uptoBulkAll {H : Type} : List (DataW H) → Nat
  | [] => 0
  | d :: r => uptoBulk d + uptoBulkAll r
def uptoBulkEntries {H : Type} : List (Lit × DataW H) → Nat
  | [] => 0
  | x :: r => uptoBulkEntry x + uptoBulkEntries r
def uptoBulkEntry {H : Type} : Lit × DataW H → Nat
  | (.string bytes, d) => bytes.length + uptoBulk d + 1
  | (_, d) => uptoBulk d + 1
 end
def uptoSmall : (H : Type) → List (DataW H) → Bool := fun _ ds => decide (uptoBulkAll ds ≤ 1048576)
def OpenSpec.upto (s : _root_.Go.ChangeSpec) : _root_.Go.OpenSpec := { _root_.Go.OpenSpec.ofChange s with cond := some uptoSmall }

/-- 'graftagelaw06.PathJoins', WHERE WHAT IT READS IS OF BULK AT MOST 1048576: true; the input reads as it did. -/
def pathJoinsUptoRow : OpenClaim := { program := "ytfkkbcmbabfipaadoor", sum := "7ecdd4277130946dfa01afd2e5b71284e0d0b51e642e46dd30c6bc853409ceac", func := "graftage/graftagelaw06.PathJoins", spec := "pathJoins", inPlace := ["internal/bytealg.CountString", "internal/bytealg.IndexByteString", "internal/bytealg.IndexString", "internal/abi.NoEscape", "internal/bytealg.MakeNoZero"], named := ["unicode/utf8.first", "unicode/utf8.acceptRanges", "internal/bytealg.MaxLen"], apart := false, laid := [("unicode/utf8.acceptRanges", laid_unicode_utf8_acceptRanges), ("unicode/utf8.first", laid_unicode_utf8_first)], narrowed := true }
def PathJoinsUptoSaid : Prop := pathJoinsUptoRow.holds Tryd.pinned (OpenSpec.upto pathJoinsSpec)

/-- 'graftagelaw06.PathWithin', WHERE WHAT IT READS IS OF BULK AT MOST 1048576: true; the input reads as it did. -/
def pathWithinUptoRow : OpenClaim := { program := "ytfkkbcmbabfipaadoor", sum := "7ecdd4277130946dfa01afd2e5b71284e0d0b51e642e46dd30c6bc853409ceac", func := "graftage/graftagelaw06.PathWithin", spec := "pathWithin", inPlace := ["internal/bytealg.CountString", "internal/bytealg.IndexByteString", "internal/bytealg.IndexString", "internal/abi.NoEscape", "internal/bytealg.MakeNoZero"], named := ["unicode/utf8.first", "unicode/utf8.acceptRanges", "internal/bytealg.MaxLen"], apart := false, laid := [("unicode/utf8.acceptRanges", laid_unicode_utf8_acceptRanges), ("unicode/utf8.first", laid_unicode_utf8_first)], narrowed := true }
def PathWithinUptoSaid : Prop := pathWithinUptoRow.holds Tryd.pinned (OpenSpec.upto pathWithinSpec)

/-- 'graftagelaw06.PathMeets', WHERE WHAT IT READS IS OF BULK AT MOST 1048576: true; the input reads as it did. -/
def pathMeetsUptoRow : OpenClaim := { program := "ytfkkbcmbabfipaadoor", sum := "7ecdd4277130946dfa01afd2e5b71284e0d0b51e642e46dd30c6bc853409ceac", func := "graftage/graftagelaw06.PathMeets", spec := "pathMeets", inPlace := ["internal/bytealg.CountString", "internal/bytealg.IndexByteString", "internal/bytealg.IndexString", "internal/abi.NoEscape", "internal/bytealg.MakeNoZero"], named := ["unicode/utf8.first", "unicode/utf8.acceptRanges", "internal/bytealg.MaxLen"], apart := false, laid := [("unicode/utf8.acceptRanges", laid_unicode_utf8_acceptRanges), ("unicode/utf8.first", laid_unicode_utf8_first)], narrowed := true }
def PathMeetsUptoSaid : Prop := pathMeetsUptoRow.holds Tryd.pinned (OpenSpec.upto pathMeetsSpec)

/-- 'graftagelaw06.PathIs', WHERE WHAT IT READS IS OF BULK AT MOST 1048576: true; the input reads as it did. -/
def pathIsUptoRow : OpenClaim := { program := "ytfkkbcmbabfipaadoor", sum := "7ecdd4277130946dfa01afd2e5b71284e0d0b51e642e46dd30c6bc853409ceac", func := "graftage/graftagelaw06.PathIs", spec := "pathIs", inPlace := ["internal/bytealg.CountString", "internal/bytealg.IndexByteString", "internal/bytealg.IndexString", "internal/abi.NoEscape", "internal/bytealg.MakeNoZero"], named := ["unicode/utf8.first", "unicode/utf8.acceptRanges", "internal/bytealg.MaxLen"], apart := false, laid := [("unicode/utf8.acceptRanges", laid_unicode_utf8_acceptRanges), ("unicode/utf8.first", laid_unicode_utf8_first)], narrowed := true }
def PathIsUptoSaid : Prop := pathIsUptoRow.holds Tryd.pinned (OpenSpec.upto pathIsSpec)

/-- 'graftagelaw06.PathBack', WHERE WHAT IT READS IS OF BULK AT MOST 1048576: true; the input reads as it did. -/
def pathBackUptoRow : OpenClaim := { program := "ytfkkbcmbabfipaadoor", sum := "7ecdd4277130946dfa01afd2e5b71284e0d0b51e642e46dd30c6bc853409ceac", func := "graftage/graftagelaw06.PathBack", spec := "pathBack", inPlace := ["internal/bytealg.CountString", "internal/bytealg.IndexByteString", "internal/bytealg.IndexString", "internal/abi.NoEscape", "internal/bytealg.MakeNoZero"], named := ["unicode/utf8.first", "unicode/utf8.acceptRanges", "internal/bytealg.MaxLen"], apart := false, laid := [("unicode/utf8.acceptRanges", laid_unicode_utf8_acceptRanges), ("unicode/utf8.first", laid_unicode_utf8_first)], narrowed := true }
def PathBackUptoSaid : Prop := pathBackUptoRow.holds Tryd.pinned (OpenSpec.upto pathBackSpec)

/-- 'graftagelaw33.SparseTells', WHERE WHAT IT READS IS OF BULK AT MOST 1048576: true; the input reads as it did. -/
def sparseTellsUptoRow : OpenClaim := { program := "ytfkkbcmbabfipaadoor", sum := "7ecdd4277130946dfa01afd2e5b71284e0d0b51e642e46dd30c6bc853409ceac", func := "graftage/graftagelaw33.SparseTells", spec := "sparseTells", inPlace := ["internal/bytealg.CountString", "internal/bytealg.IndexByteString", "internal/bytealg.IndexString", "internal/abi.NoEscape"], unfollowed := true, recurses := true, named := ["unicode/utf8.first", "unicode/utf8.acceptRanges", "internal/bytealg.MaxLen"], apart := false, laid := [("unicode/utf8.acceptRanges", laid_unicode_utf8_acceptRanges), ("unicode/utf8.first", laid_unicode_utf8_first)], narrowed := true }
def SparseTellsUptoSaid : Prop := sparseTellsUptoRow.holds Tryd.pinned (OpenSpec.upto sparseTellsSpec)

/-- 'graftagelaw33.SparseAbove', WHERE WHAT IT READS IS OF BULK AT MOST 1048576: true; the input reads as it did. -/
def sparseAboveUptoRow : OpenClaim := { program := "ytfkkbcmbabfipaadoor", sum := "7ecdd4277130946dfa01afd2e5b71284e0d0b51e642e46dd30c6bc853409ceac", func := "graftage/graftagelaw33.SparseAbove", spec := "sparseAbove", inPlace := ["internal/bytealg.CountString", "internal/bytealg.IndexByteString", "internal/bytealg.IndexString", "internal/abi.NoEscape"], unfollowed := true, recurses := true, named := ["unicode/utf8.first", "unicode/utf8.acceptRanges", "internal/bytealg.MaxLen"], apart := false, laid := [("unicode/utf8.acceptRanges", laid_unicode_utf8_acceptRanges), ("unicode/utf8.first", laid_unicode_utf8_first)], narrowed := true }
def SparseAboveUptoSaid : Prop := sparseAboveUptoRow.holds Tryd.pinned (OpenSpec.upto sparseAboveSpec)

/-- 'graftagelaw33.SparseMarks', WHERE WHAT IT READS IS OF BULK AT MOST 1048576: true; the input reads as it did. -/
def sparseMarksUptoRow : OpenClaim := { program := "ytfkkbcmbabfipaadoor", sum := "7ecdd4277130946dfa01afd2e5b71284e0d0b51e642e46dd30c6bc853409ceac", func := "graftage/graftagelaw33.SparseMarks", spec := "sparseMarks", inPlace := ["internal/bytealg.CountString", "internal/bytealg.IndexByteString", "internal/bytealg.IndexString", "internal/abi.NoEscape"], unfollowed := true, recurses := true, named := ["unicode/utf8.first", "unicode/utf8.acceptRanges", "internal/bytealg.MaxLen"], apart := false, laid := [("unicode/utf8.acceptRanges", laid_unicode_utf8_acceptRanges), ("unicode/utf8.first", laid_unicode_utf8_first)], narrowed := true }
def SparseMarksUptoSaid : Prop := sparseMarksUptoRow.holds Tryd.pinned (OpenSpec.upto sparseMarksSpec)

/-- 'graftagelaw33.SparseParses', WHERE WHAT IT READS IS OF BULK AT MOST 1048576: true; the input reads as it did. -/
def sparseParsesUptoRow : OpenClaim := { program := "ytfkkbcmbabfipaadoor", sum := "7ecdd4277130946dfa01afd2e5b71284e0d0b51e642e46dd30c6bc853409ceac", func := "graftage/graftagelaw33.SparseParses", spec := "sparseParses", inPlace := ["internal/bytealg.CountString", "internal/bytealg.IndexByteString", "internal/bytealg.IndexString", "internal/abi.NoEscape"], unfollowed := true, recurses := true, named := ["unicode/utf8.first", "unicode/utf8.acceptRanges", "internal/bytealg.MaxLen"], apart := false, laid := [("unicode/utf8.acceptRanges", laid_unicode_utf8_acceptRanges), ("unicode/utf8.first", laid_unicode_utf8_first)], narrowed := true }
def SparseParsesUptoSaid : Prop := sparseParsesUptoRow.holds Tryd.pinned (OpenSpec.upto sparseParsesSpec)

/-- 'graftagelaw33.SparseJoins', WHERE WHAT IT READS IS OF BULK AT MOST 1048576: true; the input reads as it did. -/
def sparseJoinsUptoRow : OpenClaim := { program := "ytfkkbcmbabfipaadoor", sum := "7ecdd4277130946dfa01afd2e5b71284e0d0b51e642e46dd30c6bc853409ceac", func := "graftage/graftagelaw33.SparseJoins", spec := "sparseJoins", inPlace := ["internal/bytealg.CountString", "internal/bytealg.IndexByteString", "internal/bytealg.IndexString", "internal/abi.NoEscape", "slices.overlaps[string]"], unfollowed := true, recurses := true, named := ["unicode/utf8.first", "unicode/utf8.acceptRanges", "internal/bytealg.MaxLen"], apart := false, laid := [("unicode/utf8.acceptRanges", laid_unicode_utf8_acceptRanges), ("unicode/utf8.first", laid_unicode_utf8_first)], narrowed := true }
def SparseJoinsUptoSaid : Prop := sparseJoinsUptoRow.holds Tryd.pinned (OpenSpec.upto sparseJoinsSpec)

/-- 'graftagelaw33.SparseMore', WHERE WHAT IT READS IS OF BULK AT MOST 1048576: true; the input reads as it did. -/
def sparseMoreUptoRow : OpenClaim := { program := "ytfkkbcmbabfipaadoor", sum := "7ecdd4277130946dfa01afd2e5b71284e0d0b51e642e46dd30c6bc853409ceac", func := "graftage/graftagelaw33.SparseMore", spec := "sparseMore", inPlace := ["internal/bytealg.CountString", "internal/bytealg.IndexByteString", "internal/bytealg.IndexString", "internal/abi.NoEscape", "slices.overlaps[string]"], unfollowed := true, recurses := true, named := ["unicode/utf8.first", "unicode/utf8.acceptRanges", "internal/bytealg.MaxLen"], apart := false, laid := [("unicode/utf8.acceptRanges", laid_unicode_utf8_acceptRanges), ("unicode/utf8.first", laid_unicode_utf8_first)], narrowed := true }
def SparseMoreUptoSaid : Prop := sparseMoreUptoRow.holds Tryd.pinned (OpenSpec.upto sparseMoreSpec)

end Rows
end Go.Proofs.YtfkkbcmbabfipaaDoor
