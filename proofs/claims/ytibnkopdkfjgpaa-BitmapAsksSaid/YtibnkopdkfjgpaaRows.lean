/-
  No cell of these rows narrows 'for every input' (looked for: loops, veiled, ifaces, maps, wideKeys, modest, calm, conditions, laid).
  DERIVED. THE GIVEN ROWS OF THIS SEAT. 4 by the template 'for every input the law returns true; each argument reads behind the call as it read before'; 0 by the template 'total and deterministic' (their statements: YtibnkopdkfjgpaaTotals.lean).
  GIVEN WITH THE SEED: the statements are not yours to turn. If you find one false, say at which input.
  Laid BY PROGRAM, IN A SANDBOX (cutbox-rows.mjs): the forced cells as the released guide's own fill.sh prints them over the translation 72c7dd0187a97803… (all of the seat's roots in one cut). By AI agents, Wed Nov 11 2026. No macro, syntax, notation, axiom, sorry.
-/
import Derived.Test.YtibnkopdkfjgpaaChecked
import GoSem.Claim
import GoSem.ClaimJoined
import GoSem.ClaimMapViews
import Derived.JoinedTies
import Derived.KernelRfl
namespace Go.Proofs.Ytibnkopdkfjgpaa
/- THE CELL 'sum', in the pinned program and in every row, IS THE sha256 OF THE DUMP (.gsa) THAT YtibnkopdkfjgpaaProg.lean LOADS. Nothing in Lean hashes anything: it is a label: what it is worth is what the hold of that sum in a sandbox is worth. -/
noncomputable def Try.pinned : Pinned := { name := "ytibnkopdkfjgpaa", sum := "72c7dd0187a97803ed4d82c22cdf6d4b3f460775248dedc0f5f34353003dc89f", checked := Try.checked }
namespace Rows
def none {H : Type} : Left H := { results := [], args := [] }

/-- 'graftagelaw27.BitmapOf': WHATEVER THE INPUT: true; the input reads as it did. -/
def bitmapOfSpec : ChangeSpec := { name := "bitmapOf", fn := fun _ => fun
  | [d1, d2] => { results := [.lit (.bool true)], args := [d1, d2] }
  | _ => none }
def bitmapOfRow : OpenClaim := { program := "ytibnkopdkfjgpaa", sum := "72c7dd0187a97803ed4d82c22cdf6d4b3f460775248dedc0f5f34353003dc89f", func := "graftage/graftagelaw27.BitmapOf", spec := "bitmapOf", unfollowed := true, recurses := true, apart := false }
def BitmapOfSaid : Prop := bitmapOfRow.holds Try.pinned (OpenSpec.ofChange bitmapOfSpec)

/-- ITS FALSE NEIGHBOUR: 'it returns false'. Refute it at one input. -/
def bitmapOfWrong : ChangeSpec := { name := "bitmapOf", fn := fun _ => fun
  | [d1, d2] => { results := [.lit (.bool false)], args := [d1, d2] }
  | _ => none }
def BitmapOfWrongFalsely : Prop := bitmapOfRow.holds Try.pinned (OpenSpec.ofChange bitmapOfWrong)

/-- 'graftagelaw27.BitmapSets': WHATEVER THE INPUT: true; the input reads as it did. -/
def bitmapSetsSpec : ChangeSpec := { name := "bitmapSets", fn := fun _ => fun
  | [d1, d2] => { results := [.lit (.bool true)], args := [d1, d2] }
  | _ => none }
def bitmapSetsRow : OpenClaim := { program := "ytibnkopdkfjgpaa", sum := "72c7dd0187a97803ed4d82c22cdf6d4b3f460775248dedc0f5f34353003dc89f", func := "graftage/graftagelaw27.BitmapSets", spec := "bitmapSets", unfollowed := true, recurses := true, apart := false }
def BitmapSetsSaid : Prop := bitmapSetsRow.holds Try.pinned (OpenSpec.ofChange bitmapSetsSpec)

/-- ITS FALSE NEIGHBOUR: 'it returns false'. Refute it at one input. -/
def bitmapSetsWrong : ChangeSpec := { name := "bitmapSets", fn := fun _ => fun
  | [d1, d2] => { results := [.lit (.bool false)], args := [d1, d2] }
  | _ => none }
def BitmapSetsWrongFalsely : Prop := bitmapSetsRow.holds Try.pinned (OpenSpec.ofChange bitmapSetsWrong)

/-- 'graftagelaw27.BitmapBack': WHATEVER THE INPUT: true; the input reads as it did. -/
def bitmapBackSpec : ChangeSpec := { name := "bitmapBack", fn := fun _ => fun
  | [d1, d2] => { results := [.lit (.bool true)], args := [d1, d2] }
  | _ => none }
def bitmapBackRow : OpenClaim := { program := "ytibnkopdkfjgpaa", sum := "72c7dd0187a97803ed4d82c22cdf6d4b3f460775248dedc0f5f34353003dc89f", func := "graftage/graftagelaw27.BitmapBack", spec := "bitmapBack", unfollowed := true, recurses := true, apart := false }
def BitmapBackSaid : Prop := bitmapBackRow.holds Try.pinned (OpenSpec.ofChange bitmapBackSpec)

/-- ITS FALSE NEIGHBOUR: 'it returns false'. Refute it at one input. -/
def bitmapBackWrong : ChangeSpec := { name := "bitmapBack", fn := fun _ => fun
  | [d1, d2] => { results := [.lit (.bool false)], args := [d1, d2] }
  | _ => none }
def BitmapBackWrongFalsely : Prop := bitmapBackRow.holds Try.pinned (OpenSpec.ofChange bitmapBackWrong)

/-- 'graftagelaw27.BitmapAsks': WHATEVER THE INPUT: true; the input reads as it did. -/
def bitmapAsksSpec : ChangeSpec := { name := "bitmapAsks", fn := fun _ => fun
  | [d1, d2, d3] => { results := [.lit (.bool true)], args := [d1, d2, d3] }
  | _ => none }
def bitmapAsksRow : OpenClaim := { program := "ytibnkopdkfjgpaa", sum := "72c7dd0187a97803ed4d82c22cdf6d4b3f460775248dedc0f5f34353003dc89f", func := "graftage/graftagelaw27.BitmapAsks", spec := "bitmapAsks", unfollowed := true, recurses := true, apart := false }
def BitmapAsksSaid : Prop := bitmapAsksRow.holds Try.pinned (OpenSpec.ofChange bitmapAsksSpec)

/-- ITS FALSE NEIGHBOUR: 'it returns false'. Refute it at one input. -/
def bitmapAsksWrong : ChangeSpec := { name := "bitmapAsks", fn := fun _ => fun
  | [d1, d2, d3] => { results := [.lit (.bool false)], args := [d1, d2, d3] }
  | _ => none }
def BitmapAsksWrongFalsely : Prop := bitmapAsksRow.holds Try.pinned (OpenSpec.ofChange bitmapAsksWrong)

/- THE SECOND FORM. 'bulk': how many values and letters a reading holds, each counted each time it is reached (what is shared counts as often as it is met; a slice's spare places count too). A statement '..UptoSaid' is the law's where the arguments, and the package variables that the reading takes, are together of bulk at most 1048576: NARROWER than '..Said'. Prove '..Said' where nothing that the law and all that it calls make is longer than what came in: it says more and counts as full. Else prove '..UptoSaid'. A law counts once. -/
mutual
def uptoBulk {H : Type} : DataW H → Nat
  | .lit (.string bytes) => bytes.length + 1
  | .lit _ => 1
  | .nil => 1
  | .ptr d => uptoBulk d + 1
  | .slice elems spare => uptoBulkAll elems + uptoBulkAll spare + 1
  | .agg parts => uptoBulkAll parts + 1
  | .iface _ d => uptoBulk d + 1
  | .map entries => uptoBulkEntries entries + 1
  | .held _ => 1
def uptoBulkAll {H : Type} : List (DataW H) → Nat
  | [] => 0
  | d :: r => uptoBulk d + uptoBulkAll r
def uptoBulkEntries {H : Type} : List (Lit × DataW H) → Nat
  | [] => 0
  | x :: r => uptoBulkEntry x + uptoBulkEntries r
def uptoBulkEntry {H : Type} : Lit × DataW H → Nat
  | (.string bytes, d) => bytes.length + uptoBulk d + 1
  | (_, d) => uptoBulk d + 1
 end
def uptoSmall : (H : Type) → List (DataW H) → Bool := fun _ ds => decide (uptoBulkAll ds ≤ 1048576)
def OpenSpec.upto (s : _root_.Go.ChangeSpec) : _root_.Go.OpenSpec := { _root_.Go.OpenSpec.ofChange s with cond := some uptoSmall }

/-- 'graftagelaw27.BitmapOf', WHERE WHAT IT READS IS OF BULK AT MOST 1048576: true; the input reads as it did. -/
def bitmapOfUptoRow : OpenClaim := { program := "ytibnkopdkfjgpaa", sum := "72c7dd0187a97803ed4d82c22cdf6d4b3f460775248dedc0f5f34353003dc89f", func := "graftage/graftagelaw27.BitmapOf", spec := "bitmapOf", unfollowed := true, recurses := true, apart := false, narrowed := true }
def BitmapOfUptoSaid : Prop := bitmapOfUptoRow.holds Try.pinned (OpenSpec.upto bitmapOfSpec)

/-- 'graftagelaw27.BitmapSets', WHERE WHAT IT READS IS OF BULK AT MOST 1048576: true; the input reads as it did. -/
def bitmapSetsUptoRow : OpenClaim := { program := "ytibnkopdkfjgpaa", sum := "72c7dd0187a97803ed4d82c22cdf6d4b3f460775248dedc0f5f34353003dc89f", func := "graftage/graftagelaw27.BitmapSets", spec := "bitmapSets", unfollowed := true, recurses := true, apart := false, narrowed := true }
def BitmapSetsUptoSaid : Prop := bitmapSetsUptoRow.holds Try.pinned (OpenSpec.upto bitmapSetsSpec)

/-- 'graftagelaw27.BitmapBack', WHERE WHAT IT READS IS OF BULK AT MOST 1048576: true; the input reads as it did. -/
def bitmapBackUptoRow : OpenClaim := { program := "ytibnkopdkfjgpaa", sum := "72c7dd0187a97803ed4d82c22cdf6d4b3f460775248dedc0f5f34353003dc89f", func := "graftage/graftagelaw27.BitmapBack", spec := "bitmapBack", unfollowed := true, recurses := true, apart := false, narrowed := true }
def BitmapBackUptoSaid : Prop := bitmapBackUptoRow.holds Try.pinned (OpenSpec.upto bitmapBackSpec)

/-- 'graftagelaw27.BitmapAsks', WHERE WHAT IT READS IS OF BULK AT MOST 1048576: true; the input reads as it did. -/
def bitmapAsksUptoRow : OpenClaim := { program := "ytibnkopdkfjgpaa", sum := "72c7dd0187a97803ed4d82c22cdf6d4b3f460775248dedc0f5f34353003dc89f", func := "graftage/graftagelaw27.BitmapAsks", spec := "bitmapAsks", unfollowed := true, recurses := true, apart := false, narrowed := true }
def BitmapAsksUptoSaid : Prop := bitmapAsksUptoRow.holds Try.pinned (OpenSpec.upto bitmapAsksSpec)

end Rows
end Go.Proofs.Ytibnkopdkfjgpaa
