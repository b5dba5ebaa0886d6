/-
  No cell of these rows narrows 'for every input' (looked for: loops, veiled, ifaces, maps, wideKeys, modest, calm, conditions, laid).
  DERIVED. THE GIVEN ROWS OF THIS SEAT. 5 by the template 'for every input the law returns true; each argument reads behind the call as it read before'; 0 by the template 'total and deterministic' (their statements: YtgijhjmegicnfaaTotals.lean).
  GIVEN WITH THE SEED: the statements are not yours to turn. If you find one false, say at which input.
  Laid BY PROGRAM, IN A SANDBOX (cutbox-rows.mjs): the forced cells as the released guide's own fill.sh prints them over the translation 48c9dbfaeb789e27… (all of the seat's roots in one cut). By AI agents, Wed Nov 11 2026. No macro, syntax, notation, axiom, sorry.
-/
import Derived.Test.YtgijhjmegicnfaaChecked
import GoSem.Claim
import GoSem.ClaimJoined
import GoSem.ClaimMapViews
import Derived.JoinedTies
import Derived.KernelRfl
namespace Go.Proofs.Ytgijhjmegicnfaa
/- THE CELL 'sum', in the pinned program and in every row, IS THE sha256 OF THE DUMP (.gsa) THAT YtgijhjmegicnfaaProg.lean LOADS. Nothing in Lean hashes anything: it is a label: what it is worth is what the hold of that sum in a sandbox is worth. -/
noncomputable def Try.pinned : Pinned := { name := "ytgijhjmegicnfaa", sum := "48c9dbfaeb789e278a8eedd39c3de4851bc43dc2f08a95185c9640923ed9d800", checked := Try.checked }
namespace Rows
def none {H : Type} : Left H := { results := [], args := [] }

/-- 'spacecraftlaw07.RangesLack': WHATEVER THE INPUT: true; the input reads as it did. -/
def rangesLackSpec : ChangeSpec := { name := "rangesLack", fn := fun _ => fun
  | [d1, d2] => { results := [.lit (.bool true)], args := [d1, d2] }
  | _ => none }
def rangesLackRow : OpenClaim := { program := "ytgijhjmegicnfaa", sum := "48c9dbfaeb789e278a8eedd39c3de4851bc43dc2f08a95185c9640923ed9d800", func := "spacecraft/spacecraftlaw07.RangesLack", spec := "rangesLack", unfollowed := true, recurses := true, apart := false }
def RangesLackSaid : Prop := rangesLackRow.holds Try.pinned (OpenSpec.ofChange rangesLackSpec)

/-- ITS FALSE NEIGHBOUR: 'it returns false'. Refute it at one input. -/
def rangesLackWrong : ChangeSpec := { name := "rangesLack", fn := fun _ => fun
  | [d1, d2] => { results := [.lit (.bool false)], args := [d1, d2] }
  | _ => none }
def RangesLackWrongFalsely : Prop := rangesLackRow.holds Try.pinned (OpenSpec.ofChange rangesLackWrong)

/-- 'spacecraftlaw07.RangesCount': WHATEVER THE INPUT: true; the input reads as it did. -/
def rangesCountSpec : ChangeSpec := { name := "rangesCount", fn := fun _ => fun
  | [d1, d2] => { results := [.lit (.bool true)], args := [d1, d2] }
  | _ => none }
def rangesCountRow : OpenClaim := { program := "ytgijhjmegicnfaa", sum := "48c9dbfaeb789e278a8eedd39c3de4851bc43dc2f08a95185c9640923ed9d800", func := "spacecraft/spacecraftlaw07.RangesCount", spec := "rangesCount", unfollowed := true, recurses := true, apart := false }
def RangesCountSaid : Prop := rangesCountRow.holds Try.pinned (OpenSpec.ofChange rangesCountSpec)

/-- ITS FALSE NEIGHBOUR: 'it returns false'. Refute it at one input. -/
def rangesCountWrong : ChangeSpec := { name := "rangesCount", fn := fun _ => fun
  | [d1, d2] => { results := [.lit (.bool false)], args := [d1, d2] }
  | _ => none }
def RangesCountWrongFalsely : Prop := rangesCountRow.holds Try.pinned (OpenSpec.ofChange rangesCountWrong)

/-- 'spacecraftlaw07.RangesMissing': WHATEVER THE INPUT: true; the input reads as it did. -/
def rangesMissingSpec : ChangeSpec := { name := "rangesMissing", fn := fun _ => fun
  | [d1, d2] => { results := [.lit (.bool true)], args := [d1, d2] }
  | _ => none }
def rangesMissingRow : OpenClaim := { program := "ytgijhjmegicnfaa", sum := "48c9dbfaeb789e278a8eedd39c3de4851bc43dc2f08a95185c9640923ed9d800", func := "spacecraft/spacecraftlaw07.RangesMissing", spec := "rangesMissing", unfollowed := true, recurses := true, apart := false }
def RangesMissingSaid : Prop := rangesMissingRow.holds Try.pinned (OpenSpec.ofChange rangesMissingSpec)

/-- ITS FALSE NEIGHBOUR: 'it returns false'. Refute it at one input. -/
def rangesMissingWrong : ChangeSpec := { name := "rangesMissing", fn := fun _ => fun
  | [d1, d2] => { results := [.lit (.bool false)], args := [d1, d2] }
  | _ => none }
def RangesMissingWrongFalsely : Prop := rangesMissingRow.holds Try.pinned (OpenSpec.ofChange rangesMissingWrong)

/-- 'spacecraftlaw07.RangesUndo': WHATEVER THE INPUT: true; the input reads as it did. -/
def rangesUndoSpec : ChangeSpec := { name := "rangesUndo", fn := fun _ => fun
  | [d1, d2, d3] => { results := [.lit (.bool true)], args := [d1, d2, d3] }
  | _ => none }
def rangesUndoRow : OpenClaim := { program := "ytgijhjmegicnfaa", sum := "48c9dbfaeb789e278a8eedd39c3de4851bc43dc2f08a95185c9640923ed9d800", func := "spacecraft/spacecraftlaw07.RangesUndo", spec := "rangesUndo", unfollowed := true, recurses := true, apart := false }
def RangesUndoSaid : Prop := rangesUndoRow.holds Try.pinned (OpenSpec.ofChange rangesUndoSpec)

/-- ITS FALSE NEIGHBOUR: 'it returns false'. Refute it at one input. -/
def rangesUndoWrong : ChangeSpec := { name := "rangesUndo", fn := fun _ => fun
  | [d1, d2, d3] => { results := [.lit (.bool false)], args := [d1, d2, d3] }
  | _ => none }
def RangesUndoWrongFalsely : Prop := rangesUndoRow.holds Try.pinned (OpenSpec.ofChange rangesUndoWrong)

/-- 'spacecraftlaw07.RangesChange': WHATEVER THE INPUT: true; the input reads as it did. -/
def rangesChangeSpec : ChangeSpec := { name := "rangesChange", fn := fun _ => fun
  | [d1, d2] => { results := [.lit (.bool true)], args := [d1, d2] }
  | _ => none }
def rangesChangeRow : OpenClaim := { program := "ytgijhjmegicnfaa", sum := "48c9dbfaeb789e278a8eedd39c3de4851bc43dc2f08a95185c9640923ed9d800", func := "spacecraft/spacecraftlaw07.RangesChange", spec := "rangesChange", unfollowed := true, recurses := true, apart := false }
def RangesChangeSaid : Prop := rangesChangeRow.holds Try.pinned (OpenSpec.ofChange rangesChangeSpec)

/-- ITS FALSE NEIGHBOUR: 'it returns false'. Refute it at one input. -/
def rangesChangeWrong : ChangeSpec := { name := "rangesChange", fn := fun _ => fun
  | [d1, d2] => { results := [.lit (.bool false)], args := [d1, d2] }
  | _ => none }
def RangesChangeWrongFalsely : Prop := rangesChangeRow.holds Try.pinned (OpenSpec.ofChange rangesChangeWrong)

/- THE SECOND FORM. 'bulk': how many values and letters a reading holds, each counted each time it is reached (what is shared counts as often as it is met; a slice's spare places count too). A statement '..UptoSaid' is the law's where the arguments, and the package variables that the reading takes, are together of bulk at most 1048576: NARROWER than '..Said'. Prove '..Said' where nothing that the law and all that it calls make is longer than what came in: it says more and counts as full. Else prove '..UptoSaid'. A law counts once. -/
mutual
def uptoBulk {H : Type} : DataW H → Nat
  | .lit (.string bytes) => bytes.length + 1
  | .lit _ => 1
  | .nil => 1
  | .ptr d => uptoBulk d + 1
  | .slice elems spare => uptoBulkAll elems + uptoBulkAll spare + 1
  | .agg parts => uptoBulkAll parts + 1
  | .iface _ d => uptoBulk d + 1
  | .map entries => uptoBulkEntries entries + 1
  | .held _ => 1
def uptoBulkAll {H : Type} : List (DataW H) → Nat
  | [] => 0
  | d :: r => uptoBulk d + uptoBulkAll r
def uptoBulkEntries {H : Type} : List (Lit × DataW H) → Nat
  | [] => 0
  | x :: r => uptoBulkEntry x + uptoBulkEntries r
def uptoBulkEntry {H : Type} : Lit × DataW H → Nat
  | (.string bytes, d) => bytes.length + uptoBulk d + 1
  | (_, d) => uptoBulk d + 1
 end
def uptoSmall : (H : Type) → List (DataW H) → Bool := fun _ ds => decide (uptoBulkAll ds ≤ 1048576)
def OpenSpec.upto (s : _root_.Go.ChangeSpec) : _root_.Go.OpenSpec := { _root_.Go.OpenSpec.ofChange s with cond := some uptoSmall }

/-- 'spacecraftlaw07.RangesLack', WHERE WHAT IT READS IS OF BULK AT MOST 1048576: true; the input reads as it did. -/
def rangesLackUptoRow : OpenClaim := { program := "ytgijhjmegicnfaa", sum := "48c9dbfaeb789e278a8eedd39c3de4851bc43dc2f08a95185c9640923ed9d800", func := "spacecraft/spacecraftlaw07.RangesLack", spec := "rangesLack", unfollowed := true, recurses := true, apart := false, narrowed := true }
def RangesLackUptoSaid : Prop := rangesLackUptoRow.holds Try.pinned (OpenSpec.upto rangesLackSpec)

/-- 'spacecraftlaw07.RangesCount', WHERE WHAT IT READS IS OF BULK AT MOST 1048576: true; the input reads as it did. -/
def rangesCountUptoRow : OpenClaim := { program := "ytgijhjmegicnfaa", sum := "48c9dbfaeb789e278a8eedd39c3de4851bc43dc2f08a95185c9640923ed9d800", func := "spacecraft/spacecraftlaw07.RangesCount", spec := "rangesCount", unfollowed := true, recurses := true, apart := false, narrowed := true }
def RangesCountUptoSaid : Prop := rangesCountUptoRow.holds Try.pinned (OpenSpec.upto rangesCountSpec)

/-- 'spacecraftlaw07.RangesMissing', WHERE WHAT IT READS IS OF BULK AT MOST 1048576: true; the input reads as it did. -/
def rangesMissingUptoRow : OpenClaim := { program := "ytgijhjmegicnfaa", sum := "48c9dbfaeb789e278a8eedd39c3de4851bc43dc2f08a95185c9640923ed9d800", func := "spacecraft/spacecraftlaw07.RangesMissing", spec := "rangesMissing", unfollowed := true, recurses := true, apart := false, narrowed := true }
def RangesMissingUptoSaid : Prop := rangesMissingUptoRow.holds Try.pinned (OpenSpec.upto rangesMissingSpec)

/-- 'spacecraftlaw07.RangesUndo', WHERE WHAT IT READS IS OF BULK AT MOST 1048576: true; the input reads as it did. -/
def rangesUndoUptoRow : OpenClaim := { program := "ytgijhjmegicnfaa", sum := "48c9dbfaeb789e278a8eedd39c3de4851bc43dc2f08a95185c9640923ed9d800", func := "spacecraft/spacecraftlaw07.RangesUndo", spec := "rangesUndo", unfollowed := true, recurses := true, apart := false, narrowed := true }
def RangesUndoUptoSaid : Prop := rangesUndoUptoRow.holds Try.pinned (OpenSpec.upto rangesUndoSpec)

/-- 'spacecraftlaw07.RangesChange', WHERE WHAT IT READS IS OF BULK AT MOST 1048576: true; the input reads as it did. -/
def rangesChangeUptoRow : OpenClaim := { program := "ytgijhjmegicnfaa", sum := "48c9dbfaeb789e278a8eedd39c3de4851bc43dc2f08a95185c9640923ed9d800", func := "spacecraft/spacecraftlaw07.RangesChange", spec := "rangesChange", unfollowed := true, recurses := true, apart := false, narrowed := true }
def RangesChangeUptoSaid : Prop := rangesChangeUptoRow.holds Try.pinned (OpenSpec.upto rangesChangeSpec)

end Rows
end Go.Proofs.Ytgijhjmegicnfaa
