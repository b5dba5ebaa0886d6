/-
  No cell of these rows narrows 'for every input' (looked for: loops, veiled, ifaces, maps, wideKeys, modest, calm, conditions, laid).
  DERIVED. THE GIVEN ROWS OF THIS SEAT. 5 by the template 'for every input the law returns true; each argument reads behind the call as it read before'; 0 by the template 'total and deterministic' (their statements: YtalpgifnkajkbaaTotals.lean).
  GIVEN WITH THE SEED: the statements are not yours to turn. If you find one false, say at which input.
  Laid BY PROGRAM, IN A SANDBOX (cutbox-rows.mjs): the forced cells as the released guide's own fill.sh prints them over the translation 393be94776e572ef… (all of the seat's roots in one cut). By AI agents, Wed Nov 11 2026. No macro, syntax, notation, axiom, sorry.
-/
import Derived.Test.YtalpgifnkajkbaaChecked
import GoSem.Claim
import GoSem.ClaimJoined
import GoSem.ClaimMapViews
import Derived.JoinedTies
import Derived.KernelRfl
namespace Go.Proofs.Ytalpgifnkajkbaa
/- THE CELL 'sum', in the pinned program and in every row, IS THE sha256 OF THE DUMP (.gsa) THAT YtalpgifnkajkbaaProg.lean LOADS. Nothing in Lean hashes anything: it is a label: what it is worth is what the hold of that sum in a sandbox is worth. -/
noncomputable def Try.pinned : Pinned := { name := "ytalpgifnkajkbaa", sum := "393be94776e572efeccc88b98678273b85a8c6e219e1baeca5b3e1a35080556e", checked := Try.checked }
namespace Rows
def none {H : Type} : Left H := { results := [], args := [] }

/-- 'spacecraftlaw54.PlannerAssigns': WHATEVER THE INPUT: true; the input reads as it did. -/
def plannerAssignsSpec : ChangeSpec := { name := "plannerAssigns", fn := fun _ => fun
  | [d] => { results := [.lit (.bool true)], args := [d] }
  | _ => none }
def plannerAssignsRow : OpenClaim := { program := "ytalpgifnkajkbaa", sum := "393be94776e572efeccc88b98678273b85a8c6e219e1baeca5b3e1a35080556e", func := "spacecraft/spacecraftlaw54.PlannerAssigns", spec := "plannerAssigns", inPlace := ["slices.overlaps[spacecraft/api.Slot]"], unfollowed := true, recurses := true, apart := false }
def PlannerAssignsSaid : Prop := plannerAssignsRow.holds Try.pinned (OpenSpec.ofChange plannerAssignsSpec)

/-- ITS FALSE NEIGHBOUR: 'it returns false'. Refute it at one input. -/
def plannerAssignsWrong : ChangeSpec := { name := "plannerAssigns", fn := fun _ => fun
  | [d] => { results := [.lit (.bool false)], args := [d] }
  | _ => none }
def PlannerAssignsWrongFalsely : Prop := plannerAssignsRow.holds Try.pinned (OpenSpec.ofChange plannerAssignsWrong)

/-- 'spacecraftlaw54.PlannerTests': WHATEVER THE INPUT: true; the input reads as it did. -/
def plannerTestsSpec : ChangeSpec := { name := "plannerTests", fn := fun _ => fun
  | [d] => { results := [.lit (.bool true)], args := [d] }
  | _ => none }
def plannerTestsRow : OpenClaim := { program := "ytalpgifnkajkbaa", sum := "393be94776e572efeccc88b98678273b85a8c6e219e1baeca5b3e1a35080556e", func := "spacecraft/spacecraftlaw54.PlannerTests", spec := "plannerTests", inPlace := ["slices.overlaps[spacecraft/api.Slot]"], unfollowed := true, recurses := true, apart := false }
def PlannerTestsSaid : Prop := plannerTestsRow.holds Try.pinned (OpenSpec.ofChange plannerTestsSpec)

/-- ITS FALSE NEIGHBOUR: 'it returns false'. Refute it at one input. -/
def plannerTestsWrong : ChangeSpec := { name := "plannerTests", fn := fun _ => fun
  | [d] => { results := [.lit (.bool false)], args := [d] }
  | _ => none }
def PlannerTestsWrongFalsely : Prop := plannerTestsRow.holds Try.pinned (OpenSpec.ofChange plannerTestsWrong)

/-- 'spacecraftlaw54.PlannerChecks': WHATEVER THE INPUT: true; the input reads as it did. -/
def plannerChecksSpec : ChangeSpec := { name := "plannerChecks", fn := fun _ => fun
  | [d] => { results := [.lit (.bool true)], args := [d] }
  | _ => none }
def plannerChecksRow : OpenClaim := { program := "ytalpgifnkajkbaa", sum := "393be94776e572efeccc88b98678273b85a8c6e219e1baeca5b3e1a35080556e", func := "spacecraft/spacecraftlaw54.PlannerChecks", spec := "plannerChecks", inPlace := ["slices.overlaps[spacecraft/api.Slot]"], unfollowed := true, recurses := true, apart := false }
def PlannerChecksSaid : Prop := plannerChecksRow.holds Try.pinned (OpenSpec.ofChange plannerChecksSpec)

/-- ITS FALSE NEIGHBOUR: 'it returns false'. Refute it at one input. -/
def plannerChecksWrong : ChangeSpec := { name := "plannerChecks", fn := fun _ => fun
  | [d] => { results := [.lit (.bool false)], args := [d] }
  | _ => none }
def PlannerChecksWrongFalsely : Prop := plannerChecksRow.holds Try.pinned (OpenSpec.ofChange plannerChecksWrong)

/-- 'spacecraftlaw54.PlannerFull': WHATEVER THE INPUT: true; the input reads as it did. -/
def plannerFullSpec : ChangeSpec := { name := "plannerFull", fn := fun _ => fun
  | [d] => { results := [.lit (.bool true)], args := [d] }
  | _ => none }
def plannerFullRow : OpenClaim := { program := "ytalpgifnkajkbaa", sum := "393be94776e572efeccc88b98678273b85a8c6e219e1baeca5b3e1a35080556e", func := "spacecraft/spacecraftlaw54.PlannerFull", spec := "plannerFull", inPlace := ["slices.overlaps[spacecraft/api.Slot]"], unfollowed := true, recurses := true, apart := false }
def PlannerFullSaid : Prop := plannerFullRow.holds Try.pinned (OpenSpec.ofChange plannerFullSpec)

/-- ITS FALSE NEIGHBOUR: 'it returns false'. Refute it at one input. -/
def plannerFullWrong : ChangeSpec := { name := "plannerFull", fn := fun _ => fun
  | [d] => { results := [.lit (.bool false)], args := [d] }
  | _ => none }
def PlannerFullWrongFalsely : Prop := plannerFullRow.holds Try.pinned (OpenSpec.ofChange plannerFullWrong)

/-- 'spacecraftlaw54.PlannerStays': WHATEVER THE INPUT: true; the input reads as it did. -/
def plannerStaysSpec : ChangeSpec := { name := "plannerStays", fn := fun _ => fun
  | [d1, d2] => { results := [.lit (.bool true)], args := [d1, d2] }
  | _ => none }
def plannerStaysRow : OpenClaim := { program := "ytalpgifnkajkbaa", sum := "393be94776e572efeccc88b98678273b85a8c6e219e1baeca5b3e1a35080556e", func := "spacecraft/spacecraftlaw54.PlannerStays", spec := "plannerStays", inPlace := ["slices.overlaps[spacecraft/api.Slot]"], unfollowed := true, recurses := true, apart := false }
def PlannerStaysSaid : Prop := plannerStaysRow.holds Try.pinned (OpenSpec.ofChange plannerStaysSpec)

/-- ITS FALSE NEIGHBOUR: 'it returns false'. Refute it at one input. -/
def plannerStaysWrong : ChangeSpec := { name := "plannerStays", fn := fun _ => fun
  | [d1, d2] => { results := [.lit (.bool false)], args := [d1, d2] }
  | _ => none }
def PlannerStaysWrongFalsely : Prop := plannerStaysRow.holds Try.pinned (OpenSpec.ofChange plannerStaysWrong)

/- THE SECOND FORM. 'bulk': how many values and letters a reading holds, each counted each time it is reached (what is shared counts as often as it is met; a slice's spare places count too). A statement '..UptoSaid' is the law's where the arguments, and the package variables that the reading takes, are together of bulk at most 1048576: NARROWER than '..Said'. Prove '..Said' where nothing that the law and all that it calls make is longer than what came in: it says more and counts as full. Else prove '..UptoSaid'. A law counts once. -/
mutual
def uptoBulk {H : Type} : DataW H → Nat
  | .lit (.string bytes) => bytes.length + 1
  | .lit _ => 1
  | .nil => 1
  | .ptr d => uptoBulk d + 1
  | .slice elems spare => uptoBulkAll elems + uptoBulkAll spare + 1
  | .agg parts => uptoBulkAll parts + 1
  | .iface _ d => uptoBulk d + 1
  | .map entries => uptoBulkEntries entries + 1
  | .held _ => 1
def uptoBulkAll {H : Type} : List (DataW H) → Nat
  | [] => 0
  | d :: r => uptoBulk d + uptoBulkAll r
def uptoBulkEntries {H : Type} : List (Lit × DataW H) → Nat
  | [] => 0
  | x :: r => uptoBulkEntry x + uptoBulkEntries r
def uptoBulkEntry {H : Type} : Lit × DataW H → Nat
  | (.string bytes, d) => bytes.length + uptoBulk d + 1
  | (_, d) => uptoBulk d + 1
 end
def uptoSmall : (H : Type) → List (DataW H) → Bool := fun _ ds => decide (uptoBulkAll ds ≤ 1048576)
def OpenSpec.upto (s : _root_.Go.ChangeSpec) : _root_.Go.OpenSpec := { _root_.Go.OpenSpec.ofChange s with cond := some uptoSmall }

/-- 'spacecraftlaw54.PlannerAssigns', WHERE WHAT IT READS IS OF BULK AT MOST 1048576: true; the input reads as it did. -/
def plannerAssignsUptoRow : OpenClaim := { program := "ytalpgifnkajkbaa", sum := "393be94776e572efeccc88b98678273b85a8c6e219e1baeca5b3e1a35080556e", func := "spacecraft/spacecraftlaw54.PlannerAssigns", spec := "plannerAssigns", inPlace := ["slices.overlaps[spacecraft/api.Slot]"], unfollowed := true, recurses := true, apart := false, narrowed := true }
def PlannerAssignsUptoSaid : Prop := plannerAssignsUptoRow.holds Try.pinned (OpenSpec.upto plannerAssignsSpec)

/-- 'spacecraftlaw54.PlannerTests', WHERE WHAT IT READS IS OF BULK AT MOST 1048576: true; the input reads as it did. -/
def plannerTestsUptoRow : OpenClaim := { program := "ytalpgifnkajkbaa", sum := "393be94776e572efeccc88b98678273b85a8c6e219e1baeca5b3e1a35080556e", func := "spacecraft/spacecraftlaw54.PlannerTests", spec := "plannerTests", inPlace := ["slices.overlaps[spacecraft/api.Slot]"], unfollowed := true, recurses := true, apart := false, narrowed := true }
def PlannerTestsUptoSaid : Prop := plannerTestsUptoRow.holds Try.pinned (OpenSpec.upto plannerTestsSpec)

/-- 'spacecraftlaw54.PlannerChecks', WHERE WHAT IT READS IS OF BULK AT MOST 1048576: true; the input reads as it did. -/
def plannerChecksUptoRow : OpenClaim := { program := "ytalpgifnkajkbaa", sum := "393be94776e572efeccc88b98678273b85a8c6e219e1baeca5b3e1a35080556e", func := "spacecraft/spacecraftlaw54.PlannerChecks", spec := "plannerChecks", inPlace := ["slices.overlaps[spacecraft/api.Slot]"], unfollowed := true, recurses := true, apart := false, narrowed := true }
def PlannerChecksUptoSaid : Prop := plannerChecksUptoRow.holds Try.pinned (OpenSpec.upto plannerChecksSpec)

/-- 'spacecraftlaw54.PlannerFull', WHERE WHAT IT READS IS OF BULK AT MOST 1048576: true; the input reads as it did. -/
def plannerFullUptoRow : OpenClaim := { program := "ytalpgifnkajkbaa", sum := "393be94776e572efeccc88b98678273b85a8c6e219e1baeca5b3e1a35080556e", func := "spacecraft/spacecraftlaw54.PlannerFull", spec := "plannerFull", inPlace := ["slices.overlaps[spacecraft/api.Slot]"], unfollowed := true, recurses := true, apart := false, narrowed := true }
def PlannerFullUptoSaid : Prop := plannerFullUptoRow.holds Try.pinned (OpenSpec.upto plannerFullSpec)

/-- 'spacecraftlaw54.PlannerStays', WHERE WHAT IT READS IS OF BULK AT MOST 1048576: true; the input reads as it did. -/
def plannerStaysUptoRow : OpenClaim := { program := "ytalpgifnkajkbaa", sum := "393be94776e572efeccc88b98678273b85a8c6e219e1baeca5b3e1a35080556e", func := "spacecraft/spacecraftlaw54.PlannerStays", spec := "plannerStays", inPlace := ["slices.overlaps[spacecraft/api.Slot]"], unfollowed := true, recurses := true, apart := false, narrowed := true }
def PlannerStaysUptoSaid : Prop := plannerStaysUptoRow.holds Try.pinned (OpenSpec.upto plannerStaysSpec)

end Rows
end Go.Proofs.Ytalpgifnkajkbaa
