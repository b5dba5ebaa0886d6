/-
  No cell of these rows narrows 'for every input' (looked for: loops, veiled, ifaces, maps, wideKeys, modest, calm, conditions, laid).
  DERIVED. THE GIVEN ROWS OF THIS SEAT. 4 by the template 'for every input the law returns true; each argument reads behind the call as it read before'; 0 by the template 'total and deterministic' (their statements: YtginlelmkebpmaaTotals.lean).
  GIVEN WITH THE SEED: the statements are not yours to turn. If you find one false, say at which input.
  Laid BY PROGRAM, IN A SANDBOX (cutbox-rows.mjs): the forced cells as the released guide's own fill.sh prints them over the translation 5ef66d1adab09b92… (all of the seat's roots in one cut). By AI agents, Wed Nov 11 2026. No macro, syntax, notation, axiom, sorry.
-/
import Derived.Test.YtginlelmkebpmaaChecked
import GoSem.Claim
import GoSem.ClaimJoined
import GoSem.ClaimMapViews
import Derived.JoinedTies
import Derived.KernelRfl
namespace Go.Proofs.Ytginlelmkebpmaa
/- THE CELL 'sum', in the pinned program and in every row, IS THE sha256 OF THE DUMP (.gsa) THAT YtginlelmkebpmaaProg.lean LOADS. Nothing in Lean hashes anything: it is a label: what it is worth is what the hold of that sum in a sandbox is worth. -/
noncomputable def Try.pinned : Pinned := { name := "ytginlelmkebpmaa", sum := "5ef66d1adab09b922c744035f79321bad7bf0f3140f2c88c76b308caf6c4be5f", checked := Try.checked }
namespace Rows
def none {H : Type} : Left H := { results := [], args := [] }

/-- 'spacecraftlaw47.GuardNew': WHATEVER THE INPUT: true; the input reads as it did. -/
def guardNewSpec : ChangeSpec := { name := "guardNew", fn := fun _ => fun
  | [d1, d2] => { results := [.lit (.bool true)], args := [d1, d2] }
  | _ => none }
def guardNewRow : OpenClaim := { program := "ytginlelmkebpmaa", sum := "5ef66d1adab09b922c744035f79321bad7bf0f3140f2c88c76b308caf6c4be5f", func := "spacecraft/spacecraftlaw47.GuardNew", spec := "guardNew", unfollowed := true, recurses := true, apart := false }
def GuardNewSaid : Prop := guardNewRow.holds Try.pinned (OpenSpec.ofChange guardNewSpec)

/-- ITS FALSE NEIGHBOUR: 'it returns false'. Refute it at one input. -/
def guardNewWrong : ChangeSpec := { name := "guardNew", fn := fun _ => fun
  | [d1, d2] => { results := [.lit (.bool false)], args := [d1, d2] }
  | _ => none }
def GuardNewWrongFalsely : Prop := guardNewRow.holds Try.pinned (OpenSpec.ofChange guardNewWrong)

/-- 'spacecraftlaw47.GuardRecovers': WHATEVER THE INPUT: true; the input reads as it did. -/
def guardRecoversSpec : ChangeSpec := { name := "guardRecovers", fn := fun _ => fun
  | [d1, d2, d3] => { results := [.lit (.bool true)], args := [d1, d2, d3] }
  | _ => none }
def guardRecoversRow : OpenClaim := { program := "ytginlelmkebpmaa", sum := "5ef66d1adab09b922c744035f79321bad7bf0f3140f2c88c76b308caf6c4be5f", func := "spacecraft/spacecraftlaw47.GuardRecovers", spec := "guardRecovers", unfollowed := true, recurses := true, apart := false }
def GuardRecoversSaid : Prop := guardRecoversRow.holds Try.pinned (OpenSpec.ofChange guardRecoversSpec)

/-- ITS FALSE NEIGHBOUR: 'it returns false'. Refute it at one input. -/
def guardRecoversWrong : ChangeSpec := { name := "guardRecovers", fn := fun _ => fun
  | [d1, d2, d3] => { results := [.lit (.bool false)], args := [d1, d2, d3] }
  | _ => none }
def GuardRecoversWrongFalsely : Prop := guardRecoversRow.holds Try.pinned (OpenSpec.ofChange guardRecoversWrong)

/-- 'spacecraftlaw47.GuardUnits': WHATEVER THE INPUT: true; the input reads as it did. -/
def guardUnitsSpec : ChangeSpec := { name := "guardUnits", fn := fun _ => fun
  | [d1, d2] => { results := [.lit (.bool true)], args := [d1, d2] }
  | _ => none }
def guardUnitsRow : OpenClaim := { program := "ytginlelmkebpmaa", sum := "5ef66d1adab09b922c744035f79321bad7bf0f3140f2c88c76b308caf6c4be5f", func := "spacecraft/spacecraftlaw47.GuardUnits", spec := "guardUnits", unfollowed := true, recurses := true, apart := false }
def GuardUnitsSaid : Prop := guardUnitsRow.holds Try.pinned (OpenSpec.ofChange guardUnitsSpec)

/-- ITS FALSE NEIGHBOUR: 'it returns false'. Refute it at one input. -/
def guardUnitsWrong : ChangeSpec := { name := "guardUnits", fn := fun _ => fun
  | [d1, d2] => { results := [.lit (.bool false)], args := [d1, d2] }
  | _ => none }
def GuardUnitsWrongFalsely : Prop := guardUnitsRow.holds Try.pinned (OpenSpec.ofChange guardUnitsWrong)

/-- 'spacecraftlaw47.GuardPlays': WHATEVER THE INPUT: true; the input reads as it did. -/
def guardPlaysSpec : ChangeSpec := { name := "guardPlays", fn := fun _ => fun
  | [d1, d2, d3] => { results := [.lit (.bool true)], args := [d1, d2, d3] }
  | _ => none }
def guardPlaysRow : OpenClaim := { program := "ytginlelmkebpmaa", sum := "5ef66d1adab09b922c744035f79321bad7bf0f3140f2c88c76b308caf6c4be5f", func := "spacecraft/spacecraftlaw47.GuardPlays", spec := "guardPlays", inPlace := ["maps.clone"], unfollowed := true, recurses := true, apart := false }
def GuardPlaysSaid : Prop := guardPlaysRow.holds Try.pinned (OpenSpec.ofChange guardPlaysSpec)

/-- ITS FALSE NEIGHBOUR: 'it returns false'. Refute it at one input. -/
def guardPlaysWrong : ChangeSpec := { name := "guardPlays", fn := fun _ => fun
  | [d1, d2, d3] => { results := [.lit (.bool false)], args := [d1, d2, d3] }
  | _ => none }
def GuardPlaysWrongFalsely : Prop := guardPlaysRow.holds Try.pinned (OpenSpec.ofChange guardPlaysWrong)

/- THE SECOND FORM. 'bulk': how many values and letters a reading holds, each counted each time it is reached (what is shared counts as often as it is met; a slice's spare places count too). A statement '..UptoSaid' is the law's where the arguments, and the package variables that the reading takes, are together of bulk at most 1048576: NARROWER than '..Said'. Prove '..Said' where nothing that the law and all that it calls make is longer than what came in: it says more and counts as full. Else prove '..UptoSaid'. A law counts once. -/
mutual
def uptoBulk {H : Type} : DataW H → Nat
  | .lit (.string bytes) => bytes.length + 1
  | .lit _ => 1
  | .nil => 1
  | .ptr d => uptoBulk d + 1
  | .slice elems spare => uptoBulkAll elems + uptoBulkAll spare + 1
  | .agg parts => uptoBulkAll parts + 1
  | .iface _ d => uptoBulk d + 1
  | .map entries => uptoBulkEntries entries + 1
  | .held _ => 1
def uptoBulkAll {H : Type} : List (DataW H) → Nat
  | [] => 0
  | d :: r => uptoBulk d + uptoBulkAll r
def uptoBulkEntries {H : Type} : List (Lit × DataW H) → Nat
  | [] => 0
  | x :: r => uptoBulkEntry x + uptoBulkEntries r
def uptoBulkEntry {H : Type} : Lit × DataW H → Nat
  | (.string bytes, d) => bytes.length + uptoBulk d + 1
  | (_, d) => uptoBulk d + 1
 end
def uptoSmall : (H : Type) → List (DataW H) → Bool := fun _ ds => decide (uptoBulkAll ds ≤ 1048576)
def OpenSpec.upto (s : _root_.Go.ChangeSpec) : _root_.Go.OpenSpec := { _root_.Go.OpenSpec.ofChange s with cond := some uptoSmall }

/-- 'spacecraftlaw47.GuardNew', WHERE WHAT IT READS IS OF BULK AT MOST 1048576: true; the input reads as it did. -/
def guardNewUptoRow : OpenClaim := { program := "ytginlelmkebpmaa", sum := "5ef66d1adab09b922c744035f79321bad7bf0f3140f2c88c76b308caf6c4be5f", func := "spacecraft/spacecraftlaw47.GuardNew", spec := "guardNew", unfollowed := true, recurses := true, apart := false, narrowed := true }
def GuardNewUptoSaid : Prop := guardNewUptoRow.holds Try.pinned (OpenSpec.upto guardNewSpec)

/-- 'spacecraftlaw47.GuardRecovers', WHERE WHAT IT READS IS OF BULK AT MOST 1048576: true; the input reads as it did. -/
def guardRecoversUptoRow : OpenClaim := { program := "ytginlelmkebpmaa", sum := "5ef66d1adab09b922c744035f79321bad7bf0f3140f2c88c76b308caf6c4be5f", func := "spacecraft/spacecraftlaw47.GuardRecovers", spec := "guardRecovers", unfollowed := true, recurses := true, apart := false, narrowed := true }
def GuardRecoversUptoSaid : Prop := guardRecoversUptoRow.holds Try.pinned (OpenSpec.upto guardRecoversSpec)

/-- 'spacecraftlaw47.GuardUnits', WHERE WHAT IT READS IS OF BULK AT MOST 1048576: true; the input reads as it did. -/
def guardUnitsUptoRow : OpenClaim := { program := "ytginlelmkebpmaa", sum := "5ef66d1adab09b922c744035f79321bad7bf0f3140f2c88c76b308caf6c4be5f", func := "spacecraft/spacecraftlaw47.GuardUnits", spec := "guardUnits", unfollowed := true, recurses := true, apart := false, narrowed := true }
def GuardUnitsUptoSaid : Prop := guardUnitsUptoRow.holds Try.pinned (OpenSpec.upto guardUnitsSpec)

/-- 'spacecraftlaw47.GuardPlays', WHERE WHAT IT READS IS OF BULK AT MOST 1048576: true; the input reads as it did. -/
def guardPlaysUptoRow : OpenClaim := { program := "ytginlelmkebpmaa", sum := "5ef66d1adab09b922c744035f79321bad7bf0f3140f2c88c76b308caf6c4be5f", func := "spacecraft/spacecraftlaw47.GuardPlays", spec := "guardPlays", inPlace := ["maps.clone"], unfollowed := true, recurses := true, apart := false, narrowed := true }
def GuardPlaysUptoSaid : Prop := guardPlaysUptoRow.holds Try.pinned (OpenSpec.upto guardPlaysSpec)

end Rows
end Go.Proofs.Ytginlelmkebpmaa
