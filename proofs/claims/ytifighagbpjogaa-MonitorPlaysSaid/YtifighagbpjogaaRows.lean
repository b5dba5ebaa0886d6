/-
  No cell of these rows narrows 'for every input' (looked for: loops, veiled, ifaces, maps, wideKeys, modest, calm, conditions, laid).
  DERIVED. THE GIVEN ROWS OF THIS SEAT. 5 by the template 'for every input the law returns true; each argument reads behind the call as it read before'; 0 by the template 'total and deterministic' (their statements: YtifighagbpjogaaTotals.lean).
  GIVEN WITH THE SEED: the statements are not yours to turn. If you find one false, say at which input.
  Laid BY PROGRAM, IN A SANDBOX (cutbox-rows.mjs): the forced cells as the released guide's own fill.sh prints them over the translation 897c7c92c175d22f… (all of the seat's roots in one cut). By AI agents, Wed Nov 11 2026. No macro, syntax, notation, axiom, sorry.
-/
import Derived.Test.YtifighagbpjogaaChecked
import GoSem.Claim
import GoSem.ClaimJoined
import GoSem.ClaimMapViews
import Derived.JoinedTies
import Derived.KernelRfl
namespace Go.Proofs.Ytifighagbpjogaa
/- THE CELL 'sum', in the pinned program and in every row, IS THE sha256 OF THE DUMP (.gsa) THAT YtifighagbpjogaaProg.lean LOADS. Nothing in Lean hashes anything: it is a label: what it is worth is what the hold of that sum in a sandbox is worth. -/
noncomputable def Try.pinned : Pinned := { name := "ytifighagbpjogaa", sum := "897c7c92c175d22f3b1f0af35977600e7cef35d4abac9f6b50366a770cdc4edc", checked := Try.checked }
namespace Rows
def none {H : Type} : Left H := { results := [], args := [] }

/-- 'spacecraftlaw36.MonitorRepeats': WHATEVER THE INPUT: true; the input reads as it did. -/
def monitorRepeatsSpec : ChangeSpec := { name := "monitorRepeats", fn := fun _ => fun
  | [d1, d2, d3, d4] => { results := [.lit (.bool true)], args := [d1, d2, d3, d4] }
  | _ => none }
def monitorRepeatsRow : OpenClaim := { program := "ytifighagbpjogaa", sum := "897c7c92c175d22f3b1f0af35977600e7cef35d4abac9f6b50366a770cdc4edc", func := "spacecraft/spacecraftlaw36.MonitorRepeats", spec := "monitorRepeats", unfollowed := true, recurses := true, apart := false }
def MonitorRepeatsSaid : Prop := monitorRepeatsRow.holds Try.pinned (OpenSpec.ofChange monitorRepeatsSpec)

/-- ITS FALSE NEIGHBOUR: 'it returns false'. Refute it at one input. -/
def monitorRepeatsWrong : ChangeSpec := { name := "monitorRepeats", fn := fun _ => fun
  | [d1, d2, d3, d4] => { results := [.lit (.bool false)], args := [d1, d2, d3, d4] }
  | _ => none }
def MonitorRepeatsWrongFalsely : Prop := monitorRepeatsRow.holds Try.pinned (OpenSpec.ofChange monitorRepeatsWrong)

/-- 'spacecraftlaw36.MonitorDeltas': WHATEVER THE INPUT: true; the input reads as it did. -/
def monitorDeltasSpec : ChangeSpec := { name := "monitorDeltas", fn := fun _ => fun
  | [d1, d2] => { results := [.lit (.bool true)], args := [d1, d2] }
  | _ => none }
def monitorDeltasRow : OpenClaim := { program := "ytifighagbpjogaa", sum := "897c7c92c175d22f3b1f0af35977600e7cef35d4abac9f6b50366a770cdc4edc", func := "spacecraft/spacecraftlaw36.MonitorDeltas", spec := "monitorDeltas", unfollowed := true, recurses := true, apart := false }
def MonitorDeltasSaid : Prop := monitorDeltasRow.holds Try.pinned (OpenSpec.ofChange monitorDeltasSpec)

/-- ITS FALSE NEIGHBOUR: 'it returns false'. Refute it at one input. -/
def monitorDeltasWrong : ChangeSpec := { name := "monitorDeltas", fn := fun _ => fun
  | [d1, d2] => { results := [.lit (.bool false)], args := [d1, d2] }
  | _ => none }
def MonitorDeltasWrongFalsely : Prop := monitorDeltasRow.holds Try.pinned (OpenSpec.ofChange monitorDeltasWrong)

/-- 'spacecraftlaw36.MonitorChains': WHATEVER THE INPUT: true; the input reads as it did. -/
def monitorChainsSpec : ChangeSpec := { name := "monitorChains", fn := fun _ => fun
  | [d1, d2] => { results := [.lit (.bool true)], args := [d1, d2] }
  | _ => none }
def monitorChainsRow : OpenClaim := { program := "ytifighagbpjogaa", sum := "897c7c92c175d22f3b1f0af35977600e7cef35d4abac9f6b50366a770cdc4edc", func := "spacecraft/spacecraftlaw36.MonitorChains", spec := "monitorChains", unfollowed := true, recurses := true, apart := false }
def MonitorChainsSaid : Prop := monitorChainsRow.holds Try.pinned (OpenSpec.ofChange monitorChainsSpec)

/-- ITS FALSE NEIGHBOUR: 'it returns false'. Refute it at one input. -/
def monitorChainsWrong : ChangeSpec := { name := "monitorChains", fn := fun _ => fun
  | [d1, d2] => { results := [.lit (.bool false)], args := [d1, d2] }
  | _ => none }
def MonitorChainsWrongFalsely : Prop := monitorChainsRow.holds Try.pinned (OpenSpec.ofChange monitorChainsWrong)

/-- 'spacecraftlaw36.MonitorPlays': WHATEVER THE INPUT: true; the input reads as it did. -/
def monitorPlaysSpec : ChangeSpec := { name := "monitorPlays", fn := fun _ => fun
  | [d1, d2] => { results := [.lit (.bool true)], args := [d1, d2] }
  | _ => none }
def monitorPlaysRow : OpenClaim := { program := "ytifighagbpjogaa", sum := "897c7c92c175d22f3b1f0af35977600e7cef35d4abac9f6b50366a770cdc4edc", func := "spacecraft/spacecraftlaw36.MonitorPlays", spec := "monitorPlays", unfollowed := true, recurses := true, apart := false }
def MonitorPlaysSaid : Prop := monitorPlaysRow.holds Try.pinned (OpenSpec.ofChange monitorPlaysSpec)

/-- ITS FALSE NEIGHBOUR: 'it returns false'. Refute it at one input. -/
def monitorPlaysWrong : ChangeSpec := { name := "monitorPlays", fn := fun _ => fun
  | [d1, d2] => { results := [.lit (.bool false)], args := [d1, d2] }
  | _ => none }
def MonitorPlaysWrongFalsely : Prop := monitorPlaysRow.holds Try.pinned (OpenSpec.ofChange monitorPlaysWrong)

/-- 'spacecraftlaw36.MonitorNil': WHATEVER THE INPUT: true; the input reads as it did. -/
def monitorNilSpec : ChangeSpec := { name := "monitorNil", fn := fun _ => fun
  | [d1, d2, d3] => { results := [.lit (.bool true)], args := [d1, d2, d3] }
  | _ => none }
def monitorNilRow : OpenClaim := { program := "ytifighagbpjogaa", sum := "897c7c92c175d22f3b1f0af35977600e7cef35d4abac9f6b50366a770cdc4edc", func := "spacecraft/spacecraftlaw36.MonitorNil", spec := "monitorNil", unfollowed := true, recurses := true, apart := false }
def MonitorNilSaid : Prop := monitorNilRow.holds Try.pinned (OpenSpec.ofChange monitorNilSpec)

/-- ITS FALSE NEIGHBOUR: 'it returns false'. Refute it at one input. -/
def monitorNilWrong : ChangeSpec := { name := "monitorNil", fn := fun _ => fun
  | [d1, d2, d3] => { results := [.lit (.bool false)], args := [d1, d2, d3] }
  | _ => none }
def MonitorNilWrongFalsely : Prop := monitorNilRow.holds Try.pinned (OpenSpec.ofChange monitorNilWrong)

/- THE SECOND FORM. 'bulk': how many values and letters a reading holds, each counted each time it is reached (what is shared counts as often as it is met; a slice's spare places count too). A statement '..UptoSaid' is the law's where the arguments, and the package variables that the reading takes, are together of bulk at most 1048576: NARROWER than '..Said'. Prove '..Said' where nothing that the law and all that it calls make is longer than what came in: it says more and counts as full. Else prove '..UptoSaid'. A law counts once. -/
mutual
def uptoBulk {H : Type} : DataW H → Nat
  | .lit (.string bytes) => bytes.length + 1
  | .lit _ => 1
  | .nil => 1
  | .ptr d => uptoBulk d + 1
  | .slice elems spare => uptoBulkAll elems + uptoBulkAll spare + 1
  | .agg parts => uptoBulkAll parts + 1
  | .iface _ d => uptoBulk d + 1
  | .map entries => uptoBulkEntries entries + 1
  | .held _ => 1
def uptoBulkAll {H : Type} : List (DataW H) → Nat
  | [] => 0
  | d :: r => uptoBulk d + uptoBulkAll r
def uptoBulkEntries {H : Type} : List (Lit × DataW H) → Nat
  | [] => 0
  | x :: r => uptoBulkEntry x + uptoBulkEntries r
def uptoBulkEntry {H : Type} : Lit × DataW H → Nat
  | (.string bytes, d) => bytes.length + uptoBulk d + 1
  | (_, d) => uptoBulk d + 1
 end
def uptoSmall : (H : Type) → List (DataW H) → Bool := fun _ ds => decide (uptoBulkAll ds ≤ 1048576)
def OpenSpec.upto (s : _root_.Go.ChangeSpec) : _root_.Go.OpenSpec := { _root_.Go.OpenSpec.ofChange s with cond := some uptoSmall }

/-- 'spacecraftlaw36.MonitorRepeats', WHERE WHAT IT READS IS OF BULK AT MOST 1048576: true; the input reads as it did. -/
def monitorRepeatsUptoRow : OpenClaim := { program := "ytifighagbpjogaa", sum := "897c7c92c175d22f3b1f0af35977600e7cef35d4abac9f6b50366a770cdc4edc", func := "spacecraft/spacecraftlaw36.MonitorRepeats", spec := "monitorRepeats", unfollowed := true, recurses := true, apart := false, narrowed := true }
def MonitorRepeatsUptoSaid : Prop := monitorRepeatsUptoRow.holds Try.pinned (OpenSpec.upto monitorRepeatsSpec)

/-- 'spacecraftlaw36.MonitorDeltas', WHERE WHAT IT READS IS OF BULK AT MOST 1048576: true; the input reads as it did. -/
def monitorDeltasUptoRow : OpenClaim := { program := "ytifighagbpjogaa", sum := "897c7c92c175d22f3b1f0af35977600e7cef35d4abac9f6b50366a770cdc4edc", func := "spacecraft/spacecraftlaw36.MonitorDeltas", spec := "monitorDeltas", unfollowed := true, recurses := true, apart := false, narrowed := true }
def MonitorDeltasUptoSaid : Prop := monitorDeltasUptoRow.holds Try.pinned (OpenSpec.upto monitorDeltasSpec)

/-- 'spacecraftlaw36.MonitorChains', WHERE WHAT IT READS IS OF BULK AT MOST 1048576: true; the input reads as it did. -/
def monitorChainsUptoRow : OpenClaim := { program := "ytifighagbpjogaa", sum := "897c7c92c175d22f3b1f0af35977600e7cef35d4abac9f6b50366a770cdc4edc", func := "spacecraft/spacecraftlaw36.MonitorChains", spec := "monitorChains", unfollowed := true, recurses := true, apart := false, narrowed := true }
def MonitorChainsUptoSaid : Prop := monitorChainsUptoRow.holds Try.pinned (OpenSpec.upto monitorChainsSpec)

/-- 'spacecraftlaw36.MonitorPlays', WHERE WHAT IT READS IS OF BULK AT MOST 1048576: true; the input reads as it did. -/
def monitorPlaysUptoRow : OpenClaim := { program := "ytifighagbpjogaa", sum := "897c7c92c175d22f3b1f0af35977600e7cef35d4abac9f6b50366a770cdc4edc", func := "spacecraft/spacecraftlaw36.MonitorPlays", spec := "monitorPlays", unfollowed := true, recurses := true, apart := false, narrowed := true }
def MonitorPlaysUptoSaid : Prop := monitorPlaysUptoRow.holds Try.pinned (OpenSpec.upto monitorPlaysSpec)

/-- 'spacecraftlaw36.MonitorNil', WHERE WHAT IT READS IS OF BULK AT MOST 1048576: true; the input reads as it did. -/
def monitorNilUptoRow : OpenClaim := { program := "ytifighagbpjogaa", sum := "897c7c92c175d22f3b1f0af35977600e7cef35d4abac9f6b50366a770cdc4edc", func := "spacecraft/spacecraftlaw36.MonitorNil", spec := "monitorNil", unfollowed := true, recurses := true, apart := false, narrowed := true }
def MonitorNilUptoSaid : Prop := monitorNilUptoRow.holds Try.pinned (OpenSpec.upto monitorNilSpec)

end Rows
end Go.Proofs.Ytifighagbpjogaa
