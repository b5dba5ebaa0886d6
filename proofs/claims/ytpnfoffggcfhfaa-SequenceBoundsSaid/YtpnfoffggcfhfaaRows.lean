/-
  No cell of these rows narrows 'for every input' (looked for: loops, veiled, ifaces, maps, wideKeys, modest, calm, conditions, laid).
  DERIVED. THE GIVEN ROWS OF THIS SEAT. 5 by the template 'for every input the law returns true; each argument reads behind the call as it read before'; 0 by the template 'total and deterministic' (their statements: YtpnfoffggcfhfaaTotals.lean).
  GIVEN WITH THE SEED: the statements are not yours to turn. If you find one false, say at which input.
  Laid BY PROGRAM, IN A SANDBOX (cutbox-rows.mjs): the forced cells as the released guide's own fill.sh prints them over the translation f026f1bbb0b4b5ab… (all of the seat's roots in one cut). By AI agents, Wed Nov 11 2026. No macro, syntax, notation, axiom, sorry.
-/
import Derived.Test.YtpnfoffggcfhfaaChecked
import GoSem.Claim
import GoSem.ClaimJoined
import GoSem.ClaimMapViews
import Derived.JoinedTies
import Derived.KernelRfl
namespace Go.Proofs.Ytpnfoffggcfhfaa
/- THE CELL 'sum', in the pinned program and in every row, IS THE sha256 OF THE DUMP (.gsa) THAT YtpnfoffggcfhfaaProg.lean LOADS. Nothing in Lean hashes anything: it is a label: what it is worth is what the hold of that sum in a sandbox is worth. -/
noncomputable def Try.pinned : Pinned := { name := "ytpnfoffggcfhfaa", sum := "f026f1bbb0b4b5ab6514a74f2cc3b961fa3a12d2d702aae7a9130137fe91456b", checked := Try.checked }
namespace Rows
def none {H : Type} : Left H := { results := [], args := [] }

/-- 'spacecraftlaw43.SequenceBounds': WHATEVER THE INPUT: true; the input reads as it did. -/
def sequenceBoundsSpec : ChangeSpec := { name := "sequenceBounds", fn := fun _ => fun
  | [d1, d2] => { results := [.lit (.bool true)], args := [d1, d2] }
  | _ => none }
def sequenceBoundsRow : OpenClaim := { program := "ytpnfoffggcfhfaa", sum := "f026f1bbb0b4b5ab6514a74f2cc3b961fa3a12d2d702aae7a9130137fe91456b", func := "spacecraft/spacecraftlaw43.SequenceBounds", spec := "sequenceBounds", inPlace := ["slices.overlaps[spacecraft/sequence.program]"], apart := false }
def SequenceBoundsSaid : Prop := sequenceBoundsRow.holds Try.pinned (OpenSpec.ofChange sequenceBoundsSpec)

/-- ITS FALSE NEIGHBOUR: 'it returns false'. Refute it at one input. -/
def sequenceBoundsWrong : ChangeSpec := { name := "sequenceBounds", fn := fun _ => fun
  | [d1, d2] => { results := [.lit (.bool false)], args := [d1, d2] }
  | _ => none }
def SequenceBoundsWrongFalsely : Prop := sequenceBoundsRow.holds Try.pinned (OpenSpec.ofChange sequenceBoundsWrong)

/-- 'spacecraftlaw43.SequenceResources': WHATEVER THE INPUT: true; the input reads as it did. -/
def sequenceResourcesSpec : ChangeSpec := { name := "sequenceResources", fn := fun _ => fun
  | [d1, d2] => { results := [.lit (.bool true)], args := [d1, d2] }
  | _ => none }
def sequenceResourcesRow : OpenClaim := { program := "ytpnfoffggcfhfaa", sum := "f026f1bbb0b4b5ab6514a74f2cc3b961fa3a12d2d702aae7a9130137fe91456b", func := "spacecraft/spacecraftlaw43.SequenceResources", spec := "sequenceResources", inPlace := ["slices.overlaps[spacecraft/sequence.program]"], apart := false }
def SequenceResourcesSaid : Prop := sequenceResourcesRow.holds Try.pinned (OpenSpec.ofChange sequenceResourcesSpec)

/-- ITS FALSE NEIGHBOUR: 'it returns false'. Refute it at one input. -/
def sequenceResourcesWrong : ChangeSpec := { name := "sequenceResources", fn := fun _ => fun
  | [d1, d2] => { results := [.lit (.bool false)], args := [d1, d2] }
  | _ => none }
def SequenceResourcesWrongFalsely : Prop := sequenceResourcesRow.holds Try.pinned (OpenSpec.ofChange sequenceResourcesWrong)

/-- 'spacecraftlaw43.SequenceNone': WHATEVER THE INPUT: true; the input reads as it did. -/
def sequenceNoneSpec : ChangeSpec := { name := "sequenceNone", fn := fun _ => fun
  | [d1, d2] => { results := [.lit (.bool true)], args := [d1, d2] }
  | _ => none }
def sequenceNoneRow : OpenClaim := { program := "ytpnfoffggcfhfaa", sum := "f026f1bbb0b4b5ab6514a74f2cc3b961fa3a12d2d702aae7a9130137fe91456b", func := "spacecraft/spacecraftlaw43.SequenceNone", spec := "sequenceNone", inPlace := ["slices.overlaps[spacecraft/sequence.program]"], apart := false }
def SequenceNoneSaid : Prop := sequenceNoneRow.holds Try.pinned (OpenSpec.ofChange sequenceNoneSpec)

/-- ITS FALSE NEIGHBOUR: 'it returns false'. Refute it at one input. -/
def sequenceNoneWrong : ChangeSpec := { name := "sequenceNone", fn := fun _ => fun
  | [d1, d2] => { results := [.lit (.bool false)], args := [d1, d2] }
  | _ => none }
def SequenceNoneWrongFalsely : Prop := sequenceNoneRow.holds Try.pinned (OpenSpec.ofChange sequenceNoneWrong)

/-- 'spacecraftlaw43.SequenceEncodes': WHATEVER THE INPUT: true; the input reads as it did. -/
def sequenceEncodesSpec : ChangeSpec := { name := "sequenceEncodes", fn := fun _ => fun
  | [d] => { results := [.lit (.bool true)], args := [d] }
  | _ => none }
def sequenceEncodesRow : OpenClaim := { program := "ytpnfoffggcfhfaa", sum := "f026f1bbb0b4b5ab6514a74f2cc3b961fa3a12d2d702aae7a9130137fe91456b", func := "spacecraft/spacecraftlaw43.SequenceEncodes", spec := "sequenceEncodes", inPlace := ["slices.overlaps[spacecraft/sequence.program]"], apart := false }
def SequenceEncodesSaid : Prop := sequenceEncodesRow.holds Try.pinned (OpenSpec.ofChange sequenceEncodesSpec)

/-- ITS FALSE NEIGHBOUR: 'it returns false'. Refute it at one input. -/
def sequenceEncodesWrong : ChangeSpec := { name := "sequenceEncodes", fn := fun _ => fun
  | [d] => { results := [.lit (.bool false)], args := [d] }
  | _ => none }
def SequenceEncodesWrongFalsely : Prop := sequenceEncodesRow.holds Try.pinned (OpenSpec.ofChange sequenceEncodesWrong)

/-- 'spacecraftlaw43.SequenceDecodes': WHATEVER THE INPUT: true; the input reads as it did. -/
def sequenceDecodesSpec : ChangeSpec := { name := "sequenceDecodes", fn := fun _ => fun
  | [d] => { results := [.lit (.bool true)], args := [d] }
  | _ => none }
def sequenceDecodesRow : OpenClaim := { program := "ytpnfoffggcfhfaa", sum := "f026f1bbb0b4b5ab6514a74f2cc3b961fa3a12d2d702aae7a9130137fe91456b", func := "spacecraft/spacecraftlaw43.SequenceDecodes", spec := "sequenceDecodes", inPlace := ["slices.overlaps[spacecraft/sequence.program]"], apart := false }
def SequenceDecodesSaid : Prop := sequenceDecodesRow.holds Try.pinned (OpenSpec.ofChange sequenceDecodesSpec)

/-- ITS FALSE NEIGHBOUR: 'it returns false'. Refute it at one input. -/
def sequenceDecodesWrong : ChangeSpec := { name := "sequenceDecodes", fn := fun _ => fun
  | [d] => { results := [.lit (.bool false)], args := [d] }
  | _ => none }
def SequenceDecodesWrongFalsely : Prop := sequenceDecodesRow.holds Try.pinned (OpenSpec.ofChange sequenceDecodesWrong)

/- THE SECOND FORM. 'bulk': how many values and letters a reading holds, each counted each time it is reached (what is shared counts as often as it is met; a slice's spare places count too). A statement '..UptoSaid' is the law's where the arguments, and the package variables that the reading takes, are together of bulk at most 1048576: NARROWER than '..Said'. Prove '..Said' where nothing that the law and all that it calls make is longer than what came in: it says more and counts as full. Else prove '..UptoSaid'. A law counts once. -/
mutual
def uptoBulk {H : Type} : DataW H → Nat
  | .lit (.string bytes) => bytes.length + 1
  | .lit _ => 1
  | .nil => 1
  | .ptr d => uptoBulk d + 1
  | .slice elems spare => uptoBulkAll elems + uptoBulkAll spare + 1
  | .agg parts => uptoBulkAll parts + 1
  | .iface _ d => uptoBulk d + 1
  | .map entries => uptoBulkEntries entries + 1
  | .held _ => 1
def uptoBulkAll {H : Type} : List (DataW H) → Nat
  | [] => 0
  | d :: r => uptoBulk d + uptoBulkAll r
def uptoBulkEntries {H : Type} : List (Lit × DataW H) → Nat
  | [] => 0
  | x :: r => uptoBulkEntry x + uptoBulkEntries r
def uptoBulkEntry {H : Type} : Lit × DataW H → Nat
  | (.string bytes, d) => bytes.length + uptoBulk d + 1
  | (_, d) => uptoBulk d + 1
 end
def uptoSmall : (H : Type) → List (DataW H) → Bool := fun _ ds => decide (uptoBulkAll ds ≤ 1048576)
def OpenSpec.upto (s : _root_.Go.ChangeSpec) : _root_.Go.OpenSpec := { _root_.Go.OpenSpec.ofChange s with cond := some uptoSmall }

/-- 'spacecraftlaw43.SequenceBounds', WHERE WHAT IT READS IS OF BULK AT MOST 1048576: true; the input reads as it did. -/
def sequenceBoundsUptoRow : OpenClaim := { program := "ytpnfoffggcfhfaa", sum := "f026f1bbb0b4b5ab6514a74f2cc3b961fa3a12d2d702aae7a9130137fe91456b", func := "spacecraft/spacecraftlaw43.SequenceBounds", spec := "sequenceBounds", inPlace := ["slices.overlaps[spacecraft/sequence.program]"], apart := false, narrowed := true }
def SequenceBoundsUptoSaid : Prop := sequenceBoundsUptoRow.holds Try.pinned (OpenSpec.upto sequenceBoundsSpec)

/-- 'spacecraftlaw43.SequenceResources', WHERE WHAT IT READS IS OF BULK AT MOST 1048576: true; the input reads as it did. -/
def sequenceResourcesUptoRow : OpenClaim := { program := "ytpnfoffggcfhfaa", sum := "f026f1bbb0b4b5ab6514a74f2cc3b961fa3a12d2d702aae7a9130137fe91456b", func := "spacecraft/spacecraftlaw43.SequenceResources", spec := "sequenceResources", inPlace := ["slices.overlaps[spacecraft/sequence.program]"], apart := false, narrowed := true }
def SequenceResourcesUptoSaid : Prop := sequenceResourcesUptoRow.holds Try.pinned (OpenSpec.upto sequenceResourcesSpec)

/-- 'spacecraftlaw43.SequenceNone', WHERE WHAT IT READS IS OF BULK AT MOST 1048576: true; the input reads as it did. -/
def sequenceNoneUptoRow : OpenClaim := { program := "ytpnfoffggcfhfaa", sum := "f026f1bbb0b4b5ab6514a74f2cc3b961fa3a12d2d702aae7a9130137fe91456b", func := "spacecraft/spacecraftlaw43.SequenceNone", spec := "sequenceNone", inPlace := ["slices.overlaps[spacecraft/sequence.program]"], apart := false, narrowed := true }
def SequenceNoneUptoSaid : Prop := sequenceNoneUptoRow.holds Try.pinned (OpenSpec.upto sequenceNoneSpec)

/-- 'spacecraftlaw43.SequenceEncodes', WHERE WHAT IT READS IS OF BULK AT MOST 1048576: true; the input reads as it did. -/
def sequenceEncodesUptoRow : OpenClaim := { program := "ytpnfoffggcfhfaa", sum := "f026f1bbb0b4b5ab6514a74f2cc3b961fa3a12d2d702aae7a9130137fe91456b", func := "spacecraft/spacecraftlaw43.SequenceEncodes", spec := "sequenceEncodes", inPlace := ["slices.overlaps[spacecraft/sequence.program]"], apart := false, narrowed := true }
def SequenceEncodesUptoSaid : Prop := sequenceEncodesUptoRow.holds Try.pinned (OpenSpec.upto sequenceEncodesSpec)

/-- 'spacecraftlaw43.SequenceDecodes', WHERE WHAT IT READS IS OF BULK AT MOST 1048576: true; the input reads as it did. -/
def sequenceDecodesUptoRow : OpenClaim := { program := "ytpnfoffggcfhfaa", sum := "f026f1bbb0b4b5ab6514a74f2cc3b961fa3a12d2d702aae7a9130137fe91456b", func := "spacecraft/spacecraftlaw43.SequenceDecodes", spec := "sequenceDecodes", inPlace := ["slices.overlaps[spacecraft/sequence.program]"], apart := false, narrowed := true }
def SequenceDecodesUptoSaid : Prop := sequenceDecodesUptoRow.holds Try.pinned (OpenSpec.upto sequenceDecodesSpec)

end Rows
end Go.Proofs.Ytpnfoffggcfhfaa
