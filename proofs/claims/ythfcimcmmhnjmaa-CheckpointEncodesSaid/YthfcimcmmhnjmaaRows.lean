/-
  No cell of these rows narrows 'for every input' (looked for: loops, veiled, ifaces, maps, wideKeys, modest, calm, conditions, laid).
  DERIVED. THE GIVEN ROWS OF THIS SEAT. 4 by the template 'for every input the law returns true; each argument reads behind the call as it read before'; 0 by the template 'total and deterministic' (their statements: YthfcimcmmhnjmaaTotals.lean).
  GIVEN WITH THE SEED: the statements are not yours to turn. If you find one false, say at which input.
  Laid BY PROGRAM, IN A SANDBOX (cutbox-rows.mjs): the forced cells as the released guide's own fill.sh prints them over the translation dcb4d3d7f3b512ae… (all of the seat's roots in one cut). By AI agents, Wed Nov 11 2026. No macro, syntax, notation, axiom, sorry.
-/
import Derived.Test.YthfcimcmmhnjmaaChecked
import GoSem.Claim
import GoSem.ClaimJoined
import GoSem.ClaimMapViews
import Derived.JoinedTies
import Derived.KernelRfl
namespace Go.Proofs.Ythfcimcmmhnjmaa
/- THE CELL 'sum', in the pinned program and in every row, IS THE sha256 OF THE DUMP (.gsa) THAT YthfcimcmmhnjmaaProg.lean LOADS. Nothing in Lean hashes anything: it is a label: what it is worth is what the hold of that sum in a sandbox is worth. -/
noncomputable def Try.pinned : Pinned := { name := "ythfcimcmmhnjmaa", sum := "dcb4d3d7f3b512aed1d7e9ab7a4f3424cdae3d70e1374c72f940035b0168434c", checked := Try.checked }
namespace Rows
def none {H : Type} : Left H := { results := [], args := [] }

/-- 'spacecraftlaw48.CheckpointEncodes': WHATEVER THE INPUT: true; the input reads as it did. -/
def checkpointEncodesSpec : ChangeSpec := { name := "checkpointEncodes", fn := fun _ => fun
  | [d] => { results := [.lit (.bool true)], args := [d] }
  | _ => none }
def checkpointEncodesRow : OpenClaim := { program := "ythfcimcmmhnjmaa", sum := "dcb4d3d7f3b512aed1d7e9ab7a4f3424cdae3d70e1374c72f940035b0168434c", func := "spacecraft/spacecraftlaw48.CheckpointEncodes", spec := "checkpointEncodes", apart := false }
def CheckpointEncodesSaid : Prop := checkpointEncodesRow.holds Try.pinned (OpenSpec.ofChange checkpointEncodesSpec)

/-- ITS FALSE NEIGHBOUR: 'it returns false'. Refute it at one input. -/
def checkpointEncodesWrong : ChangeSpec := { name := "checkpointEncodes", fn := fun _ => fun
  | [d] => { results := [.lit (.bool false)], args := [d] }
  | _ => none }
def CheckpointEncodesWrongFalsely : Prop := checkpointEncodesRow.holds Try.pinned (OpenSpec.ofChange checkpointEncodesWrong)

/-- 'spacecraftlaw48.CheckpointDecodes': WHATEVER THE INPUT: true; the input reads as it did. -/
def checkpointDecodesSpec : ChangeSpec := { name := "checkpointDecodes", fn := fun _ => fun
  | [d] => { results := [.lit (.bool true)], args := [d] }
  | _ => none }
def checkpointDecodesRow : OpenClaim := { program := "ythfcimcmmhnjmaa", sum := "dcb4d3d7f3b512aed1d7e9ab7a4f3424cdae3d70e1374c72f940035b0168434c", func := "spacecraft/spacecraftlaw48.CheckpointDecodes", spec := "checkpointDecodes", apart := false }
def CheckpointDecodesSaid : Prop := checkpointDecodesRow.holds Try.pinned (OpenSpec.ofChange checkpointDecodesSpec)

/-- ITS FALSE NEIGHBOUR: 'it returns false'. Refute it at one input. -/
def checkpointDecodesWrong : ChangeSpec := { name := "checkpointDecodes", fn := fun _ => fun
  | [d] => { results := [.lit (.bool false)], args := [d] }
  | _ => none }
def CheckpointDecodesWrongFalsely : Prop := checkpointDecodesRow.holds Try.pinned (OpenSpec.ofChange checkpointDecodesWrong)

/-- 'spacecraftlaw48.CheckpointBack': WHATEVER THE INPUT: true; the input reads as it did. -/
def checkpointBackSpec : ChangeSpec := { name := "checkpointBack", fn := fun _ => fun
  | [d] => { results := [.lit (.bool true)], args := [d] }
  | _ => none }
def checkpointBackRow : OpenClaim := { program := "ythfcimcmmhnjmaa", sum := "dcb4d3d7f3b512aed1d7e9ab7a4f3424cdae3d70e1374c72f940035b0168434c", func := "spacecraft/spacecraftlaw48.CheckpointBack", spec := "checkpointBack", apart := false }
def CheckpointBackSaid : Prop := checkpointBackRow.holds Try.pinned (OpenSpec.ofChange checkpointBackSpec)

/-- ITS FALSE NEIGHBOUR: 'it returns false'. Refute it at one input. -/
def checkpointBackWrong : ChangeSpec := { name := "checkpointBack", fn := fun _ => fun
  | [d] => { results := [.lit (.bool false)], args := [d] }
  | _ => none }
def CheckpointBackWrongFalsely : Prop := checkpointBackRow.holds Try.pinned (OpenSpec.ofChange checkpointBackWrong)

/-- 'spacecraftlaw48.CheckpointApart': WHATEVER THE INPUT: true; the input reads as it did. -/
def checkpointApartSpec : ChangeSpec := { name := "checkpointApart", fn := fun _ => fun
  | [d1, d2] => { results := [.lit (.bool true)], args := [d1, d2] }
  | _ => none }
def checkpointApartRow : OpenClaim := { program := "ythfcimcmmhnjmaa", sum := "dcb4d3d7f3b512aed1d7e9ab7a4f3424cdae3d70e1374c72f940035b0168434c", func := "spacecraft/spacecraftlaw48.CheckpointApart", spec := "checkpointApart", apart := false }
def CheckpointApartSaid : Prop := checkpointApartRow.holds Try.pinned (OpenSpec.ofChange checkpointApartSpec)

/-- ITS FALSE NEIGHBOUR: 'it returns false'. Refute it at one input. -/
def checkpointApartWrong : ChangeSpec := { name := "checkpointApart", fn := fun _ => fun
  | [d1, d2] => { results := [.lit (.bool false)], args := [d1, d2] }
  | _ => none }
def CheckpointApartWrongFalsely : Prop := checkpointApartRow.holds Try.pinned (OpenSpec.ofChange checkpointApartWrong)

/- THE SECOND FORM. 'bulk': how many values and letters a reading holds, each counted each time it is reached (what is shared counts as often as it is met; a slice's spare places count too). A statement '..UptoSaid' is the law's where the arguments, and the package variables that the reading takes, are together of bulk at most 1048576: NARROWER than '..Said'. Prove '..Said' where nothing that the law and all that it calls make is longer than what came in: it says more and counts as full. Else prove '..UptoSaid'. A law counts once. -/
mutual
def uptoBulk {H : Type} : DataW H → Nat
  | .lit (.string bytes) => bytes.length + 1
  | .lit _ => 1
  | .nil => 1
  | .ptr d => uptoBulk d + 1
  | .slice elems spare => uptoBulkAll elems + uptoBulkAll spare + 1
  | .agg parts => uptoBulkAll parts + 1
  | .iface _ d => uptoBulk d + 1
  | .map entries => uptoBulkEntries entries + 1
  | .held _ => 1
def uptoBulkAll {H : Type} : List (DataW H) → Nat
  | [] => 0
  | d :: r => uptoBulk d + uptoBulkAll r
def uptoBulkEntries {H : Type} : List (Lit × DataW H) → Nat
  | [] => 0
  | x :: r => uptoBulkEntry x + uptoBulkEntries r
def uptoBulkEntry {H : Type} : Lit × DataW H → Nat
  | (.string bytes, d) => bytes.length + uptoBulk d + 1
  | (_, d) => uptoBulk d + 1
 end
def uptoSmall : (H : Type) → List (DataW H) → Bool := fun _ ds => decide (uptoBulkAll ds ≤ 1048576)
def OpenSpec.upto (s : _root_.Go.ChangeSpec) : _root_.Go.OpenSpec := { _root_.Go.OpenSpec.ofChange s with cond := some uptoSmall }

/-- 'spacecraftlaw48.CheckpointEncodes', WHERE WHAT IT READS IS OF BULK AT MOST 1048576: true; the input reads as it did. -/
def checkpointEncodesUptoRow : OpenClaim := { program := "ythfcimcmmhnjmaa", sum := "dcb4d3d7f3b512aed1d7e9ab7a4f3424cdae3d70e1374c72f940035b0168434c", func := "spacecraft/spacecraftlaw48.CheckpointEncodes", spec := "checkpointEncodes", apart := false, narrowed := true }
def CheckpointEncodesUptoSaid : Prop := checkpointEncodesUptoRow.holds Try.pinned (OpenSpec.upto checkpointEncodesSpec)

/-- 'spacecraftlaw48.CheckpointDecodes', WHERE WHAT IT READS IS OF BULK AT MOST 1048576: true; the input reads as it did. -/
def checkpointDecodesUptoRow : OpenClaim := { program := "ythfcimcmmhnjmaa", sum := "dcb4d3d7f3b512aed1d7e9ab7a4f3424cdae3d70e1374c72f940035b0168434c", func := "spacecraft/spacecraftlaw48.CheckpointDecodes", spec := "checkpointDecodes", apart := false, narrowed := true }
def CheckpointDecodesUptoSaid : Prop := checkpointDecodesUptoRow.holds Try.pinned (OpenSpec.upto checkpointDecodesSpec)

/-- 'spacecraftlaw48.CheckpointBack', WHERE WHAT IT READS IS OF BULK AT MOST 1048576: true; the input reads as it did. -/
def checkpointBackUptoRow : OpenClaim := { program := "ythfcimcmmhnjmaa", sum := "dcb4d3d7f3b512aed1d7e9ab7a4f3424cdae3d70e1374c72f940035b0168434c", func := "spacecraft/spacecraftlaw48.CheckpointBack", spec := "checkpointBack", apart := false, narrowed := true }
def CheckpointBackUptoSaid : Prop := checkpointBackUptoRow.holds Try.pinned (OpenSpec.upto checkpointBackSpec)

/-- 'spacecraftlaw48.CheckpointApart', WHERE WHAT IT READS IS OF BULK AT MOST 1048576: true; the input reads as it did. -/
def checkpointApartUptoRow : OpenClaim := { program := "ythfcimcmmhnjmaa", sum := "dcb4d3d7f3b512aed1d7e9ab7a4f3424cdae3d70e1374c72f940035b0168434c", func := "spacecraft/spacecraftlaw48.CheckpointApart", spec := "checkpointApart", apart := false, narrowed := true }
def CheckpointApartUptoSaid : Prop := checkpointApartUptoRow.holds Try.pinned (OpenSpec.upto checkpointApartSpec)

end Rows
end Go.Proofs.Ythfcimcmmhnjmaa
