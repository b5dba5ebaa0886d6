/-
  No cell of these rows narrows 'for every input' (looked for: loops, veiled, ifaces, maps, wideKeys, modest, calm, conditions, laid).
  DERIVED. THE GIVEN ROWS OF THIS SEAT. 5 by the template 'for every input the law returns true; each argument reads behind the call as it read before'; 0 by the template 'total and deterministic' (their statements: YtmfhicbbhncddaaTotals.lean).
  GIVEN WITH THE SEED: the statements are not yours to turn. If you find one false, say at which input.
  Laid BY PROGRAM, IN A SANDBOX (cutbox-rows.mjs): the forced cells as the released guide's own fill.sh prints them over the translation ec40185b24793702… (all of the seat's roots in one cut). By AI agents, Wed Nov 11 2026. No macro, syntax, notation, axiom, sorry.
-/
import Derived.Test.YtmfhicbbhncddaaChecked
import GoSem.Claim
import GoSem.ClaimJoined
import GoSem.ClaimMapViews
import Derived.JoinedTies
import Derived.KernelRfl
namespace Go.Proofs.Ytmfhicbbhncddaa
/- THE CELL 'sum', in the pinned program and in every row, IS THE sha256 OF THE DUMP (.gsa) THAT YtmfhicbbhncddaaProg.lean LOADS. Nothing in Lean hashes anything: it is a label: what it is worth is what the hold of that sum in a sandbox is worth. -/
noncomputable def Try.pinned : Pinned := { name := "ytmfhicbbhncddaa", sum := "ec40185b24793702f4a87ed87fb442e76ae9d201c44720a0cc28fe7463ff3afa", checked := Try.checked }
namespace Rows
def none {H : Type} : Left H := { results := [], args := [] }

/-- 'spacecraftlaw39.CommandEncodes': WHATEVER THE INPUT: true; the input reads as it did. -/
def commandEncodesSpec : ChangeSpec := { name := "commandEncodes", fn := fun _ => fun
  | [d] => { results := [.lit (.bool true)], args := [d] }
  | _ => none }
def commandEncodesRow : OpenClaim := { program := "ytmfhicbbhncddaa", sum := "ec40185b24793702f4a87ed87fb442e76ae9d201c44720a0cc28fe7463ff3afa", func := "spacecraft/spacecraftlaw39.CommandEncodes", spec := "commandEncodes", apart := false }
def CommandEncodesSaid : Prop := commandEncodesRow.holds Try.pinned (OpenSpec.ofChange commandEncodesSpec)

/-- ITS FALSE NEIGHBOUR: 'it returns false'. Refute it at one input. -/
def commandEncodesWrong : ChangeSpec := { name := "commandEncodes", fn := fun _ => fun
  | [d] => { results := [.lit (.bool false)], args := [d] }
  | _ => none }
def CommandEncodesWrongFalsely : Prop := commandEncodesRow.holds Try.pinned (OpenSpec.ofChange commandEncodesWrong)

/-- 'spacecraftlaw39.CommandDecodes': WHATEVER THE INPUT: true; the input reads as it did. -/
def commandDecodesSpec : ChangeSpec := { name := "commandDecodes", fn := fun _ => fun
  | [d] => { results := [.lit (.bool true)], args := [d] }
  | _ => none }
def commandDecodesRow : OpenClaim := { program := "ytmfhicbbhncddaa", sum := "ec40185b24793702f4a87ed87fb442e76ae9d201c44720a0cc28fe7463ff3afa", func := "spacecraft/spacecraftlaw39.CommandDecodes", spec := "commandDecodes", apart := false }
def CommandDecodesSaid : Prop := commandDecodesRow.holds Try.pinned (OpenSpec.ofChange commandDecodesSpec)

/-- ITS FALSE NEIGHBOUR: 'it returns false'. Refute it at one input. -/
def commandDecodesWrong : ChangeSpec := { name := "commandDecodes", fn := fun _ => fun
  | [d] => { results := [.lit (.bool false)], args := [d] }
  | _ => none }
def CommandDecodesWrongFalsely : Prop := commandDecodesRow.holds Try.pinned (OpenSpec.ofChange commandDecodesWrong)

/-- 'spacecraftlaw39.CommandApart': WHATEVER THE INPUT: true; the input reads as it did. -/
def commandApartSpec : ChangeSpec := { name := "commandApart", fn := fun _ => fun
  | [d1, d2] => { results := [.lit (.bool true)], args := [d1, d2] }
  | _ => none }
def commandApartRow : OpenClaim := { program := "ytmfhicbbhncddaa", sum := "ec40185b24793702f4a87ed87fb442e76ae9d201c44720a0cc28fe7463ff3afa", func := "spacecraft/spacecraftlaw39.CommandApart", spec := "commandApart", apart := false }
def CommandApartSaid : Prop := commandApartRow.holds Try.pinned (OpenSpec.ofChange commandApartSpec)

/-- ITS FALSE NEIGHBOUR: 'it returns false'. Refute it at one input. -/
def commandApartWrong : ChangeSpec := { name := "commandApart", fn := fun _ => fun
  | [d1, d2] => { results := [.lit (.bool false)], args := [d1, d2] }
  | _ => none }
def CommandApartWrongFalsely : Prop := commandApartRow.holds Try.pinned (OpenSpec.ofChange commandApartWrong)

/-- 'spacecraftlaw39.CommandBack': WHATEVER THE INPUT: true; the input reads as it did. -/
def commandBackSpec : ChangeSpec := { name := "commandBack", fn := fun _ => fun
  | [d] => { results := [.lit (.bool true)], args := [d] }
  | _ => none }
def commandBackRow : OpenClaim := { program := "ytmfhicbbhncddaa", sum := "ec40185b24793702f4a87ed87fb442e76ae9d201c44720a0cc28fe7463ff3afa", func := "spacecraft/spacecraftlaw39.CommandBack", spec := "commandBack", apart := false }
def CommandBackSaid : Prop := commandBackRow.holds Try.pinned (OpenSpec.ofChange commandBackSpec)

/-- ITS FALSE NEIGHBOUR: 'it returns false'. Refute it at one input. -/
def commandBackWrong : ChangeSpec := { name := "commandBack", fn := fun _ => fun
  | [d] => { results := [.lit (.bool false)], args := [d] }
  | _ => none }
def CommandBackWrongFalsely : Prop := commandBackRow.holds Try.pinned (OpenSpec.ofChange commandBackWrong)

/-- 'spacecraftlaw39.CommandTable': WHATEVER THE INPUT: true; the input reads as it did. -/
def commandTableSpec : ChangeSpec := { name := "commandTable", fn := fun _ => fun
  | [d1, d2, d3] => { results := [.lit (.bool true)], args := [d1, d2, d3] }
  | _ => none }
def commandTableRow : OpenClaim := { program := "ytmfhicbbhncddaa", sum := "ec40185b24793702f4a87ed87fb442e76ae9d201c44720a0cc28fe7463ff3afa", func := "spacecraft/spacecraftlaw39.CommandTable", spec := "commandTable", apart := false }
def CommandTableSaid : Prop := commandTableRow.holds Try.pinned (OpenSpec.ofChange commandTableSpec)

/-- ITS FALSE NEIGHBOUR: 'it returns false'. Refute it at one input. -/
def commandTableWrong : ChangeSpec := { name := "commandTable", fn := fun _ => fun
  | [d1, d2, d3] => { results := [.lit (.bool false)], args := [d1, d2, d3] }
  | _ => none }
def CommandTableWrongFalsely : Prop := commandTableRow.holds Try.pinned (OpenSpec.ofChange commandTableWrong)

/- THE SECOND FORM. 'bulk': how many values and letters a reading holds, each counted each time it is reached (what is shared counts as often as it is met; a slice's spare places count too). A statement '..UptoSaid' is the law's where the arguments, and the package variables that the reading takes, are together of bulk at most 1048576: NARROWER than '..Said'. Prove '..Said' where nothing that the law and all that it calls make is longer than what came in: it says more and counts as full. Else prove '..UptoSaid'. A law counts once. -/
mutual
def uptoBulk {H : Type} : DataW H → Nat
  | .lit (.string bytes) => bytes.length + 1
  | .lit _ => 1
  | .nil => 1
  | .ptr d => uptoBulk d + 1
  | .slice elems spare => uptoBulkAll elems + uptoBulkAll spare + 1
  | .agg parts => uptoBulkAll parts + 1
  | .iface _ d => uptoBulk d + 1
  | .map entries => uptoBulkEntries entries + 1
  | .held _ => 1
def uptoBulkAll {H : Type} : List (DataW H) → Nat
  | [] => 0
  | d :: r => uptoBulk d + uptoBulkAll r
def uptoBulkEntries {H : Type} : List (Lit × DataW H) → Nat
  | [] => 0
  | x :: r => uptoBulkEntry x + uptoBulkEntries r
def uptoBulkEntry {H : Type} : Lit × DataW H → Nat
  | (.string bytes, d) => bytes.length + uptoBulk d + 1
  | (_, d) => uptoBulk d + 1
 end
def uptoSmall : (H : Type) → List (DataW H) → Bool := fun _ ds => decide (uptoBulkAll ds ≤ 1048576)
def OpenSpec.upto (s : _root_.Go.ChangeSpec) : _root_.Go.OpenSpec := { _root_.Go.OpenSpec.ofChange s with cond := some uptoSmall }

/-- 'spacecraftlaw39.CommandEncodes', WHERE WHAT IT READS IS OF BULK AT MOST 1048576: true; the input reads as it did. -/
def commandEncodesUptoRow : OpenClaim := { program := "ytmfhicbbhncddaa", sum := "ec40185b24793702f4a87ed87fb442e76ae9d201c44720a0cc28fe7463ff3afa", func := "spacecraft/spacecraftlaw39.CommandEncodes", spec := "commandEncodes", apart := false, narrowed := true }
def CommandEncodesUptoSaid : Prop := commandEncodesUptoRow.holds Try.pinned (OpenSpec.upto commandEncodesSpec)

/-- 'spacecraftlaw39.CommandDecodes', WHERE WHAT IT READS IS OF BULK AT MOST 1048576: true; the input reads as it did. -/
def commandDecodesUptoRow : OpenClaim := { program := "ytmfhicbbhncddaa", sum := "ec40185b24793702f4a87ed87fb442e76ae9d201c44720a0cc28fe7463ff3afa", func := "spacecraft/spacecraftlaw39.CommandDecodes", spec := "commandDecodes", apart := false, narrowed := true }
def CommandDecodesUptoSaid : Prop := commandDecodesUptoRow.holds Try.pinned (OpenSpec.upto commandDecodesSpec)

/-- 'spacecraftlaw39.CommandApart', WHERE WHAT IT READS IS OF BULK AT MOST 1048576: true; the input reads as it did. -/
def commandApartUptoRow : OpenClaim := { program := "ytmfhicbbhncddaa", sum := "ec40185b24793702f4a87ed87fb442e76ae9d201c44720a0cc28fe7463ff3afa", func := "spacecraft/spacecraftlaw39.CommandApart", spec := "commandApart", apart := false, narrowed := true }
def CommandApartUptoSaid : Prop := commandApartUptoRow.holds Try.pinned (OpenSpec.upto commandApartSpec)

/-- 'spacecraftlaw39.CommandBack', WHERE WHAT IT READS IS OF BULK AT MOST 1048576: true; the input reads as it did. -/
def commandBackUptoRow : OpenClaim := { program := "ytmfhicbbhncddaa", sum := "ec40185b24793702f4a87ed87fb442e76ae9d201c44720a0cc28fe7463ff3afa", func := "spacecraft/spacecraftlaw39.CommandBack", spec := "commandBack", apart := false, narrowed := true }
def CommandBackUptoSaid : Prop := commandBackUptoRow.holds Try.pinned (OpenSpec.upto commandBackSpec)

/-- 'spacecraftlaw39.CommandTable', WHERE WHAT IT READS IS OF BULK AT MOST 1048576: true; the input reads as it did. -/
def commandTableUptoRow : OpenClaim := { program := "ytmfhicbbhncddaa", sum := "ec40185b24793702f4a87ed87fb442e76ae9d201c44720a0cc28fe7463ff3afa", func := "spacecraft/spacecraftlaw39.CommandTable", spec := "commandTable", apart := false, narrowed := true }
def CommandTableUptoSaid : Prop := commandTableUptoRow.holds Try.pinned (OpenSpec.upto commandTableSpec)

end Rows
end Go.Proofs.Ytmfhicbbhncddaa
