/-
  No cell of these rows narrows 'for every input' (looked for: loops, veiled, ifaces, maps, wideKeys, modest, calm, conditions, laid).
  DERIVED. THE GIVEN ROWS OF THIS SEAT. 5 by the template 'for every input the law returns true; each argument reads behind the call as it read before'; 0 by the template 'total and deterministic' (their statements: YtoohlpieakeecaaTotals.lean).
  GIVEN WITH THE SEED: the statements are not yours to turn. If you find one false, say at which input.
  Laid BY PROGRAM, IN A SANDBOX (cutbox-rows.mjs): the forced cells as the released guide's own fill.sh prints them over the translation fac9bf9d0a02a716… (all of the seat's roots in one cut). By AI agents, Wed Nov 11 2026. No macro, syntax, notation, axiom, sorry.
-/
import Derived.Test.YtoohlpieakeecaaChecked
import GoSem.Claim
import GoSem.ClaimJoined
import GoSem.ClaimMapViews
import Derived.JoinedTies
import Derived.KernelRfl
namespace Go.Proofs.Ytoohlpieakeecaa
/- THE CELL 'sum', in the pinned program and in every row, IS THE sha256 OF THE DUMP (.gsa) THAT YtoohlpieakeecaaProg.lean LOADS. Nothing in Lean hashes anything: it is a label: what it is worth is what the hold of that sum in a sandbox is worth. -/
noncomputable def Try.pinned : Pinned := { name := "ytoohlpieakeecaa", sum := "fac9bf9d0a02a7169a70f36c372caa503b2ab590399541b67dfe65dd57fa1ed6", checked := Try.checked }
namespace Rows
def none {H : Type} : Left H := { results := [], args := [] }

/-- 'spacecraftlaw52.ArchiveFills': WHATEVER THE INPUT: true; the input reads as it did. -/
def archiveFillsSpec : ChangeSpec := { name := "archiveFills", fn := fun _ => fun
  | [d1, d2] => { results := [.lit (.bool true)], args := [d1, d2] }
  | _ => none }
def archiveFillsRow : OpenClaim := { program := "ytoohlpieakeecaa", sum := "fac9bf9d0a02a7169a70f36c372caa503b2ab590399541b67dfe65dd57fa1ed6", func := "spacecraft/spacecraftlaw52.ArchiveFills", spec := "archiveFills", inPlace := ["slices.overlaps[spacecraft/archive.process]", "slices.overlaps[spacecraft/archive.entry]"], unfollowed := true, recurses := true, apart := false }
def ArchiveFillsSaid : Prop := archiveFillsRow.holds Try.pinned (OpenSpec.ofChange archiveFillsSpec)

/-- ITS FALSE NEIGHBOUR: 'it returns false'. Refute it at one input. -/
def archiveFillsWrong : ChangeSpec := { name := "archiveFills", fn := fun _ => fun
  | [d1, d2] => { results := [.lit (.bool false)], args := [d1, d2] }
  | _ => none }
def ArchiveFillsWrongFalsely : Prop := archiveFillsRow.holds Try.pinned (OpenSpec.ofChange archiveFillsWrong)

/-- 'spacecraftlaw52.ArchiveParts': WHATEVER THE INPUT: true; the input reads as it did. -/
def archivePartsSpec : ChangeSpec := { name := "archiveParts", fn := fun _ => fun
  | [d1, d2] => { results := [.lit (.bool true)], args := [d1, d2] }
  | _ => none }
def archivePartsRow : OpenClaim := { program := "ytoohlpieakeecaa", sum := "fac9bf9d0a02a7169a70f36c372caa503b2ab590399541b67dfe65dd57fa1ed6", func := "spacecraft/spacecraftlaw52.ArchiveParts", spec := "archiveParts", inPlace := ["slices.overlaps[spacecraft/archive.process]", "slices.overlaps[spacecraft/archive.entry]"], unfollowed := true, recurses := true, apart := false }
def ArchivePartsSaid : Prop := archivePartsRow.holds Try.pinned (OpenSpec.ofChange archivePartsSpec)

/-- ITS FALSE NEIGHBOUR: 'it returns false'. Refute it at one input. -/
def archivePartsWrong : ChangeSpec := { name := "archiveParts", fn := fun _ => fun
  | [d1, d2] => { results := [.lit (.bool false)], args := [d1, d2] }
  | _ => none }
def ArchivePartsWrongFalsely : Prop := archivePartsRow.holds Try.pinned (OpenSpec.ofChange archivePartsWrong)

/-- 'spacecraftlaw52.ArchiveAdds': WHATEVER THE INPUT: true; the input reads as it did. -/
def archiveAddsSpec : ChangeSpec := { name := "archiveAdds", fn := fun _ => fun
  | [d] => { results := [.lit (.bool true)], args := [d] }
  | _ => none }
def archiveAddsRow : OpenClaim := { program := "ytoohlpieakeecaa", sum := "fac9bf9d0a02a7169a70f36c372caa503b2ab590399541b67dfe65dd57fa1ed6", func := "spacecraft/spacecraftlaw52.ArchiveAdds", spec := "archiveAdds", inPlace := ["slices.overlaps[spacecraft/archive.process]", "slices.overlaps[spacecraft/archive.entry]"], unfollowed := true, recurses := true, apart := false }
def ArchiveAddsSaid : Prop := archiveAddsRow.holds Try.pinned (OpenSpec.ofChange archiveAddsSpec)

/-- ITS FALSE NEIGHBOUR: 'it returns false'. Refute it at one input. -/
def archiveAddsWrong : ChangeSpec := { name := "archiveAdds", fn := fun _ => fun
  | [d] => { results := [.lit (.bool false)], args := [d] }
  | _ => none }
def ArchiveAddsWrongFalsely : Prop := archiveAddsRow.holds Try.pinned (OpenSpec.ofChange archiveAddsWrong)

/-- 'spacecraftlaw52.ArchiveSelects': WHATEVER THE INPUT: true; the input reads as it did. -/
def archiveSelectsSpec : ChangeSpec := { name := "archiveSelects", fn := fun _ => fun
  | [d1, d2, d3] => { results := [.lit (.bool true)], args := [d1, d2, d3] }
  | _ => none }
def archiveSelectsRow : OpenClaim := { program := "ytoohlpieakeecaa", sum := "fac9bf9d0a02a7169a70f36c372caa503b2ab590399541b67dfe65dd57fa1ed6", func := "spacecraft/spacecraftlaw52.ArchiveSelects", spec := "archiveSelects", inPlace := ["slices.overlaps[spacecraft/archive.process]", "slices.overlaps[spacecraft/archive.entry]"], unfollowed := true, recurses := true, apart := false }
def ArchiveSelectsSaid : Prop := archiveSelectsRow.holds Try.pinned (OpenSpec.ofChange archiveSelectsSpec)

/-- ITS FALSE NEIGHBOUR: 'it returns false'. Refute it at one input. -/
def archiveSelectsWrong : ChangeSpec := { name := "archiveSelects", fn := fun _ => fun
  | [d1, d2, d3] => { results := [.lit (.bool false)], args := [d1, d2, d3] }
  | _ => none }
def ArchiveSelectsWrongFalsely : Prop := archiveSelectsRow.holds Try.pinned (OpenSpec.ofChange archiveSelectsWrong)

/-- 'spacecraftlaw52.ArchiveNone': WHATEVER THE INPUT: true; the input reads as it did. -/
def archiveNoneSpec : ChangeSpec := { name := "archiveNone", fn := fun _ => fun
  | [d] => { results := [.lit (.bool true)], args := [d] }
  | _ => none }
def archiveNoneRow : OpenClaim := { program := "ytoohlpieakeecaa", sum := "fac9bf9d0a02a7169a70f36c372caa503b2ab590399541b67dfe65dd57fa1ed6", func := "spacecraft/spacecraftlaw52.ArchiveNone", spec := "archiveNone", inPlace := ["slices.overlaps[spacecraft/archive.process]", "slices.overlaps[spacecraft/archive.entry]"], unfollowed := true, recurses := true, apart := false }
def ArchiveNoneSaid : Prop := archiveNoneRow.holds Try.pinned (OpenSpec.ofChange archiveNoneSpec)

/-- ITS FALSE NEIGHBOUR: 'it returns false'. Refute it at one input. -/
def archiveNoneWrong : ChangeSpec := { name := "archiveNone", fn := fun _ => fun
  | [d] => { results := [.lit (.bool false)], args := [d] }
  | _ => none }
def ArchiveNoneWrongFalsely : Prop := archiveNoneRow.holds Try.pinned (OpenSpec.ofChange archiveNoneWrong)

/- THE SECOND FORM. 'bulk': how many values and letters a reading holds, each counted each time it is reached (what is shared counts as often as it is met; a slice's spare places count too). A statement '..UptoSaid' is the law's where the arguments, and the package variables that the reading takes, are together of bulk at most 1048576: NARROWER than '..Said'. Prove '..Said' where nothing that the law and all that it calls make is longer than what came in: it says more and counts as full. Else prove '..UptoSaid'. A law counts once. -/
mutual
def uptoBulk {H : Type} : DataW H → Nat
  | .lit (.string bytes) => bytes.length + 1
  | .lit _ => 1
  | .nil => 1
  | .ptr d => uptoBulk d + 1
  | .slice elems spare => uptoBulkAll elems + uptoBulkAll spare + 1
  | .agg parts => uptoBulkAll parts + 1
  | .iface _ d => uptoBulk d + 1
  | .map entries => uptoBulkEntries entries + 1
  | .held _ => 1
def uptoBulkAll {H : Type} : List (DataW H) → Nat
  | [] => 0
  | d :: r => uptoBulk d + uptoBulkAll r
def uptoBulkEntries {H : Type} : List (Lit × DataW H) → Nat
  | [] => 0
  | x :: r => uptoBulkEntry x + uptoBulkEntries r
def uptoBulkEntry {H : Type} : Lit × DataW H → Nat
  | (.string bytes, d) => bytes.length + uptoBulk d + 1
  | (_, d) => uptoBulk d + 1
 end
def uptoSmall : (H : Type) → List (DataW H) → Bool := fun _ ds => decide (uptoBulkAll ds ≤ 1048576)
def OpenSpec.upto (s : _root_.Go.ChangeSpec) : _root_.Go.OpenSpec := { _root_.Go.OpenSpec.ofChange s with cond := some uptoSmall }

/-- 'spacecraftlaw52.ArchiveFills', WHERE WHAT IT READS IS OF BULK AT MOST 1048576: true; the input reads as it did. -/
def archiveFillsUptoRow : OpenClaim := { program := "ytoohlpieakeecaa", sum := "fac9bf9d0a02a7169a70f36c372caa503b2ab590399541b67dfe65dd57fa1ed6", func := "spacecraft/spacecraftlaw52.ArchiveFills", spec := "archiveFills", inPlace := ["slices.overlaps[spacecraft/archive.process]", "slices.overlaps[spacecraft/archive.entry]"], unfollowed := true, recurses := true, apart := false, narrowed := true }
def ArchiveFillsUptoSaid : Prop := archiveFillsUptoRow.holds Try.pinned (OpenSpec.upto archiveFillsSpec)

/-- 'spacecraftlaw52.ArchiveParts', WHERE WHAT IT READS IS OF BULK AT MOST 1048576: true; the input reads as it did. -/
def archivePartsUptoRow : OpenClaim := { program := "ytoohlpieakeecaa", sum := "fac9bf9d0a02a7169a70f36c372caa503b2ab590399541b67dfe65dd57fa1ed6", func := "spacecraft/spacecraftlaw52.ArchiveParts", spec := "archiveParts", inPlace := ["slices.overlaps[spacecraft/archive.process]", "slices.overlaps[spacecraft/archive.entry]"], unfollowed := true, recurses := true, apart := false, narrowed := true }
def ArchivePartsUptoSaid : Prop := archivePartsUptoRow.holds Try.pinned (OpenSpec.upto archivePartsSpec)

/-- 'spacecraftlaw52.ArchiveAdds', WHERE WHAT IT READS IS OF BULK AT MOST 1048576: true; the input reads as it did. -/
def archiveAddsUptoRow : OpenClaim := { program := "ytoohlpieakeecaa", sum := "fac9bf9d0a02a7169a70f36c372caa503b2ab590399541b67dfe65dd57fa1ed6", func := "spacecraft/spacecraftlaw52.ArchiveAdds", spec := "archiveAdds", inPlace := ["slices.overlaps[spacecraft/archive.process]", "slices.overlaps[spacecraft/archive.entry]"], unfollowed := true, recurses := true, apart := false, narrowed := true }
def ArchiveAddsUptoSaid : Prop := archiveAddsUptoRow.holds Try.pinned (OpenSpec.upto archiveAddsSpec)

/-- 'spacecraftlaw52.ArchiveSelects', WHERE WHAT IT READS IS OF BULK AT MOST 1048576: true; the input reads as it did. -/
def archiveSelectsUptoRow : OpenClaim := { program := "ytoohlpieakeecaa", sum := "fac9bf9d0a02a7169a70f36c372caa503b2ab590399541b67dfe65dd57fa1ed6", func := "spacecraft/spacecraftlaw52.ArchiveSelects", spec := "archiveSelects", inPlace := ["slices.overlaps[spacecraft/archive.process]", "slices.overlaps[spacecraft/archive.entry]"], unfollowed := true, recurses := true, apart := false, narrowed := true }
def ArchiveSelectsUptoSaid : Prop := archiveSelectsUptoRow.holds Try.pinned (OpenSpec.upto archiveSelectsSpec)

/-- 'spacecraftlaw52.ArchiveNone', WHERE WHAT IT READS IS OF BULK AT MOST 1048576: true; the input reads as it did. -/
def archiveNoneUptoRow : OpenClaim := { program := "ytoohlpieakeecaa", sum := "fac9bf9d0a02a7169a70f36c372caa503b2ab590399541b67dfe65dd57fa1ed6", func := "spacecraft/spacecraftlaw52.ArchiveNone", spec := "archiveNone", inPlace := ["slices.overlaps[spacecraft/archive.process]", "slices.overlaps[spacecraft/archive.entry]"], unfollowed := true, recurses := true, apart := false, narrowed := true }
def ArchiveNoneUptoSaid : Prop := archiveNoneUptoRow.holds Try.pinned (OpenSpec.upto archiveNoneSpec)

end Rows
end Go.Proofs.Ytoohlpieakeecaa
