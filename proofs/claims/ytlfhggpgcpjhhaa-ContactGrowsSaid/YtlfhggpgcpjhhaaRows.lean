/-
  No cell of these rows narrows 'for every input' (looked for: loops, veiled, ifaces, maps, wideKeys, modest, calm, conditions, laid).
  DERIVED. THE GIVEN ROWS OF THIS SEAT. 5 by the template 'for every input the law returns true; each argument reads behind the call as it read before'; 0 by the template 'total and deterministic' (their statements: YtlfhggpgcpjhhaaTotals.lean).
  GIVEN WITH THE SEED: the statements are not yours to turn. If you find one false, say at which input.
  Laid BY PROGRAM, IN A SANDBOX (cutbox-rows.mjs): the forced cells as the released guide's own fill.sh prints them over the translation d4e6cc4441ef589a… (all of the seat's roots in one cut). By AI agents, Wed Nov 11 2026. No macro, syntax, notation, axiom, sorry.
-/
import Derived.Test.YtlfhggpgcpjhhaaChecked
import GoSem.Claim
import GoSem.ClaimJoined
import GoSem.ClaimMapViews
import Derived.JoinedTies
import Derived.KernelRfl
namespace Go.Proofs.Ytlfhggpgcpjhhaa
/- THE CELL 'sum', in the pinned program and in every row, IS THE sha256 OF THE DUMP (.gsa) THAT YtlfhggpgcpjhhaaProg.lean LOADS. Nothing in Lean hashes anything: it is a label: what it is worth is what the hold of that sum in a sandbox is worth. -/
noncomputable def Try.pinned : Pinned := { name := "ytlfhggpgcpjhhaa", sum := "d4e6cc4441ef589aa4c8d4dab420077e94d811a93de0b403cc344fc041e06faf", checked := Try.checked }
namespace Rows
def none {H : Type} : Left H := { results := [], args := [] }

/-- 'spacecraftlaw53.ContactPlans': WHATEVER THE INPUT: true; the input reads as it did. -/
def contactPlansSpec : ChangeSpec := { name := "contactPlans", fn := fun _ => fun
  | [d1, d2] => { results := [.lit (.bool true)], args := [d1, d2] }
  | _ => none }
def contactPlansRow : OpenClaim := { program := "ytlfhggpgcpjhhaa", sum := "d4e6cc4441ef589aa4c8d4dab420077e94d811a93de0b403cc344fc041e06faf", func := "spacecraft/spacecraftlaw53.ContactPlans", spec := "contactPlans", unfollowed := true, recurses := true, apart := false }
def ContactPlansSaid : Prop := contactPlansRow.holds Try.pinned (OpenSpec.ofChange contactPlansSpec)

/-- ITS FALSE NEIGHBOUR: 'it returns false'. Refute it at one input. -/
def contactPlansWrong : ChangeSpec := { name := "contactPlans", fn := fun _ => fun
  | [d1, d2] => { results := [.lit (.bool false)], args := [d1, d2] }
  | _ => none }
def ContactPlansWrongFalsely : Prop := contactPlansRow.holds Try.pinned (OpenSpec.ofChange contactPlansWrong)

/-- 'spacecraftlaw53.ContactReads': WHATEVER THE INPUT: true; the input reads as it did. -/
def contactReadsSpec : ChangeSpec := { name := "contactReads", fn := fun _ => fun
  | [d1, d2, d3] => { results := [.lit (.bool true)], args := [d1, d2, d3] }
  | _ => none }
def contactReadsRow : OpenClaim := { program := "ytlfhggpgcpjhhaa", sum := "d4e6cc4441ef589aa4c8d4dab420077e94d811a93de0b403cc344fc041e06faf", func := "spacecraft/spacecraftlaw53.ContactReads", spec := "contactReads", unfollowed := true, recurses := true, apart := false }
def ContactReadsSaid : Prop := contactReadsRow.holds Try.pinned (OpenSpec.ofChange contactReadsSpec)

/-- ITS FALSE NEIGHBOUR: 'it returns false'. Refute it at one input. -/
def contactReadsWrong : ChangeSpec := { name := "contactReads", fn := fun _ => fun
  | [d1, d2, d3] => { results := [.lit (.bool false)], args := [d1, d2, d3] }
  | _ => none }
def ContactReadsWrongFalsely : Prop := contactReadsRow.holds Try.pinned (OpenSpec.ofChange contactReadsWrong)

/-- 'spacecraftlaw53.ContactBest': WHATEVER THE INPUT: true; the input reads as it did. -/
def contactBestSpec : ChangeSpec := { name := "contactBest", fn := fun _ => fun
  | [d1, d2] => { results := [.lit (.bool true)], args := [d1, d2] }
  | _ => none }
def contactBestRow : OpenClaim := { program := "ytlfhggpgcpjhhaa", sum := "d4e6cc4441ef589aa4c8d4dab420077e94d811a93de0b403cc344fc041e06faf", func := "spacecraft/spacecraftlaw53.ContactBest", spec := "contactBest", unfollowed := true, recurses := true, apart := false }
def ContactBestSaid : Prop := contactBestRow.holds Try.pinned (OpenSpec.ofChange contactBestSpec)

/-- ITS FALSE NEIGHBOUR: 'it returns false'. Refute it at one input. -/
def contactBestWrong : ChangeSpec := { name := "contactBest", fn := fun _ => fun
  | [d1, d2] => { results := [.lit (.bool false)], args := [d1, d2] }
  | _ => none }
def ContactBestWrongFalsely : Prop := contactBestRow.holds Try.pinned (OpenSpec.ofChange contactBestWrong)

/-- 'spacecraftlaw53.ContactGrows': WHATEVER THE INPUT: true; the input reads as it did. -/
def contactGrowsSpec : ChangeSpec := { name := "contactGrows", fn := fun _ => fun
  | [d1, d2, d3, d4] => { results := [.lit (.bool true)], args := [d1, d2, d3, d4] }
  | _ => none }
def contactGrowsRow : OpenClaim := { program := "ytlfhggpgcpjhhaa", sum := "d4e6cc4441ef589aa4c8d4dab420077e94d811a93de0b403cc344fc041e06faf", func := "spacecraft/spacecraftlaw53.ContactGrows", spec := "contactGrows", unfollowed := true, recurses := true, apart := false }
def ContactGrowsSaid : Prop := contactGrowsRow.holds Try.pinned (OpenSpec.ofChange contactGrowsSpec)

/-- ITS FALSE NEIGHBOUR: 'it returns false'. Refute it at one input. -/
def contactGrowsWrong : ChangeSpec := { name := "contactGrows", fn := fun _ => fun
  | [d1, d2, d3, d4] => { results := [.lit (.bool false)], args := [d1, d2, d3, d4] }
  | _ => none }
def ContactGrowsWrongFalsely : Prop := contactGrowsRow.holds Try.pinned (OpenSpec.ofChange contactGrowsWrong)

/-- 'spacecraftlaw53.ContactCovers': WHATEVER THE INPUT: true; the input reads as it did. -/
def contactCoversSpec : ChangeSpec := { name := "contactCovers", fn := fun _ => fun
  | [d1, d2] => { results := [.lit (.bool true)], args := [d1, d2] }
  | _ => none }
def contactCoversRow : OpenClaim := { program := "ytlfhggpgcpjhhaa", sum := "d4e6cc4441ef589aa4c8d4dab420077e94d811a93de0b403cc344fc041e06faf", func := "spacecraft/spacecraftlaw53.ContactCovers", spec := "contactCovers", unfollowed := true, recurses := true, apart := false }
def ContactCoversSaid : Prop := contactCoversRow.holds Try.pinned (OpenSpec.ofChange contactCoversSpec)

/-- ITS FALSE NEIGHBOUR: 'it returns false'. Refute it at one input. -/
def contactCoversWrong : ChangeSpec := { name := "contactCovers", fn := fun _ => fun
  | [d1, d2] => { results := [.lit (.bool false)], args := [d1, d2] }
  | _ => none }
def ContactCoversWrongFalsely : Prop := contactCoversRow.holds Try.pinned (OpenSpec.ofChange contactCoversWrong)

/- THE SECOND FORM. 'bulk': how many values and letters a reading holds, each counted each time it is reached (what is shared counts as often as it is met; a slice's spare places count too). A statement '..UptoSaid' is the law's where the arguments, and the package variables that the reading takes, are together of bulk at most 1048576: NARROWER than '..Said'. Prove '..Said' where nothing that the law and all that it calls make is longer than what came in: it says more and counts as full. Else prove '..UptoSaid'. A law counts once. -/
mutual
def uptoBulk {H : Type} : DataW H → Nat
  | .lit (.string bytes) => bytes.length + 1
  | .lit _ => 1
  | .nil => 1
  | .ptr d => uptoBulk d + 1
  | .slice elems spare => uptoBulkAll elems + uptoBulkAll spare + 1
  | .agg parts => uptoBulkAll parts + 1
  | .iface _ d => uptoBulk d + 1
  | .map entries => uptoBulkEntries entries + 1
  | .held _ => 1
def uptoBulkAll {H : Type} : List (DataW H) → Nat
  | [] => 0
  | d :: r => uptoBulk d + uptoBulkAll r
def uptoBulkEntries {H : Type} : List (Lit × DataW H) → Nat
  | [] => 0
  | x :: r => uptoBulkEntry x + uptoBulkEntries r
def uptoBulkEntry {H : Type} : Lit × DataW H → Nat
  | (.string bytes, d) => bytes.length + uptoBulk d + 1
  | (_, d) => uptoBulk d + 1
 end
def uptoSmall : (H : Type) → List (DataW H) → Bool := fun _ ds => decide (uptoBulkAll ds ≤ 1048576)
def OpenSpec.upto (s : _root_.Go.ChangeSpec) : _root_.Go.OpenSpec := { _root_.Go.OpenSpec.ofChange s with cond := some uptoSmall }

/-- 'spacecraftlaw53.ContactPlans', WHERE WHAT IT READS IS OF BULK AT MOST 1048576: true; the input reads as it did. -/
def contactPlansUptoRow : OpenClaim := { program := "ytlfhggpgcpjhhaa", sum := "d4e6cc4441ef589aa4c8d4dab420077e94d811a93de0b403cc344fc041e06faf", func := "spacecraft/spacecraftlaw53.ContactPlans", spec := "contactPlans", unfollowed := true, recurses := true, apart := false, narrowed := true }
def ContactPlansUptoSaid : Prop := contactPlansUptoRow.holds Try.pinned (OpenSpec.upto contactPlansSpec)

/-- 'spacecraftlaw53.ContactReads', WHERE WHAT IT READS IS OF BULK AT MOST 1048576: true; the input reads as it did. -/
def contactReadsUptoRow : OpenClaim := { program := "ytlfhggpgcpjhhaa", sum := "d4e6cc4441ef589aa4c8d4dab420077e94d811a93de0b403cc344fc041e06faf", func := "spacecraft/spacecraftlaw53.ContactReads", spec := "contactReads", unfollowed := true, recurses := true, apart := false, narrowed := true }
def ContactReadsUptoSaid : Prop := contactReadsUptoRow.holds Try.pinned (OpenSpec.upto contactReadsSpec)

/-- 'spacecraftlaw53.ContactBest', WHERE WHAT IT READS IS OF BULK AT MOST 1048576: true; the input reads as it did. -/
def contactBestUptoRow : OpenClaim := { program := "ytlfhggpgcpjhhaa", sum := "d4e6cc4441ef589aa4c8d4dab420077e94d811a93de0b403cc344fc041e06faf", func := "spacecraft/spacecraftlaw53.ContactBest", spec := "contactBest", unfollowed := true, recurses := true, apart := false, narrowed := true }
def ContactBestUptoSaid : Prop := contactBestUptoRow.holds Try.pinned (OpenSpec.upto contactBestSpec)

/-- 'spacecraftlaw53.ContactGrows', WHERE WHAT IT READS IS OF BULK AT MOST 1048576: true; the input reads as it did. -/
def contactGrowsUptoRow : OpenClaim := { program := "ytlfhggpgcpjhhaa", sum := "d4e6cc4441ef589aa4c8d4dab420077e94d811a93de0b403cc344fc041e06faf", func := "spacecraft/spacecraftlaw53.ContactGrows", spec := "contactGrows", unfollowed := true, recurses := true, apart := false, narrowed := true }
def ContactGrowsUptoSaid : Prop := contactGrowsUptoRow.holds Try.pinned (OpenSpec.upto contactGrowsSpec)

/-- 'spacecraftlaw53.ContactCovers', WHERE WHAT IT READS IS OF BULK AT MOST 1048576: true; the input reads as it did. -/
def contactCoversUptoRow : OpenClaim := { program := "ytlfhggpgcpjhhaa", sum := "d4e6cc4441ef589aa4c8d4dab420077e94d811a93de0b403cc344fc041e06faf", func := "spacecraft/spacecraftlaw53.ContactCovers", spec := "contactCovers", unfollowed := true, recurses := true, apart := false, narrowed := true }
def ContactCoversUptoSaid : Prop := contactCoversUptoRow.holds Try.pinned (OpenSpec.upto contactCoversSpec)

end Rows
end Go.Proofs.Ytlfhggpgcpjhhaa
