/-
  No cell of these rows narrows 'for every input' (looked for: loops, veiled, ifaces, maps, wideKeys, modest, calm, conditions, laid).
  DERIVED. THE GIVEN ROWS OF THIS SEAT. 7 by the template 'for every input the law returns true; each argument reads behind the call as it read before'; 0 by the template 'total and deterministic' (their statements: YtnhhgmoadpiklaaTotals.lean).
  GIVEN WITH THE SEED: the statements are not yours to turn. If you find one false, say at which input.
  Laid BY PROGRAM, IN A SANDBOX (cutbox-rows.mjs): the forced cells as the released guide's own fill.sh prints them over the translation e430094bbac84cf0… (all of the seat's roots in one cut). By AI agents, Wed Nov 11 2026. No macro, syntax, notation, axiom, sorry.
-/
import Derived.Test.YtnhhgmoadpiklaaChecked
import GoSem.Claim
import GoSem.ClaimJoined
import GoSem.ClaimMapViews
import Derived.JoinedTies
import Derived.KernelRfl
namespace Go.Proofs.Ytnhhgmoadpiklaa
/- THE CELL 'sum', in the pinned program and in every row, IS THE sha256 OF THE DUMP (.gsa) THAT YtnhhgmoadpiklaaProg.lean LOADS. Nothing in Lean hashes anything: it is a label: what it is worth is what the hold of that sum in a sandbox is worth. -/
noncomputable def Try.pinned : Pinned := { name := "ytnhhgmoadpiklaa", sum := "e430094bbac84cf049fed80ecad0ead1bdc2af49d37748fdbc6e28271c4c5d8e", checked := Try.checked }
namespace Rows
def none {H : Type} : Left H := { results := [], args := [] }

/-- 'spacecraftlaw42.SchedulePlays': WHATEVER THE INPUT: true; the input reads as it did. -/
def schedulePlaysSpec : ChangeSpec := { name := "schedulePlays", fn := fun _ => fun
  | [d1, d2] => { results := [.lit (.bool true)], args := [d1, d2] }
  | _ => none }
def schedulePlaysRow : OpenClaim := { program := "ytnhhgmoadpiklaa", sum := "e430094bbac84cf049fed80ecad0ead1bdc2af49d37748fdbc6e28271c4c5d8e", func := "spacecraft/spacecraftlaw42.SchedulePlays", spec := "schedulePlays", unfollowed := true, recurses := true, apart := false }
def SchedulePlaysSaid : Prop := schedulePlaysRow.holds Try.pinned (OpenSpec.ofChange schedulePlaysSpec)

/-- ITS FALSE NEIGHBOUR: 'it returns false'. Refute it at one input. -/
def schedulePlaysWrong : ChangeSpec := { name := "schedulePlays", fn := fun _ => fun
  | [d1, d2] => { results := [.lit (.bool false)], args := [d1, d2] }
  | _ => none }
def SchedulePlaysWrongFalsely : Prop := schedulePlaysRow.holds Try.pinned (OpenSpec.ofChange schedulePlaysWrong)

/-- 'spacecraftlaw42.ScheduleOrders': WHATEVER THE INPUT: true; the input reads as it did. -/
def scheduleOrdersSpec : ChangeSpec := { name := "scheduleOrders", fn := fun _ => fun
  | [d1, d2] => { results := [.lit (.bool true)], args := [d1, d2] }
  | _ => none }
def scheduleOrdersRow : OpenClaim := { program := "ytnhhgmoadpiklaa", sum := "e430094bbac84cf049fed80ecad0ead1bdc2af49d37748fdbc6e28271c4c5d8e", func := "spacecraft/spacecraftlaw42.ScheduleOrders", spec := "scheduleOrders", unfollowed := true, recurses := true, apart := false }
def ScheduleOrdersSaid : Prop := scheduleOrdersRow.holds Try.pinned (OpenSpec.ofChange scheduleOrdersSpec)

/-- ITS FALSE NEIGHBOUR: 'it returns false'. Refute it at one input. -/
def scheduleOrdersWrong : ChangeSpec := { name := "scheduleOrders", fn := fun _ => fun
  | [d1, d2] => { results := [.lit (.bool false)], args := [d1, d2] }
  | _ => none }
def ScheduleOrdersWrongFalsely : Prop := scheduleOrdersRow.holds Try.pinned (OpenSpec.ofChange scheduleOrdersWrong)

/-- 'spacecraftlaw42.ScheduleClones': WHATEVER THE INPUT: true; the input reads as it did. -/
def scheduleClonesSpec : ChangeSpec := { name := "scheduleClones", fn := fun _ => fun
  | [d1, d2] => { results := [.lit (.bool true)], args := [d1, d2] }
  | _ => none }
def scheduleClonesRow : OpenClaim := { program := "ytnhhgmoadpiklaa", sum := "e430094bbac84cf049fed80ecad0ead1bdc2af49d37748fdbc6e28271c4c5d8e", func := "spacecraft/spacecraftlaw42.ScheduleClones", spec := "scheduleClones", unfollowed := true, recurses := true, apart := false }
def ScheduleClonesSaid : Prop := scheduleClonesRow.holds Try.pinned (OpenSpec.ofChange scheduleClonesSpec)

/-- ITS FALSE NEIGHBOUR: 'it returns false'. Refute it at one input. -/
def scheduleClonesWrong : ChangeSpec := { name := "scheduleClones", fn := fun _ => fun
  | [d1, d2] => { results := [.lit (.bool false)], args := [d1, d2] }
  | _ => none }
def ScheduleClonesWrongFalsely : Prop := scheduleClonesRow.holds Try.pinned (OpenSpec.ofChange scheduleClonesWrong)

/-- 'spacecraftlaw42.ScheduleRestores': WHATEVER THE INPUT: true; the input reads as it did. -/
def scheduleRestoresSpec : ChangeSpec := { name := "scheduleRestores", fn := fun _ => fun
  | [d1, d2, d3] => { results := [.lit (.bool true)], args := [d1, d2, d3] }
  | _ => none }
def scheduleRestoresRow : OpenClaim := { program := "ytnhhgmoadpiklaa", sum := "e430094bbac84cf049fed80ecad0ead1bdc2af49d37748fdbc6e28271c4c5d8e", func := "spacecraft/spacecraftlaw42.ScheduleRestores", spec := "scheduleRestores", unfollowed := true, recurses := true, apart := false }
def ScheduleRestoresSaid : Prop := scheduleRestoresRow.holds Try.pinned (OpenSpec.ofChange scheduleRestoresSpec)

/-- ITS FALSE NEIGHBOUR: 'it returns false'. Refute it at one input. -/
def scheduleRestoresWrong : ChangeSpec := { name := "scheduleRestores", fn := fun _ => fun
  | [d1, d2, d3] => { results := [.lit (.bool false)], args := [d1, d2, d3] }
  | _ => none }
def ScheduleRestoresWrongFalsely : Prop := scheduleRestoresRow.holds Try.pinned (OpenSpec.ofChange scheduleRestoresWrong)

/-- 'spacecraftlaw42.ScheduleAgain': WHATEVER THE INPUT: true; the input reads as it did. -/
def scheduleAgainSpec : ChangeSpec := { name := "scheduleAgain", fn := fun _ => fun
  | [d1, d2] => { results := [.lit (.bool true)], args := [d1, d2] }
  | _ => none }
def scheduleAgainRow : OpenClaim := { program := "ytnhhgmoadpiklaa", sum := "e430094bbac84cf049fed80ecad0ead1bdc2af49d37748fdbc6e28271c4c5d8e", func := "spacecraft/spacecraftlaw42.ScheduleAgain", spec := "scheduleAgain", unfollowed := true, recurses := true, apart := false }
def ScheduleAgainSaid : Prop := scheduleAgainRow.holds Try.pinned (OpenSpec.ofChange scheduleAgainSpec)

/-- ITS FALSE NEIGHBOUR: 'it returns false'. Refute it at one input. -/
def scheduleAgainWrong : ChangeSpec := { name := "scheduleAgain", fn := fun _ => fun
  | [d1, d2] => { results := [.lit (.bool false)], args := [d1, d2] }
  | _ => none }
def ScheduleAgainWrongFalsely : Prop := scheduleAgainRow.holds Try.pinned (OpenSpec.ofChange scheduleAgainWrong)

/-- 'spacecraftlaw42.ScheduleEncodes': WHATEVER THE INPUT: true; the input reads as it did. -/
def scheduleEncodesSpec : ChangeSpec := { name := "scheduleEncodes", fn := fun _ => fun
  | [d] => { results := [.lit (.bool true)], args := [d] }
  | _ => none }
def scheduleEncodesRow : OpenClaim := { program := "ytnhhgmoadpiklaa", sum := "e430094bbac84cf049fed80ecad0ead1bdc2af49d37748fdbc6e28271c4c5d8e", func := "spacecraft/spacecraftlaw42.ScheduleEncodes", spec := "scheduleEncodes", unfollowed := true, recurses := true, apart := false }
def ScheduleEncodesSaid : Prop := scheduleEncodesRow.holds Try.pinned (OpenSpec.ofChange scheduleEncodesSpec)

/-- ITS FALSE NEIGHBOUR: 'it returns false'. Refute it at one input. -/
def scheduleEncodesWrong : ChangeSpec := { name := "scheduleEncodes", fn := fun _ => fun
  | [d] => { results := [.lit (.bool false)], args := [d] }
  | _ => none }
def ScheduleEncodesWrongFalsely : Prop := scheduleEncodesRow.holds Try.pinned (OpenSpec.ofChange scheduleEncodesWrong)

/-- 'spacecraftlaw42.ScheduleDecodes': WHATEVER THE INPUT: true; the input reads as it did. -/
def scheduleDecodesSpec : ChangeSpec := { name := "scheduleDecodes", fn := fun _ => fun
  | [d] => { results := [.lit (.bool true)], args := [d] }
  | _ => none }
def scheduleDecodesRow : OpenClaim := { program := "ytnhhgmoadpiklaa", sum := "e430094bbac84cf049fed80ecad0ead1bdc2af49d37748fdbc6e28271c4c5d8e", func := "spacecraft/spacecraftlaw42.ScheduleDecodes", spec := "scheduleDecodes", unfollowed := true, recurses := true, apart := false }
def ScheduleDecodesSaid : Prop := scheduleDecodesRow.holds Try.pinned (OpenSpec.ofChange scheduleDecodesSpec)

/-- ITS FALSE NEIGHBOUR: 'it returns false'. Refute it at one input. -/
def scheduleDecodesWrong : ChangeSpec := { name := "scheduleDecodes", fn := fun _ => fun
  | [d] => { results := [.lit (.bool false)], args := [d] }
  | _ => none }
def ScheduleDecodesWrongFalsely : Prop := scheduleDecodesRow.holds Try.pinned (OpenSpec.ofChange scheduleDecodesWrong)

/- THE SECOND FORM. 'bulk': how many values and letters a reading holds, each counted each time it is reached (what is shared counts as often as it is met; a slice's spare places count too). A statement '..UptoSaid' is the law's where the arguments, and the package variables that the reading takes, are together of bulk at most 1048576: NARROWER than '..Said'. Prove '..Said' where nothing that the law and all that it calls make is longer than what came in: it says more and counts as full. Else prove '..UptoSaid'. A law counts once. -/
mutual
def uptoBulk {H : Type} : DataW H → Nat
  | .lit (.string bytes) => bytes.length + 1
  | .lit _ => 1
  | .nil => 1
  | .ptr d => uptoBulk d + 1
  | .slice elems spare => uptoBulkAll elems + uptoBulkAll spare + 1
  | .agg parts => uptoBulkAll parts + 1
  | .iface _ d => uptoBulk d + 1
  | .map entries => uptoBulkEntries entries + 1
  | .held _ => 1
def uptoBulkAll {H : Type} : List (DataW H) → Nat
  | [] => 0
  | d :: r => uptoBulk d + uptoBulkAll r
def uptoBulkEntries {H : Type} : List (Lit × DataW H) → Nat
  | [] => 0
  | x :: r => uptoBulkEntry x + uptoBulkEntries r
def uptoBulkEntry {H : Type} : Lit × DataW H → Nat
  | (.string bytes, d) => bytes.length + uptoBulk d + 1
  | (_, d) => uptoBulk d + 1
 end
def uptoSmall : (H : Type) → List (DataW H) → Bool := fun _ ds => decide (uptoBulkAll ds ≤ 1048576)
def OpenSpec.upto (s : _root_.Go.ChangeSpec) : _root_.Go.OpenSpec := { _root_.Go.OpenSpec.ofChange s with cond := some uptoSmall }

/-- 'spacecraftlaw42.SchedulePlays', WHERE WHAT IT READS IS OF BULK AT MOST 1048576: true; the input reads as it did. -/
def schedulePlaysUptoRow : OpenClaim := { program := "ytnhhgmoadpiklaa", sum := "e430094bbac84cf049fed80ecad0ead1bdc2af49d37748fdbc6e28271c4c5d8e", func := "spacecraft/spacecraftlaw42.SchedulePlays", spec := "schedulePlays", unfollowed := true, recurses := true, apart := false, narrowed := true }
def SchedulePlaysUptoSaid : Prop := schedulePlaysUptoRow.holds Try.pinned (OpenSpec.upto schedulePlaysSpec)

/-- 'spacecraftlaw42.ScheduleOrders', WHERE WHAT IT READS IS OF BULK AT MOST 1048576: true; the input reads as it did. -/
def scheduleOrdersUptoRow : OpenClaim := { program := "ytnhhgmoadpiklaa", sum := "e430094bbac84cf049fed80ecad0ead1bdc2af49d37748fdbc6e28271c4c5d8e", func := "spacecraft/spacecraftlaw42.ScheduleOrders", spec := "scheduleOrders", unfollowed := true, recurses := true, apart := false, narrowed := true }
def ScheduleOrdersUptoSaid : Prop := scheduleOrdersUptoRow.holds Try.pinned (OpenSpec.upto scheduleOrdersSpec)

/-- 'spacecraftlaw42.ScheduleClones', WHERE WHAT IT READS IS OF BULK AT MOST 1048576: true; the input reads as it did. -/
def scheduleClonesUptoRow : OpenClaim := { program := "ytnhhgmoadpiklaa", sum := "e430094bbac84cf049fed80ecad0ead1bdc2af49d37748fdbc6e28271c4c5d8e", func := "spacecraft/spacecraftlaw42.ScheduleClones", spec := "scheduleClones", unfollowed := true, recurses := true, apart := false, narrowed := true }
def ScheduleClonesUptoSaid : Prop := scheduleClonesUptoRow.holds Try.pinned (OpenSpec.upto scheduleClonesSpec)

/-- 'spacecraftlaw42.ScheduleRestores', WHERE WHAT IT READS IS OF BULK AT MOST 1048576: true; the input reads as it did. -/
def scheduleRestoresUptoRow : OpenClaim := { program := "ytnhhgmoadpiklaa", sum := "e430094bbac84cf049fed80ecad0ead1bdc2af49d37748fdbc6e28271c4c5d8e", func := "spacecraft/spacecraftlaw42.ScheduleRestores", spec := "scheduleRestores", unfollowed := true, recurses := true, apart := false, narrowed := true }
def ScheduleRestoresUptoSaid : Prop := scheduleRestoresUptoRow.holds Try.pinned (OpenSpec.upto scheduleRestoresSpec)

/-- 'spacecraftlaw42.ScheduleAgain', WHERE WHAT IT READS IS OF BULK AT MOST 1048576: true; the input reads as it did. -/
def scheduleAgainUptoRow : OpenClaim := { program := "ytnhhgmoadpiklaa", sum := "e430094bbac84cf049fed80ecad0ead1bdc2af49d37748fdbc6e28271c4c5d8e", func := "spacecraft/spacecraftlaw42.ScheduleAgain", spec := "scheduleAgain", unfollowed := true, recurses := true, apart := false, narrowed := true }
def ScheduleAgainUptoSaid : Prop := scheduleAgainUptoRow.holds Try.pinned (OpenSpec.upto scheduleAgainSpec)

/-- 'spacecraftlaw42.ScheduleEncodes', WHERE WHAT IT READS IS OF BULK AT MOST 1048576: true; the input reads as it did. -/
def scheduleEncodesUptoRow : OpenClaim := { program := "ytnhhgmoadpiklaa", sum := "e430094bbac84cf049fed80ecad0ead1bdc2af49d37748fdbc6e28271c4c5d8e", func := "spacecraft/spacecraftlaw42.ScheduleEncodes", spec := "scheduleEncodes", unfollowed := true, recurses := true, apart := false, narrowed := true }
def ScheduleEncodesUptoSaid : Prop := scheduleEncodesUptoRow.holds Try.pinned (OpenSpec.upto scheduleEncodesSpec)

/-- 'spacecraftlaw42.ScheduleDecodes', WHERE WHAT IT READS IS OF BULK AT MOST 1048576: true; the input reads as it did. -/
def scheduleDecodesUptoRow : OpenClaim := { program := "ytnhhgmoadpiklaa", sum := "e430094bbac84cf049fed80ecad0ead1bdc2af49d37748fdbc6e28271c4c5d8e", func := "spacecraft/spacecraftlaw42.ScheduleDecodes", spec := "scheduleDecodes", unfollowed := true, recurses := true, apart := false, narrowed := true }
def ScheduleDecodesUptoSaid : Prop := scheduleDecodesUptoRow.holds Try.pinned (OpenSpec.upto scheduleDecodesSpec)

end Rows
end Go.Proofs.Ytnhhgmoadpiklaa
