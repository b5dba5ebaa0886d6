/-
  Chapter 39: arguments as the statements have them.
-/
import Derived.Test.YtmfhicbbhncddaaCmdT
import Derived.Test.YtmfhicbbhncddaaLink
import Derived.OpenShut
import Derived.RowKit
import Derived.Carry
set_option linter.unusedVariables false
set_option linter.unusedSimpArgs false
set_option maxRecDepth 100000
namespace Go.V
open Go.Proofs
theorem op_int (w : World) : Opens Try.prog w 3 fun l => ∃ n, IntKind.i64.has n ∧ l = [.int .i64 n] := Opens.int Try.underlying3
theorem op_ints (w : World) : Opens Try.prog w 22 fun l => ∃ xs : List Int, xs.length ≤ maxLen ∧ (∀ x ∈ xs, IntKind.i64.has x) ∧ l = [.ro .int xs] :=
  Opens.slice (e := .int) (ok := fun x => IntKind.i64.has x) Try.underlying22 (by kernel_rfl) (op_int w) fun l ⟨n, h, e⟩ => ⟨n, e.symm, h⟩
theorem byte_enc {n : Int} (h : IntKind.u8.has n) : Ety.enc .byte (UInt8.ofNat n.toNat) = [.int .u8 n] := by
  have h1 : 0 ≤ n ∧ n ≤ 255 := h
  have : ((UInt8.ofNat n.toNat).toNat : Int) = n := by simp; omega
  show [AV.int .u8 ((UInt8.ofNat n.toNat).toNat : Int)] = _
  rw [this]
theorem op_bytes (w : World) : Opens Try.prog w 23 fun l => ∃ xs : List UInt8, xs.length ≤ maxLen ∧ (∀ x ∈ xs, True) ∧ l = [.ro .byte xs] :=
  Opens.slice (e := .byte) (ok := fun _ => True) Try.underlying23 (by kernel_rfl) (Opens.int Try.underlying5) fun l ⟨n, h, e⟩ => ⟨UInt8.ofNat n.toNat, by rw [e]; exact byte_enc h, trivial⟩
theorem op_cmd (w : World) : Opens Try.prog w 25 fun l => ∃ c : Cmd, l = [.int .i64 c.src, .int .i64 c.num, .int .i64 c.srv, .ro .int c.args, .ro .byte c.data] := by
  refine (Opens.fields Try.underlying25 (Ss := [_, _, _, _, _]) ⟨op_int w, op_int w, op_int w, op_ints w, op_bytes w, trivial⟩ (by kernel_rfl) (by kernel_rfl)).mono ?_
  rintro l ⟨ls, h1, h2, rfl⟩
  obtain ⟨a, b, c, d, e, rfl⟩ : ∃ a b c d e, ls = [a, b, c, d, e] := by
    match ls, h1 with
    | [a, b, c, d, e], _ => exact ⟨a, b, c, d, e, rfl⟩
  obtain ⟨x, _, rfl⟩ := h2 0 _ _ rfl rfl
  obtain ⟨y, _, rfl⟩ := h2 1 _ _ rfl rfl
  obtain ⟨z, _, rfl⟩ := h2 2 _ _ rfl rfl
  obtain ⟨xs, _, _, rfl⟩ := h2 3 _ _ rfl rfl
  obtain ⟨ys, _, _, rfl⟩ := h2 4 _ _ rfl rfl
  exact ⟨⟨x, y, z, xs, ys⟩, rfl⟩
theorem arg_int (w : World) : OpensV Try.prog w 3 fun a => ∃ n : Int, a = .int .i64 n := fun H enc r b0 v d p hv hd => by
  obtain ⟨a, ⟨n, _, e⟩, h⟩ := (op_int w).arg1 (one_of Try.underlying3 rfl) H enc r b0 v d p hv hd
  cases e
  exact ⟨_, ⟨n, rfl⟩, h⟩
theorem arg_str (w : World) : OpensV Try.prog w 9 fun a => ∃ s : List UInt8, s.length ≤ maxLen ∧ a = .str s := fun H enc r b0 v d p hv hd => by
  obtain ⟨a, ⟨n, hl, e⟩, h⟩ := (Opens.str Try.underlying9).arg1 (one_of Try.underlying9 rfl) H enc r b0 v d p hv hd
  cases e
  exact ⟨_, ⟨n, hl, rfl⟩, h⟩
theorem arg_bytes (w : World) : OpensV Try.prog w 23 fun a => ∃ s : List UInt8, s.length ≤ maxLen ∧ a = .ro .byte s := fun H enc r b0 v d p hv hd => by
  obtain ⟨a, ⟨n, hl, _, e⟩, h⟩ := (op_bytes w).arg1 (one_of Try.underlying23 rfl) H enc r b0 v d p hv hd
  cases e
  exact ⟨_, ⟨n, hl, rfl⟩, h⟩
theorem arg_cmd (w : World) : OpensV Try.prog w 25 fun a => ∃ c : Cmd, a = .agg [.int .i64 c.src, .int .i64 c.num, .int .i64 c.srv, .ro .int c.args, .ro .byte c.data] := fun H enc r b0 v d p hv hd => by
  obtain ⟨a, ⟨l, ⟨c, rfl⟩, rfl⟩, h⟩ := (op_cmd w).argS Try.underlying25 H enc r b0 v d p hv hd
  exact ⟨_, ⟨c, rfl⟩, h⟩
/-- a law that was walked -/
theorem law_true {g : FuncId} {la : List AV} {vs : List Value} {w : World} (H : DoesK Try.prog 0 g la [] (EndF 0 (.bool true) [])) (hb : brL [] [] la la) (hr : LRel (oldR w) [] la vs) : Calls Try.prog g vs.toArray w fun e w' => e = .returned (.bool true) ∧ Go.RowKit.Below w.heap.size w w' :=
  does_true (frame_pure H hb (.inr rfl) (fun _ => rfl) rfl) hr
end Go.V
