/-
  The arguments of the statements of chapter 07 as abstract values.
-/
import Derived.Test.YtgijhjmegicnfaaPart16
import Derived.OpenShut
import Derived.RowKit
import Derived.Carry
set_option linter.unusedVariables false
set_option linter.unusedSimpArgs false
set_option maxRecDepth 100000
namespace Go.V
open Go.Proofs
theorem byte_enc {n : Int} (h : IntKind.u8.has n) : Ety.enc .byte (UInt8.ofNat n.toNat) = [.int .u8 n] := by
  have h1 : 0 ≤ n ∧ n ≤ 255 := h
  have : ((UInt8.ofNat n.toNat).toNat : Int) = n := by simp; omega
  show [AV.int .u8 ((UInt8.ofNat n.toNat).toNat : Int)] = _
  rw [this]
def okS_Rng (x : Rng) : Prop := IntKind.i64.has x.from_ ∧ IntKind.i64.has x.to_
theorem op_T3 (w : World) : Opens Try.prog w 3 fun l => ∃ n, IntKind.i64.has n ∧ l = [.int .i64 n] := Opens.int Try.underlying3
theorem op_T30 (w : World) : Opens Try.prog w 30 fun l => ∃ x : Rng, okS_Rng x ∧ l = [.int .i64 x.from_, .int .i64 x.to_] := by
  refine (Opens.fields Try.underlying30 (Ss := [_, _]) ⟨op_T3 w, op_T3 w, trivial⟩ (by kernel_rfl) (by kernel_rfl)).mono ?_
  rintro l ⟨ls, h1, h2, rfl⟩
  obtain ⟨a0, a1, rfl⟩ : ∃ a0 a1, ls = [a0, a1] := by
    match ls, h1 with
    | [a0, a1], _ => exact ⟨a0, a1, rfl⟩
  obtain ⟨x0, h10, rfl⟩ := h2 0 _ _ rfl rfl
  obtain ⟨x1, h11, rfl⟩ := h2 1 _ _ rfl rfl
  exact ⟨⟨x0, x1⟩, ⟨h10, h11⟩, rfl⟩
def okE_rng (x : Ety.T .rng) : Prop := okS_Rng x
theorem op_T22 (w : World) : Opens Try.prog w 22 fun l => ∃ xs : List (Ety.T .rng), xs.length ≤ maxLen ∧ (∀ x ∈ xs, okE_rng x) ∧ l = [.ro .rng xs] :=
  Opens.slice (e := .rng) (ok := okE_rng) Try.underlying22 (by kernel_rfl) (op_T30 w) fun l ⟨x, h, e⟩ => ⟨x, e.symm, h⟩
theorem arg_T22 (w : World) : OpensV Try.prog w 22 fun a => ∃ xs : List (Ety.T .rng), xs.length ≤ maxLen ∧ (∀ x ∈ xs, okE_rng x) ∧ a = .ro .rng xs := fun H enc r b0 v d p hv hd => by
  obtain ⟨a, ⟨n, h1, h2, e⟩, h⟩ := (op_T22 w).arg1 (one_of Try.underlying22 rfl) H enc r b0 v d p hv hd
  cases e
  exact ⟨_, ⟨n, h1, h2, rfl⟩, h⟩
theorem arg_T3 (w : World) : OpensV Try.prog w 3 fun a => ∃ n, IntKind.i64.has n ∧ a = .int .i64 n := fun H enc r b0 v d p hv hd => by
  obtain ⟨a, ⟨n, h1, e⟩, h⟩ := (op_T3 w).arg1 (one_of Try.underlying3 rfl) H enc r b0 v d p hv hd
  cases e
  exact ⟨_, ⟨n, h1, rfl⟩, h⟩
theorem arg_T30 (w : World) : OpensV Try.prog w 30 fun a => ∃ x : Rng, okS_Rng x ∧ a = .agg [.int .i64 x.from_, .int .i64 x.to_] := fun H enc r b0 v d p hv hd => by
  obtain ⟨a, ⟨l, ⟨c, hn, rfl⟩, rfl⟩, h⟩ := (op_T30 w).argS Try.underlying30 H enc r b0 v d p hv hd
  exact ⟨_, ⟨c, hn, rfl⟩, h⟩
/-- a law that was walked -/
theorem law_true {g : FuncId} {la : List AV} {vs : List Value} {w : World} (H : DoesK Try.prog 0 g la [] (EndF 0 (.bool true) [])) (hb : brL [] [] la la) (hr : LRel (oldR w) [] la vs) : Calls Try.prog g vs.toArray w fun e w' => e = .returned (.bool true) ∧ Go.RowKit.Below w.heap.size w w' :=
  does_true (frame_pure H hb (.inr rfl) (fun _ => rfl) rfl) hr
end Go.V
