/-
  The arguments of the statements of chapter 43 as abstract values.
-/
import Derived.Test.YtpnfoffggcfhfaaPart18
import Derived.OpenShut
import Derived.RowKit
import Derived.Carry
set_option linter.unusedVariables false
set_option linter.unusedSimpArgs false
set_option maxRecDepth 100000
namespace Go.V
open Go.Proofs
theorem byte_enc {n : Int} (h : IntKind.u8.has n) : Ety.enc .byte (UInt8.ofNat n.toNat) = [.int .u8 n] := by
  have h1 : 0 ≤ n ∧ n ≤ 255 := h
  have : ((UInt8.ofNat n.toNat).toNat : Int) = n := by simp; omega
  show [AV.int .u8 ((UInt8.ofNat n.toNat).toNat : Int)] = _
  rw [this]
theorem op_T3 (w : World) : Opens Try.prog w 3 fun l => ∃ n, IntKind.i64.has n ∧ l = [.int .i64 n] := Opens.int Try.underlying3
def okE_int (x : Ety.T .int) : Prop := IntKind.i64.has x
theorem op_T28 (w : World) : Opens Try.prog w 28 fun l => ∃ xs : List (Ety.T .int), xs.length ≤ maxLen ∧ (∀ x ∈ xs, okE_int x) ∧ l = [.ro .int xs] :=
  Opens.slice (e := .int) (ok := okE_int) Try.underlying28 (by kernel_rfl) (op_T3 w) fun l ⟨n, h, e⟩ => ⟨n, e.symm, h⟩
theorem arg_T28 (w : World) : OpensV Try.prog w 28 fun a => ∃ xs : List (Ety.T .int), xs.length ≤ maxLen ∧ (∀ x ∈ xs, okE_int x) ∧ a = .ro .int xs := fun H enc r b0 v d p hv hd => by
  obtain ⟨a, ⟨n, h1, h2, e⟩, h⟩ := (op_T28 w).arg1 (one_of Try.underlying28 rfl) H enc r b0 v d p hv hd
  cases e
  exact ⟨_, ⟨n, h1, h2, rfl⟩, h⟩
theorem op_T4 (w : World) : Opens Try.prog w 4 fun l => ∃ b, l = [.bool b] := Opens.bool Try.underlying4
def okE_bool (x : Ety.T .bool) : Prop := True
theorem op_T44 (w : World) : Opens Try.prog w 44 fun l => ∃ xs : List (Ety.T .bool), xs.length ≤ maxLen ∧ (∀ x ∈ xs, okE_bool x) ∧ l = [.ro .bool xs] :=
  Opens.slice (e := .bool) (ok := okE_bool) Try.underlying44 (by kernel_rfl) (op_T4 w) fun l ⟨n, e⟩ => ⟨n, e.symm, trivial⟩
theorem arg_T44 (w : World) : OpensV Try.prog w 44 fun a => ∃ xs : List (Ety.T .bool), xs.length ≤ maxLen ∧ (∀ x ∈ xs, okE_bool x) ∧ a = .ro .bool xs := fun H enc r b0 v d p hv hd => by
  obtain ⟨a, ⟨n, h1, h2, e⟩, h⟩ := (op_T44 w).arg1 (one_of Try.underlying44 rfl) H enc r b0 v d p hv hd
  cases e
  exact ⟨_, ⟨n, h1, h2, rfl⟩, h⟩
theorem arg_T3 (w : World) : OpensV Try.prog w 3 fun a => ∃ n, IntKind.i64.has n ∧ a = .int .i64 n := fun H enc r b0 v d p hv hd => by
  obtain ⟨a, ⟨n, h1, e⟩, h⟩ := (op_T3 w).arg1 (one_of Try.underlying3 rfl) H enc r b0 v d p hv hd
  cases e
  exact ⟨_, ⟨n, h1, rfl⟩, h⟩
/-- a law that was walked -/
theorem law_true {g : FuncId} {la : List AV} {vs : List Value} {w : World} (H : DoesK Try.prog 0 g la [] (EndF 0 (.bool true) [])) (hb : brL [] [] la la) (hr : LRel (oldR w) [] la vs) : Calls Try.prog g vs.toArray w fun e w' => e = .returned (.bool true) ∧ Go.RowKit.Below w.heap.size w w' :=
  does_true (frame_pure H hb (.inr rfl) (fun _ => rfl) rfl) hr
end Go.V
