/-
  Small lemmas on what a slice of bytes reads as: from the reading of an argument to 'Bys', and 'Bys' kept by a call that leaves old memory alone. No conditions beyond the lemmas' own.
-/
import Derived.Test.YtenbgegdmnopiaaWalksA
import Derived.ProofKit
namespace Go.Proofs.Ytenbgegdmnopiaa
open Go.RowKit

/-- a slice of integers that came in: nil, or a row of cap cells with the numbers zs -/
def IsRow (k : IntKind) (w : World) (a : Option Addr) (len cap : Nat) (zs : List Int) : Prop :=
  (a = none ∧ len = 0 ∧ cap = 0 ∧ zs = []) ∨
  ∃ x, a = some x ∧ len ≤ cap ∧ cap ≤ maxLen ∧ zs.length = cap ∧ (∀ i, i < zs.length → w.cell? (x.add i) = some (.int k (zs.getD i 0))) ∧ ∀ n ∈ zs, (Lit.int k n).wf = true

theorem bys_of_row {w : World} {a : Option Addr} {len cap : Nat} {zs : List Int} (h : IsRow .u8 w a len cap zs) : ∃ ys, Bys w a len ys := by
  rcases h with ⟨rfl, rfl, rfl, rfl⟩ | ⟨x, rfl, hl, hm, hz, hcell, hwz⟩
  · exact ⟨[], rfl, by simp, .inl rfl⟩
  · have hb : ∀ v ∈ zs, 0 ≤ v ∧ v ≤ 255 := fun v hv => by
      have := hwz v hv
      simpa [Lit.wf, IntKind.min, IntKind.max, IntKind.signed, IntKind.bits] using this
    refine ⟨zs.take len, by simp; omega, getD_bd fun v hv => hb v (List.mem_of_mem_take hv), ?_⟩
    by_cases h0 : len = 0
    · exact .inl h0
    · obtain ⟨b, off, spot⟩ := x
      have hc := hcell 0 (by omega)
      have hspot : spot = none := by simpa [Addr.add] using World.cell?_spot hc
      subst hspot
      refine .inr ⟨b, off, rfl, fun i hi => ?_⟩
      have := hcell i (by omega)
      have ha : (⟨b, off, none⟩ : Addr).add i = ⟨b, off + i, none⟩ := by unfold Addr.add; split <;> simp_all
      rw [ha] at this
      rw [this]
      simp [List.getD_eq_getElem?_getD, hi]

theorem wf_i64 {a : Int} (h : (Lit.int .i64 a).wf = true) : -9223372036854775808 ≤ a ∧ a ≤ 9223372036854775807 := by
  simpa [Lit.wf, IntKind.min, IntKind.max, IntKind.signed, IntKind.bits] using h

theorem bys_below {w w' : World} {B : Nat} {a : Option Addr} {len : Nat} {zs : List Int} (h : Bys w a len zs) (hb : Below B w w') (hB : ∀ b o, a = some ⟨b, o, none⟩ → b < B) : Bys w' a len zs := by
  obtain ⟨h1, h2, h3⟩ := h
  refine ⟨h1, h2, ?_⟩
  rcases h3 with h3 | ⟨b, o, rfl, hc⟩
  · exact .inl h3
  · exact .inr ⟨b, o, rfl, fun i hi => by rw [hb.cell (p := ⟨b, o + i, none⟩) (hB b o rfl)]; exact hc i hi⟩


end Go.Proofs.Ytenbgegdmnopiaa
