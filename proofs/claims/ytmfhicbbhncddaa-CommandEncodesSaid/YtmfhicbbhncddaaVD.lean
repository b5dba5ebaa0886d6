/-
  Cells that decode to an element lie as the element does.
-/
import Derived.Test.YtmfhicbbhncddaaV1
set_option linter.unusedVariables false
set_option linter.unusedSimpArgs false
namespace Go.V
theorem asE_self (e : Ety) (xs : List e.T) : asE e e xs = some xs := by simp [asE]
theorem asE_some {e e' : Ety} {xs : List e'.T} {ys : List e.T} (h : asE e e' xs = some ys) : ∃ he : e' = e, he ▸ xs = ys := by
  unfold asE at h
  split at h
  · rename_i he; exact ⟨he, by simpa using h⟩
  · simp at h
theorem roA_ok {R : RO} {μ : List Bind} {e : Ety} {a : AV} {xs : List e.T} {v : Value} (h : roA e a = some xs) (hr : Rel R μ a v) : Rel R μ (.ro e xs) v := by
  unfold roA at h
  split at h
  · obtain ⟨rfl, h⟩ := asE_some h
    subst h
    exact hr
  · simp only [Option.some.injEq] at h
    subst h
    cases hr
    exact .ro0 (Nat.zero_le _)
  · simp at h
theorem byte_rel {R : RO} {μ : List Bind} {x : Int} {v : Value} (h : Rel R μ (.int .u8 x) v) (ho : 0 ≤ x ∧ x < 256) : Rel R μ (.int .u8 (UInt8.ofNat x.toNat).toNat) v := by
  have : ((UInt8.ofNat x.toNat).toNat : Int) = x := by
    rw [show (UInt8.ofNat x.toNat).toNat = x.toNat from by simp; omega]
    omega
  rw [this]
  exact h
theorem Ety.dec_ok {R : RO} {μ : List Bind} (e : Ety) {l : List AV} {x : e.T} {vs : List Value} (h : e.dec l = some x) (ho : e.decOk l) (hr : LRel R μ l vs) : LRel R μ (e.enc x) vs := by
  cases e <;> simp only [Ety.dec] at h
  · unfold dec_int at h
    split at h
    · simp only [Option.some.injEq] at h
      subst h
      cases hr with | cons h0 hr =>
      cases hr
      exact .cons h0 <| .nil
    · simp at h
  · unfold dec_byte at h
    split at h
    · simp only [Option.some.injEq] at h
      subst h
      cases hr with | cons h0 hr =>
      cases hr
      exact .cons (byte_rel h0 ho) .nil
    · simp at h
  · unfold dec_str at h
    split at h
    · simp only [Option.some.injEq] at h
      subst h
      cases hr with | cons h0 hr =>
      cases hr
      exact .cons h0 <| .nil
    · simp at h
  · unfold dec_ints at h
    split at h
    · split at h
      · rename_i e0
        simp only [Option.some.injEq] at h
        subst h
        cases hr with | cons h0 hr =>
        cases hr
        exact .cons (roA_ok e0 h0) <| .nil
      · simp at h
    · simp at h
end Go.V
