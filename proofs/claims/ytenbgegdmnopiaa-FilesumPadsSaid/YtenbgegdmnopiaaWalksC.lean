/-
  The sum of the weighted bytes, cut at a place, padded, shifted by four; slices of a slice of bytes. No conditions beyond the lemmas' own.
-/
import Derived.Test.YtenbgegdmnopiaaWalksB
import Derived.Deep.QuietTactic
import Derived.BigQuiet
namespace Go.Proofs.Ytenbgegdmnopiaa
open Go.RowKit

theorem acc_congr (off : Int) (zs ys : List Int) (k : Nat) (h : ∀ i, i < k → zs.getD i 0 = ys.getD i 0) : acc off zs k = acc off ys k := by
  induction k with
  | zero => rfl
  | succ k ih => simp only [acc]; rw [ih fun i hi => h i (by omega), h k (by omega)]

theorem acc_add (off : Int) (zs : List Int) (m n : Nat) : acc off zs (m + n) = (acc off zs m + acc (off + m) (zs.drop m) n) % 4294967296 := by
  induction n with
  | zero => have := acc_bd off zs m; simp only [acc, Nat.add_zero, Int.add_zero]; omega
  | succ n ih =>
    rw [show m + (n + 1) = (m + n) + 1 from rfl]
    simp only [acc]
    rw [ih]
    have e1 : (zs.drop m).getD n 0 = zs.getD (m + n) 0 := by simp [List.getD_eq_getElem?_getD]
    have e2 : wt (off + m) n = wt off (m + n) := by unfold wt; rw [show off + (m : Int) + (n : Int) = off + ((m + n : Nat) : Int) from by omega]
    rw [e1, e2]
    omega

theorem wt_add4 (off : Int) (k : Nat) : wt (off + 4) k = wt off k := by
  unfold wt
  rw [show (off + 4 + (k : Int)) % 4 = (off + (k : Int)) % 4 from by omega]

theorem acc_add4 (off : Int) (zs : List Int) (k : Nat) : acc (off + 4) zs k = acc off zs k := by
  induction k with
  | zero => rfl
  | succ k ih => simp only [acc]; rw [ih, wt_add4]

theorem acc_zeros (off : Int) (zs : List Int) (k n : Nat) (h : ∀ i, k ≤ i → zs.getD i 0 = 0) : acc off zs (k + n) = acc off zs k := by
  induction n with
  | zero => rfl
  | succ n ih =>
    have hb := acc_bd off zs k
    rw [show k + (n + 1) = (k + n) + 1 from rfl]
    simp only [acc]
    rw [ih, h (k + n) (by omega)]
    omega

theorem bys_take {w : World} {a : Option Addr} {len : Nat} {zs : List Int} (h : Bys w a len zs) (i : Nat) (hi : i ≤ len) : Bys w a i (zs.take i) := by
  obtain ⟨h1, h2, h3⟩ := h
  refine ⟨by simp; omega, fun k => ?_, ?_⟩
  · rw [List.getD_eq_getElem?_getD, List.getElem?_take]
    split
    · rw [← List.getD_eq_getElem?_getD]; exact h2 k
    · simp
  · rcases h3 with h3 | ⟨b, o, rfl, hc⟩
    · exact .inl (by omega)
    · refine .inr ⟨b, o, rfl, fun k hk => ?_⟩
      rw [hc k (by omega)]
      simp [List.getD_eq_getElem?_getD, hk]

theorem bys_drop {w : World} {a : Option Addr} {len : Nat} {zs : List Int} (h : Bys w a len zs) (i cap : Nat) (hi : i ≤ len) (hl : len ≤ cap) :
    Bys w (if cap = i then a else Option.map (fun x => x.add i) a) (len - i) (zs.drop i) := by
  obtain ⟨h1, h2, h3⟩ := h
  refine ⟨by simp; omega, fun k => ?_, ?_⟩
  · rw [List.getD_eq_getElem?_getD, List.getElem?_drop, ← List.getD_eq_getElem?_getD]; exact h2 _
  · rcases h3 with h3 | ⟨b, o, rfl, hc⟩
    · exact .inl (by omega)
    · by_cases hlt : len = i
      · exact .inl (by omega)
      · have ha : (⟨b, o, none⟩ : Addr).add i = ⟨b, o + i, none⟩ := by unfold Addr.add; split <;> simp_all
        rw [if_neg (by omega)]
        refine .inr ⟨b, o + i, by simp [ha], fun k hk => ?_⟩
        have := hc (i + k) (by omega)
        rw [show o + i + k = o + (i + k) from by omega, this]
        simp [List.getD_eq_getElem?_getD]

theorem quiet_left {P : Program} {f : FuncId} {args : Array Value} {w : World} {n : Nat} {v : Value}
    (h : Calls P f args (w.drewN n) fun e w' => e = .returned v ∧ w.drewN n = w') : Calls P f args (w.drewN n) fun e w'' => e = .returned v ∧ ∃ m, w'' = w.drewN m :=
  h.mono fun _ _ ⟨he, hm⟩ => ⟨he, n, hm.symm⟩
theorem bys_drewN {w : World} {a : Option Addr} {len : Nat} {zs : List Int} (h : Bys w a len zs) (n : Nat) : Bys (w.drewN n) a len zs := h
theorem below_drewN {B : Nat} {a w : World} (h : Below B a w) (n : Nat) : Below B a (w.drewN n) := ⟨h.os, h.tape, h.output, h.size, h.block⟩

end Go.Proofs.Ytenbgegdmnopiaa
