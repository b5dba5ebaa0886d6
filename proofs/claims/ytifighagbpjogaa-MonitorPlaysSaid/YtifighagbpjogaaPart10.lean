/-
  Loops over a memory that is whatever it is: the state behind a round is the state at hand.
  The kinds of this seat, for the evaluation.
  Numbers and lists of bytes, with no program in sight: zigzag, base-128 and big-endian encodings.
-/
import Derived.Test.YtifighagbpjogaaPart09
set_option linter.unusedVariables false
set_option linter.unusedSimpArgs false
namespace Go.V
variable {P : Program} {h : List Ch} {tm : List AV} {k : Nat} {q : Post}
/-- slot by slot the same, or nothing said -/
def subT : List AV → List AV → Prop
  | [], l => (match l with | [] => True | _ => False)
  | g :: gs, l => (match l with | a :: as => (g = .any ∨ g = a) ∧ subT gs as | [] => False)
theorem subT_rel {R : RO} {μ : List Bind} : ∀ {gs as : List AV} {vs : List Value}, subT gs as → LRel R μ as vs → LRel R μ gs vs
  | [], [], _, _, h => h
  | [], _ :: _, _, q, _ => q.elim
  | _ :: _, [], _, q, _ => q.elim
  | g :: gs, a :: as, _, q, h => by
    cases h with
    | cons h1 h2 =>
      refine .cons ?_ (subT_rel q.2 h2)
      rcases q.1 with rfl | rfl
      · exact .any
      · exact h1
theorem sub_nil : subT [] [] := trivial
theorem sub_cons {g a : AV} {gs as : List AV} (h1 : g = .any ∨ g = a) (h2 : subT gs as) : subT (g :: gs) (a :: as) := ⟨h1, h2⟩
def BackS {A : Type} (inv : A → Prop) (mu : A → Nat) (live : A → List AV) (h : List Ch) (x : A) (tm' : List AV) (h' : List Ch) : Prop :=
  ∃ x', (inv x' ∧ mu x' < mu x) ∧ subT (live x') tm' ∧ h' = h
theorem w_loopS [ETab] {c : Code} {A : Type} (inv : A → Prop) (mu : A → Nat) (live : A → List (Nat × AV)) (x0 : A) {ws : List Nat} {tk : List AV} (hw : writes c = ws) (ht : killT tm ws = tk) (hi : inv x0)
    (h0 : subT (liveT tk (live x0)) tm)
    (H : ∀ (x : A) (E : List AV → List Ch → Prop) t, inv x → (∀ tm' h', BackS inv mu (fun x => liveT tk (live x)) h x tm' h' → E tm' h') → liveT tk (live x) = t →
      Wp P k c t h ⟨E, q.x, q.r⟩) : Wp P k (.loop c) tm h q :=
  ⟨fun R μ a w s hl => by
    refine wp_loop_rel (fun n a' w' => ∃ R' μ' x, inv x ∧ mu x = n ∧ SR R' μ' (liveT tk (live x)) h a' w' ∧ Step (ownH h μ) R w (ownH h μ') R' w' ∧ Keeps k μ μ')
      (mu x0) ⟨R, μ, x0, hi, rfl, ⟨s.mem, subT_rel h0 s.tm, s.dfr⟩, Step.refl _ _ _, .refl hl⟩ ?_
    rintro n a' w' ⟨R', μ', x, hinv, rfl, s', st, kp⟩
    refine wp_mono ((H x _ _ hinv (fun tm' h' hb => hb) rfl).run R' μ' a' w' s' kp.len) ?_
    intro e a2 w2 hq
    obtain ⟨R2, μ2, tm2, h2, s2, st2, kp2, hq⟩ := hq
    cases e with
    | normal =>
      obtain ⟨x', ⟨hinv', hlt⟩, hsub, rfl⟩ := hq
      exact ⟨_, hlt, R2, _, x', hinv', rfl, ⟨s2.mem, subT_rel hsub s2.tm, s2.dfr⟩, st.trans st2, kp.trans kp2⟩
    | exit i => exact ⟨R2, μ2, tm2, h2, s2, st.trans st2, kp.trans kp2, hq⟩
    | goto l => exact ⟨R2, μ2, tm2, h2, s2, st.trans st2, kp.trans kp2, hq⟩
    | ret => exact ⟨R2, μ2, tm2, h2, s2, st.trans st2, kp.trans kp2, hq⟩
    | _ => exact hq.elim⟩
theorem ops_id [ETab] {k : Nat} {all r : List Oper} {K : List AV → List Ch → Prop} (H : Ops P k all r tm h K) : Ops P k all r tm h K := H
end Go.V

namespace Go.V
def Mon.zero : Mon := ⟨0, 0, 0, 0, 0, 0, 0, 0⟩
def Tra.zero : Tra := ⟨0, 0, 0, 0, 0⟩
def Pdf.zero : Pdf := ⟨0, 0, false, 0⟩
def One.zero : One := ⟨⟨0, 0, 0, 0, 0, 0, 0, 0⟩, false, 0, 0, 0, false, 0⟩
def Mop.zero : Mop := ⟨0, 0, 0, false⟩
theorem get_int (xs : List (Int)) (i : Nat) : Ety.get .int xs i = xs.getD i 0 := rfl
theorem get_byte (xs : List (UInt8)) (i : Nat) : Ety.get .byte xs i = xs.getD i 0 := rfl
theorem get_str (xs : List (List UInt8)) (i : Nat) : Ety.get .str xs i = xs.getD i [] := rfl
theorem get_bool (xs : List (Bool)) (i : Nat) : Ety.get .bool xs i = xs.getD i false := rfl
theorem get_i16 (xs : List (Int)) (i : Nat) : Ety.get .i16 xs i = xs.getD i 0 := rfl
theorem get_mon (xs : List (Mon)) (i : Nat) : Ety.get .mon xs i = xs.getD i Mon.zero := rfl
theorem get_tra (xs : List (Tra)) (i : Nat) : Ety.get .tra xs i = xs.getD i Tra.zero := rfl
theorem get_pdf (xs : List (Pdf)) (i : Nat) : Ety.get .pdf xs i = xs.getD i Pdf.zero := rfl
theorem get_one (xs : List (One)) (i : Nat) : Ety.get .one xs i = xs.getD i One.zero := rfl
theorem get_mop (xs : List (Mop)) (i : Nat) : Ety.get .mop xs i = xs.getD i Mop.zero := rfl
attribute [go_sem] dec_int dec_byte dec_str dec_bool dec_i16 dec_mon dec_tra dec_pdf dec_one dec_mop Mon.cells Tra.cells Pdf.cells One.cells Mop.cells get_int get_byte get_str get_bool get_i16 get_mon get_tra get_pdf get_one get_mop
end Go.V

namespace Go.V
open Go.RowKit

theorem wrap_u64 (k : Int) : IntKind.u64.wrap k = k % 18446744073709551616 := by simp [IntKind.wrap, IntKind.bits, IntKind.signed]
theorem wrap_i64 (n : Int) (h0 : -9223372036854775808 ≤ n) (h1 : n ≤ 9223372036854775807) : IntKind.i64.wrap n = n := by
  rw [IntKind.wrap_i64]
  omega
/-- base 128, least significant group first -/
def vint (z : Nat) : List UInt8 := if z < 128 then [UInt8.ofNat z] else UInt8.ofNat (z % 128 + 128) :: vint (z / 128)
termination_by z
decreasing_by omega
theorem vint_small {z : Nat} (h : z < 128) : vint z = [UInt8.ofNat z] := by rw [vint, if_pos h]
theorem vint_big {z : Nat} (h : ¬ z < 128) : vint z = UInt8.ofNat (z % 128 + 128) :: vint (z / 128) := by rw [vint, if_neg h]
theorem vint_len (k : Nat) : ∀ z, z < 128 ^ (k + 1) → (vint z).length ≤ k + 1 := by
  induction k with
  | zero => intro z h; rw [vint_small (by omega)]; simp
  | succ k ih =>
    intro z h
    by_cases hz : z < 128
    · rw [vint_small hz]; simp
    · rw [vint_big hz]
      have := ih (z / 128) (by rw [Nat.div_lt_iff_lt_mul (by decide)]; rw [Nat.pow_succ] at h; exact h)
      simp only [List.length_cons]
      omega
/-- what has been read of a base-128 number: k groups, their value q -/
def VPre (ys : List UInt8) (k q : Nat) : Prop := q < 128 ^ k ∧ ∀ t : Nat, 0 < t ∨ k = 0 → vint (q + t * 128 ^ k) = ys.take k ++ vint t
theorem VPre.zero (ys : List UInt8) : VPre ys 0 0 := ⟨by simp, fun t _ => by simp⟩
theorem take_getD {ys : List UInt8} {k : Nat} (hk : k < ys.length) : ys.take (k + 1) = ys.take k ++ [ys.getD k 0] := by
  rw [List.take_succ_eq_append_getElem hk]
  simp [List.getD_eq_getElem?_getD, List.getElem?_eq_getElem hk]
/-- a last group: it is written in the shortest way and fits, or else what the value is encoded as differs -/
theorem VPre.last {ys : List UInt8} {k q : Nat} (h : VPre ys k q) (hk : k < ys.length) (hk9 : k ≤ 9) (h2 : (ys.getD k 0).toNat < 128) (z : Nat) (hz : z = (q + (ys.getD k 0).toNat * 128 ^ k) % 18446744073709551616) :
    vint z = ys.take (k + 1) ↔ ¬ (k = 9 ∧ 1 < (ys.getD k 0).toNat) ∧ ¬ ((ys.getD k 0).toNat = 0 ∧ 0 < k) := by
  have ht := take_getD hk
  generalize ys.getD k 0 = x at h2 ht hz ⊢
  have hlen : (ys.take k).length = k := by rw [List.length_take]; omega
  by_cases h0 : x.toNat = 0 ∧ 0 < k
  · constructor
    · intro e
      exfalso
      obtain ⟨hx0, h0⟩ := h0
      have h128 : (128 : Nat) ^ k ≤ 9223372036854775808 := Nat.pow_le_pow_right (n := 128) (i := k) (j := 9) (by decide) hk9
      have hq := h.1
      have hzq : z = q := by
        rw [hz, hx0]
        simp
        omega
      obtain ⟨j, rfl⟩ : ∃ j, k = j + 1 := ⟨k - 1, by omega⟩
      have := vint_len j q hq
      rw [hzq, ht] at e
      have e2 := congrArg List.length e
      rw [List.length_append, hlen] at e2
      simp at e2
      omega
    · rintro ⟨_, h3⟩
      exact absurd h0 h3
  · by_cases h9 : k = 9 ∧ 1 < x.toNat
    · constructor
      · intro e
        exfalso
        obtain ⟨rfl, h9⟩ := h9
        have hq := h.1
        have e128 : (128 : Nat) ^ 9 = 9223372036854775808 := rfl
        rw [e128] at hq hz
        have hzz : z = q + x.toNat % 2 * 9223372036854775808 := by omega
        rcases Nat.mod_two_eq_zero_or_one x.toNat with hx | hx
        · rw [hx] at hzz
          have := vint_len 8 q hq
          rw [show z = q from by omega, ht] at e
          have e2 := congrArg List.length e
          rw [List.length_append, hlen] at e2
          simp at e2
          omega
        · rw [hx] at hzz
          have h3 := h.2 1 (.inl (by omega))
          rw [e128, ← hzz, e, ht, vint_small (by omega)] at h3
          have h4 := List.append_cancel_left h3
          simp at h4
          have := congrArg UInt8.toNat h4
          simp at this
          omega
      · rintro ⟨h3, _⟩
        exact absurd h9 h3
    · constructor
      · exact fun _ => ⟨h9, h0⟩
      · intro _
        have hfit : q + x.toNat * 128 ^ k < 18446744073709551616 := by
          have hq := h.1
          rcases Nat.lt_or_ge k 9 with h8 | h8
          · have h3 : (128 : Nat) ^ k ≤ 72057594037927936 := Nat.pow_le_pow_right (n := 128) (i := k) (j := 8) (by decide) (by omega)
            have h4 : x.toNat * 128 ^ k ≤ 127 * 72057594037927936 := Nat.mul_le_mul (by omega) h3
            omega
          · have hk : k = 9 := by omega
            subst hk
            have e128 : (128 : Nat) ^ 9 = 9223372036854775808 := rfl
            rw [e128] at hq ⊢
            omega
        have e : z = q + x.toNat * 128 ^ k := by rw [hz]; exact Nat.mod_eq_of_lt hfit
        rw [e, h.2 _ (by omega), ht, vint_small (by omega)]
        simp
end Go.V
