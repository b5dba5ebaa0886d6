/-
  Numbers and lists of bytes, with no program in sight: zigzag, base-128 and big-endian encodings.
-/
import Derived.Test.YtpnfoffggcfhfaaPart09
set_option linter.unusedVariables false
set_option linter.unusedSimpArgs false
namespace Go.V
open Go.RowKit

theorem bitsI_eq (op : BinOp) (k : IntKind) (x y : Int) : bitsI op k x y = bits op k x y := by
  cases op <;> rfl
theorem wrap_u64 (k : Int) : IntKind.u64.wrap k = k % 18446744073709551616 := by simp [IntKind.wrap, IntKind.bits, IntKind.signed]
theorem wrap_u8 (k : Int) : IntKind.u8.wrap k = k % 256 := by simp [IntKind.wrap, IntKind.bits, IntKind.signed]
theorem wrap_i64 (n : Int) (h0 : -9223372036854775808 ≤ n) (h1 : n ≤ 9223372036854775807) : IntKind.i64.wrap n = n := by
  rw [IntKind.wrap_i64]
  omega
theorem u8_lt (x : UInt8) : x.toNat < 256 := x.toNat_lt

theorem u8_ltI (x : UInt8) : (x.toNat : Int) < 256 := by have := u8_lt x; omega
theorem u8w_lo (x : Int) : 0 ≤ IntKind.u8.wrap x := by rw [wrap_u8]; omega
theorem u8w_hi (x : Int) : IntKind.u8.wrap x < 256 := by rw [wrap_u8]; omega
theorem bits8 (op : BinOp) (x y : Int) : 0 ≤ bitsI op .u8 x y ∧ bitsI op .u8 x y < 256 := by
  cases op <;> exact ⟨u8w_lo _, u8w_hi _⟩
theorem xor_ones (a : Nat) (h : a < 18446744073709551616) : a ^^^ 18446744073709551615 = 18446744073709551615 - a := by
  apply Nat.eq_of_testBit_eq
  intro i
  have e : 18446744073709551615 - a = 2 ^ 64 - (a + 1) := by omega
  rw [e, Nat.testBit_two_pow_sub_succ (by omega), Nat.testBit_xor, show (18446744073709551615 : Nat) = 2 ^ 64 - 1 from by decide, Nat.testBit_two_pow_sub_one]
  by_cases hi : i < 64
  · simp [hi]
  · have : a.testBit i = false := Nat.testBit_lt_two_pow (Nat.lt_of_lt_of_le h (Nat.pow_le_pow_right (n := 2) (by decide) (show 64 ≤ i by omega)))
    simp [hi, this]
theorem or_128 (a : Nat) (h : a < 256) : a ||| 128 = a % 128 + 128 := by
  have e : a = 128 * (a / 128) + a % 128 := by omega
  have h1 : a / 128 = 0 ∨ a / 128 = 1 := by omega
  rw [Nat.or_comm]
  rcases h1 with h1 | h1
  · rw [show a = a % 128 from by omega, Nat.mod_mod]
    have := Nat.two_pow_add_eq_or_of_lt (i := 7) (b := a % 128) (by omega) 1
    rw [show (2 : Nat) ^ 7 * 1 = 128 from rfl] at this
    omega
  · have h2 := Nat.two_pow_add_eq_or_of_lt (i := 7) (b := a % 128) (by omega) 1
    have e2 : a = 2 ^ 7 * 1 ||| a % 128 := by rw [← h2]; omega
    have e3 : (128 : Nat) = 2 ^ 7 * 1 := rfl
    rw [e3]
    conv => lhs; rw [e2]
    rw [← Nat.or_assoc, Nat.or_self, ← h2]
    omega
theorem or_128_u8 (k : Int) (h0 : 0 ≤ k) : bitsI .or .u8 (IntKind.u8.wrap k) 128 = ((k.toNat % 128 + 128 : Nat) : Int) := by
  rw [bitsI_eq, wrap_u8, u8_or _ _ (by omega) (by omega) (by omega) (by omega)]
  have e : (k % 256).toNat = k.toNat % 256 := by omega
  have e2 : (128 : Int).toNat = 128 := rfl
  rw [e, e2, or_128 _ (by omega)]
  omega

/-- zigzag -/
def zz (n : Int) : Nat := if 0 ≤ n then (2 * n).toNat else (-2 * n - 1).toNat
def I64 (n : Int) : Prop := -9223372036854775808 ≤ n ∧ n ≤ 9223372036854775807
theorem zz_bd (n : Int) (h : I64 n) : zz n < 18446744073709551616 := by
  obtain ⟨h0, h1⟩ := h
  unfold zz
  split <;> omega
theorem zz_bits (n : Int) (h : I64 n) :
    bitsI .xor .u64 (IntKind.u64.wrap (IntKind.u64.wrap n * 2)) (IntKind.u64.wrap (n.fdiv 9223372036854775808)) = zz n := by
  obtain ⟨h0, h1⟩ := h
  rw [bitsI_eq, Int.fdiv_eq_ediv_of_nonneg _ (by omega)]
  simp only [wrap_u64]
  by_cases h : 0 ≤ n
  · have e1 : n % 18446744073709551616 * 2 % 18446744073709551616 = 2 * n := by omega
    have e2 : n / 9223372036854775808 % 18446744073709551616 = 0 := by omega
    rw [e1, e2, u64_xor _ _ (by omega) (by omega) (by omega) (by omega)]
    simp only [zz, h, if_true, Int.toNat_zero, Nat.xor_zero]
  · have e1 : n % 18446744073709551616 * 2 % 18446744073709551616 = 2 * n + 18446744073709551616 := by omega
    have e2 : n / 9223372036854775808 % 18446744073709551616 = 18446744073709551615 := by omega
    rw [e1, e2, u64_xor _ _ (by omega) (by omega) (by omega) (by omega)]
    have e3 : (18446744073709551615 : Int).toNat = 18446744073709551615 := by omega
    rw [e3, xor_ones _ (by omega)]
    simp only [zz, h, if_false]
    omega
/-- base 128, least significant group first -/
def vint (z : Nat) : List UInt8 := if z < 128 then [UInt8.ofNat z] else UInt8.ofNat (z % 128 + 128) :: vint (z / 128)
termination_by z
decreasing_by omega
theorem vint_small {z : Nat} (h : z < 128) : vint z = [UInt8.ofNat z] := by rw [vint, if_pos h]
theorem vint_big {z : Nat} (h : ¬ z < 128) : vint z = UInt8.ofNat (z % 128 + 128) :: vint (z / 128) := by rw [vint, if_neg h]
theorem vint_len (k : Nat) : ∀ z, z < 128 ^ (k + 1) → (vint z).length ≤ k + 1 := by
  induction k with
  | zero => intro z h; rw [vint_small (by omega)]; simp
  | succ k ih =>
    intro z h
    by_cases hz : z < 128
    · rw [vint_small hz]; simp
    · rw [vint_big hz]
      have := ih (z / 128) (by rw [Nat.div_lt_iff_lt_mul (by decide)]; rw [Nat.pow_succ] at h; exact h)
      simp only [List.length_cons]
      omega
theorem vint_le (z : Nat) (h : z < 18446744073709551616) : (vint z).length ≤ 10 := vint_len 9 z (by omega)
theorem vint_pos (z : Nat) : 1 ≤ (vint z).length := by
  rw [vint]; split <;> simp
/-- an integer's encoding -/
def encI (n : Int) : List UInt8 := vint (zz n)
theorem encI_le (n : Int) (h : I64 n) : (encI n).length ≤ 10 := vint_le _ (zz_bd n h)
/-- the s low bytes of n, most significant first -/
def be (n : Nat) : Nat → List UInt8
  | 0 => []
  | s + 1 => UInt8.ofNat (n / 256 ^ s % 256) :: be n s
theorem be_len (n : Nat) (s : Nat) : (be n s).length = s := by
  induction s with
  | zero => rfl
  | succ s ih => simp [be, ih]
theorem be_step (n : Nat) (k : Nat) : (IntKind.u8.wrap ((n : Int).fdiv (2 ^ (min (8 * (k : Int)).toNat 64)))).toNat = n / 256 ^ k % 256 ∨ 64 ≤ 8 * k := by
  by_cases h : 64 ≤ 8 * k
  · exact .inr h
  · refine .inl ?_
    have e : min (8 * (k : Int)).toNat 64 = 8 * k := by omega
    rw [e, wrap_u8, Int.fdiv_eq_ediv_of_nonneg _ (Int.le_of_lt (Int.pow_pos (by omega)))]
    have e2 : (2 : Int) ^ (8 * k) = ((256 ^ k : Nat) : Int) := by rw [Int.pow_mul, Int.natCast_pow]; rfl
    rw [e2, ← Int.natCast_ediv]
    omega
/-- a base-128 number and how many bytes it has; none where there is none, or it is not written in the shortest way, or it does not fit 64 bits -/
def vdAux : Nat → Nat → List UInt8 → Option (Nat × Nat)
  | _, _, [] => none
  | i, z, x :: xs =>
    if i = 9 ∧ 1 < x.toNat then none
    else if x.toNat < 128 then (if x.toNat = 0 ∧ 0 < i then none else some (z + x.toNat % 128 * 128 ^ i, i + 1))
    else vdAux (i + 1) (z + x.toNat % 128 * 128 ^ i) xs
def vd (ys : List UInt8) : Option (Nat × Nat) := vdAux 0 0 ys
/-- back from zigzag -/
def unzz (z : Nat) : Int := if z % 2 = 0 then (z / 2 : Nat) else -((z / 2 : Nat) : Int) - 1

def intR (r : Option (List UInt8)) : Int × Option (List UInt8) :=
  match r with
  | none => (0, none)
  | some ys => match vd ys with
    | none => (0, none)
    | some (z, k) => (unzz z, some (ys.drop k))
/-- what has been read of a base-128 number: k groups, their value q -/
def VPre (ys : List UInt8) (k q : Nat) : Prop := q < 128 ^ k ∧ ∀ t : Nat, 0 < t ∨ k = 0 → vint (q + t * 128 ^ k) = ys.take k ++ vint t
theorem VPre.zero (ys : List UInt8) : VPre ys 0 0 := ⟨by simp, fun t _ => by simp⟩
end Go.V
