/-
  Numbers and lists of bytes, with no program in sight: zigzag, base-128 and big-endian encodings.
-/
import Derived.Test.YtpnfoffggcfhfaaPart09
set_option linter.unusedVariables false
set_option linter.unusedSimpArgs false
namespace Go.V
open Go.RowKit

theorem bitsI_eq (op : BinOp) (k : IntKind) (x y : Int) : bitsI op k x y = bits op k x y := by
  cases op <;> rfl
theorem wrap_u64 (k : Int) : IntKind.u64.wrap k = k % 18446744073709551616 := by simp [IntKind.wrap, IntKind.bits, IntKind.signed]
theorem wrap_u8 (k : Int) : IntKind.u8.wrap k = k % 256 := by simp [IntKind.wrap, IntKind.bits, IntKind.signed]
theorem wrap_i64 (n : Int) (h0 : -9223372036854775808 ≤ n) (h1 : n ≤ 9223372036854775807) : IntKind.i64.wrap n = n := by
  rw [IntKind.wrap_i64]
  omega
theorem u8_ofN (x : Nat) (h1 : x < 256) : (UInt8.ofNat x).toNat = x := by simp; omega
theorem u8_lt (x : UInt8) : x.toNat < 256 := x.toNat_lt

theorem u8_ltI (x : UInt8) : (x.toNat : Int) < 256 := by have := u8_lt x; omega
theorem u8w_lo (x : Int) : 0 ≤ IntKind.u8.wrap x := by rw [wrap_u8]; omega
theorem u8w_hi (x : Int) : IntKind.u8.wrap x < 256 := by rw [wrap_u8]; omega
theorem bits8 (op : BinOp) (x y : Int) : 0 ≤ bitsI op .u8 x y ∧ bitsI op .u8 x y < 256 := by
  cases op <;> exact ⟨u8w_lo _, u8w_hi _⟩
theorem xor_ones (a : Nat) (h : a < 18446744073709551616) : a ^^^ 18446744073709551615 = 18446744073709551615 - a := by
  apply Nat.eq_of_testBit_eq
  intro i
  have e : 18446744073709551615 - a = 2 ^ 64 - (a + 1) := by omega
  rw [e, Nat.testBit_two_pow_sub_succ (by omega), Nat.testBit_xor, show (18446744073709551615 : Nat) = 2 ^ 64 - 1 from by decide, Nat.testBit_two_pow_sub_one]
  by_cases hi : i < 64
  · simp [hi]
  · have : a.testBit i = false := Nat.testBit_lt_two_pow (Nat.lt_of_lt_of_le h (Nat.pow_le_pow_right (n := 2) (by decide) (show 64 ≤ i by omega)))
    simp [hi, this]
theorem or_128 (a : Nat) (h : a < 256) : a ||| 128 = a % 128 + 128 := by
  have e : a = 128 * (a / 128) + a % 128 := by omega
  have h1 : a / 128 = 0 ∨ a / 128 = 1 := by omega
  rw [Nat.or_comm]
  rcases h1 with h1 | h1
  · rw [show a = a % 128 from by omega, Nat.mod_mod]
    have := Nat.two_pow_add_eq_or_of_lt (i := 7) (b := a % 128) (by omega) 1
    rw [show (2 : Nat) ^ 7 * 1 = 128 from rfl] at this
    omega
  · have h2 := Nat.two_pow_add_eq_or_of_lt (i := 7) (b := a % 128) (by omega) 1
    have e2 : a = 2 ^ 7 * 1 ||| a % 128 := by rw [← h2]; omega
    have e3 : (128 : Nat) = 2 ^ 7 * 1 := rfl
    rw [e3]
    conv => lhs; rw [e2]
    rw [← Nat.or_assoc, Nat.or_self, ← h2]
    omega
theorem or_128_u8 (k : Int) (h0 : 0 ≤ k) : bitsI .or .u8 (IntKind.u8.wrap k) 128 = ((k.toNat % 128 + 128 : Nat) : Int) := by
  rw [bitsI_eq, wrap_u8, u8_or _ _ (by omega) (by omega) (by omega) (by omega)]
  have e : (k % 256).toNat = k.toNat % 256 := by omega
  have e2 : (128 : Int).toNat = 128 := rfl
  rw [e, e2, or_128 _ (by omega)]
  omega

/-- zigzag -/
def zz (n : Int) : Nat := if 0 ≤ n then (2 * n).toNat else (-2 * n - 1).toNat
def I64 (n : Int) : Prop := -9223372036854775808 ≤ n ∧ n ≤ 9223372036854775807
theorem zz_bd (n : Int) (h : I64 n) : zz n < 18446744073709551616 := by
  obtain ⟨h0, h1⟩ := h
  unfold zz
  split <;> omega
theorem zz_bits (n : Int) (h : I64 n) :
    bitsI .xor .u64 (IntKind.u64.wrap (IntKind.u64.wrap n * 2)) (IntKind.u64.wrap (n.fdiv 9223372036854775808)) = zz n := by
  obtain ⟨h0, h1⟩ := h
  rw [bitsI_eq, Int.fdiv_eq_ediv_of_nonneg _ (by omega)]
  simp only [wrap_u64]
  by_cases h : 0 ≤ n
  · have e1 : n % 18446744073709551616 * 2 % 18446744073709551616 = 2 * n := by omega
    have e2 : n / 9223372036854775808 % 18446744073709551616 = 0 := by omega
    rw [e1, e2, u64_xor _ _ (by omega) (by omega) (by omega) (by omega)]
    simp only [zz, h, if_true, Int.toNat_zero, Nat.xor_zero]
  · have e1 : n % 18446744073709551616 * 2 % 18446744073709551616 = 2 * n + 18446744073709551616 := by omega
    have e2 : n / 9223372036854775808 % 18446744073709551616 = 18446744073709551615 := by omega
    rw [e1, e2, u64_xor _ _ (by omega) (by omega) (by omega) (by omega)]
    have e3 : (18446744073709551615 : Int).toNat = 18446744073709551615 := by omega
    rw [e3, xor_ones _ (by omega)]
    simp only [zz, h, if_false]
    omega
/-- base 128, least significant group first -/
def vint (z : Nat) : List UInt8 := if z < 128 then [UInt8.ofNat z] else UInt8.ofNat (z % 128 + 128) :: vint (z / 128)
termination_by z
decreasing_by omega
theorem vint_small {z : Nat} (h : z < 128) : vint z = [UInt8.ofNat z] := by rw [vint, if_pos h]
theorem vint_big {z : Nat} (h : ¬ z < 128) : vint z = UInt8.ofNat (z % 128 + 128) :: vint (z / 128) := by rw [vint, if_neg h]
theorem vint_len (k : Nat) : ∀ z, z < 128 ^ (k + 1) → (vint z).length ≤ k + 1 := by
  induction k with
  | zero => intro z h; rw [vint_small (by omega)]; simp
  | succ k ih =>
    intro z h
    by_cases hz : z < 128
    · rw [vint_small hz]; simp
    · rw [vint_big hz]
      have := ih (z / 128) (by rw [Nat.div_lt_iff_lt_mul (by decide)]; rw [Nat.pow_succ] at h; exact h)
      simp only [List.length_cons]
      omega
theorem vint_le (z : Nat) (h : z < 18446744073709551616) : (vint z).length ≤ 10 := vint_len 9 z (by omega)
theorem vint_pos (z : Nat) : 1 ≤ (vint z).length := by
  rw [vint]; split <;> simp
/-- an integer's encoding -/
def encI (n : Int) : List UInt8 := vint (zz n)
theorem encI_le (n : Int) (h : I64 n) : (encI n).length ≤ 10 := vint_le _ (zz_bd n h)
/-- the s low bytes of n, most significant first -/
def be (n : Nat) : Nat → List UInt8
  | 0 => []
  | s + 1 => UInt8.ofNat (n / 256 ^ s % 256) :: be n s
theorem be_len (n : Nat) (s : Nat) : (be n s).length = s := by
  induction s with
  | zero => rfl
  | succ s ih => simp [be, ih]
theorem be_step (n : Nat) (k : Nat) : (IntKind.u8.wrap ((n : Int).fdiv (2 ^ (min (8 * (k : Int)).toNat 64)))).toNat = n / 256 ^ k % 256 ∨ 64 ≤ 8 * k := by
  by_cases h : 64 ≤ 8 * k
  · exact .inr h
  · refine .inl ?_
    have e : min (8 * (k : Int)).toNat 64 = 8 * k := by omega
    rw [e, wrap_u8, Int.fdiv_eq_ediv_of_nonneg _ (Int.le_of_lt (Int.pow_pos (by omega)))]
    have e2 : (2 : Int) ^ (8 * k) = ((256 ^ k : Nat) : Int) := by rw [Int.pow_mul, Int.natCast_pow]; rfl
    rw [e2, ← Int.natCast_ediv]
    omega
/-- big-endian value -/
def beval : List UInt8 → Nat → Nat
  | [], n => n
  | x :: xs, n => beval xs (n * 256 + x.toNat)
theorem beval_snoc (xs : List UInt8) (x : UInt8) (n : Nat) : beval (xs ++ [x]) n = beval xs n * 256 + x.toNat := by
  induction xs generalizing n with
  | nil => rfl
  | cons y ys ih => simp only [List.cons_append, beval, ih]
theorem beval_bd (xs : List UInt8) (n k : Nat) (hn : n < 256 ^ k) : beval xs n < 256 ^ (k + xs.length) := by
  induction xs generalizing n k with
  | nil => simpa [beval] using hn
  | cons x xs ih =>
    have hx := u8_lt x
    have := ih (n * 256 + x.toNat) (k + 1) (by rw [Nat.pow_succ]; omega)
    simp only [beval, List.length_cons]
    rw [show k + (xs.length + 1) = k + 1 + xs.length from by omega]
    exact this
theorem beval_lt (xs : List UInt8) (h : xs.length ≤ 8) : beval xs 0 < 18446744073709551616 := by
  have := beval_bd xs 0 0 (by simp)
  have h2 : 256 ^ (0 + xs.length) ≤ 256 ^ 8 := Nat.pow_le_pow_right (by decide) (by omega)
  omega
theorem be_beval (xs : List UInt8) : be (beval xs 0) xs.length = xs := by
  have key : ∀ (xs : List UInt8) (n : Nat), be (beval xs n) xs.length = xs := by
    intro xs
    induction xs with
    | nil => intro n; rfl
    | cons x xs ih =>
      intro n
      simp only [beval, List.length_cons, be]
      rw [ih]
      congr 1
      have hb : ∀ (xs : List UInt8) (m : Nat), beval xs m / 256 ^ xs.length = m := by
        intro xs
        induction xs with
        | nil => intro m; simp [beval]
        | cons y ys ih2 =>
          intro m
          simp only [beval, List.length_cons]
          rw [Nat.pow_succ, ← Nat.div_div_eq_div_mul, ih2]
          have := u8_lt y
          omega
      rw [hb]
      apply UInt8.toNat_inj.1
      have := u8_lt x
      rw [u8_ofN _ (by omega)]
      omega
  exact key xs 0
theorem beval_be (n s : Nat) (h : n < 256 ^ s) : beval (be n s) 0 = n := by
  have key : ∀ (s m : Nat), beval (be n s) m = m * 256 ^ s + n % 256 ^ s := by
    intro s
    induction s with
    | zero => intro m; simp [be, beval, Nat.mod_one]
    | succ s ih =>
      intro m
      simp only [be, beval]
      rw [ih, u8_ofN _ (by omega), Nat.pow_succ, Nat.mod_mul, Nat.add_mul, Nat.mul_assoc, Nat.mul_comm 256 (256 ^ s), Nat.mul_comm (n / 256 ^ s % 256)]
      omega
  rw [key]
  simp [Nat.mod_eq_of_lt h]

theorem getD_take {ys : List UInt8} {k n : Nat} (h : k < n) : (ys.take n).getD k 0 = ys.getD k 0 := by
  simp only [List.getD_eq_getElem?_getD, List.getElem?_take, h, if_true]
/-- a base-128 number and how many bytes it has; none where there is none, or it is not written in the shortest way, or it does not fit 64 bits -/
def vdAux : Nat → Nat → List UInt8 → Option (Nat × Nat)
  | _, _, [] => none
  | i, z, x :: xs =>
    if i = 9 ∧ 1 < x.toNat then none
    else if x.toNat < 128 then (if x.toNat = 0 ∧ 0 < i then none else some (z + x.toNat % 128 * 128 ^ i, i + 1))
    else vdAux (i + 1) (z + x.toNat % 128 * 128 ^ i) xs
def vd (ys : List UInt8) : Option (Nat × Nat) := vdAux 0 0 ys
/-- back from zigzag -/
def unzz (z : Nat) : Int := if z % 2 = 0 then (z / 2 : Nat) else -((z / 2 : Nat) : Int) - 1

/-- the reader's state: none where a read failed; else what is left -/
def uintR (r : Option (List UInt8)) (s : Nat) : Nat × Option (List UInt8) :=
  match r with
  | none => (0, none)
  | some ys => if s ≤ ys.length then (beval (ys.take s) 0, some (ys.drop s)) else (0, none)
def intR (r : Option (List UInt8)) : Int × Option (List UInt8) :=
  match r with
  | none => (0, none)
  | some ys => match vd ys with
    | none => (0, none)
    | some (z, k) => (unzz z, some (ys.drop k))
def countR (r : Option (List UInt8)) (most : Int) : Int × Option (List UInt8) :=
  match intR r with
  | (n, none) => (n, none)
  | (n, some ys) => if n < 0 ∨ most < n then (0, none) else (n, some ys)
def blobR (r : Option (List UInt8)) (most : Int) : List UInt8 × Option (List UInt8) :=
  match countR r most with
  | (_, none) => ([], none)
  | (n, some ys) => if (ys.length : Int) < n then ([], none) else (ys.take n.toNat, some (ys.drop n.toNat))

theorem vdAux_le (xs : List UInt8) : ∀ i z a k, vdAux i z xs = some (a, k) → i < k ∧ k ≤ i + xs.length := by
  induction xs with
  | nil => intro i z a k h; simp [vdAux] at h
  | cons x xs ih =>
    intro i z a k h
    simp only [vdAux] at h
    split at h
    · cases h
    · split at h
      · split at h
        · cases h
        · simp only [Option.some.injEq, Prod.mk.injEq] at h
          simp only [List.length_cons]
          omega
      · have := ih _ _ _ _ h
        simp only [List.length_cons]
        omega
theorem vdAux_at {ys : List UInt8} {k q : Nat} (hk : k < ys.length) : vdAux k q (ys.drop k) = if k = 9 ∧ 1 < (ys.getD k 0).toNat then none
    else if (ys.getD k 0).toNat < 128 then (if (ys.getD k 0).toNat = 0 ∧ 0 < k then none else some (q + (ys.getD k 0).toNat % 128 * 128 ^ k, k + 1))
    else vdAux (k + 1) (q + (ys.getD k 0).toNat % 128 * 128 ^ k) (ys.drop (k + 1)) := by
  rw [List.drop_eq_getElem_cons hk, vdAux]
  simp only [List.getD_eq_getElem?_getD, List.getElem?_eq_getElem hk, Option.getD_some]
theorem grp_bd {q k x : Nat} (hq : q < 128 ^ k) : q + x % 128 * 128 ^ k < 128 ^ (k + 1) := by
  have h1 : x % 128 * 128 ^ k ≤ 127 * 128 ^ k := Nat.mul_le_mul_right _ (by omega)
  rw [Nat.pow_succ]
  omega
def grp (ys : List UInt8) : Nat × Nat := (vd ys).getD (0, 0)
theorem grp_none {ys : List UInt8} (h : none = vd ys) : grp ys = (0, 0) := by unfold grp; rw [← h]; rfl
theorem grp_some {ys : List UInt8} {p : Nat × Nat} (h : some p = vd ys) : grp ys = p := by unfold grp; rw [← h]; rfl
theorem vd_le {ys : List UInt8} {a k : Nat} (h : vd ys = some (a, k)) : 0 < k ∧ k ≤ ys.length := by
  have := vdAux_le ys 0 0 a k h
  omega
theorem vdAux_bd (xs : List UInt8) : ∀ i z a k, i ≤ 9 → z < 128 ^ i → vdAux i z xs = some (a, k) → a < 18446744073709551616 := by
  induction xs with
  | nil => intro i z a k _ _ h; simp [vdAux] at h
  | cons x xs ih =>
    intro i z a k hi hz h
    simp only [vdAux] at h
    split at h
    · cases h
    · rename_i h9
      have hm : z + x.toNat % 128 * 128 ^ i < 128 ^ (i + 1) := by
        have h1 : x.toNat % 128 < 128 := Nat.mod_lt _ (by decide)
        have h2 : x.toNat % 128 * 128 ^ i ≤ 127 * 128 ^ i := Nat.mul_le_mul_right _ (by omega)
        rw [Nat.pow_succ]
        omega
      split at h
      · split at h
        · cases h
        · simp only [Option.some.injEq, Prod.mk.injEq] at h
          rcases Nat.lt_or_ge i 9 with h8 | h8
          · have : 128 ^ (i + 1) ≤ 128 ^ 9 := Nat.pow_le_pow_right (by decide) (by omega)
            omega
          · have hi9 : i = 9 := by omega
            subst hi9
            have : x.toNat % 128 ≤ 1 := by omega
            have : x.toNat % 128 * 128 ^ 9 ≤ 1 * 128 ^ 9 := Nat.mul_le_mul_right _ this
            omega
      · rcases Nat.lt_or_ge i 9 with h8 | h8
        · exact ih _ _ _ _ (by omega) hm h
        · omega
theorem vd_bd {ys : List UInt8} {a k : Nat} (h : vd ys = some (a, k)) : a < 18446744073709551616 :=
  vdAux_bd ys 0 0 a k (by omega) (by simp) h
theorem unzz_bd {z : Nat} (h : z < 18446744073709551616) : I64 (unzz z) := by
  unfold unzz
  split <;> exact ⟨by omega, by omega⟩
theorem or_step (m x : Nat) (h1 : m < 72057594037927936) (hx : x ≤ 255) : bitsI .or .u64 (IntKind.u64.wrap ((m : Int) * 256)) (IntKind.u64.wrap (x : Int)) = ((m * 256 + x : Nat) : Int) := by
  have e1 : IntKind.u64.wrap ((m : Int) * 256) = ((m * 256 : Nat) : Int) := by rw [wrap_u64]; omega
  have e2 : IntKind.u64.wrap (x : Int) = (x : Int) := by rw [wrap_u64]; omega
  rw [bitsI_eq, e1, e2, u64_or_nat _ _ (by omega) (by omega)]
  have h := Nat.two_pow_add_eq_or_of_lt (i := 8) (b := x) (by omega) m
  have e3 : m * 256 = 2 ^ 8 * m := by omega
  rw [e3, ← h]
theorem beval_take {ys : List UInt8} {k : Nat} (hk : k < ys.length) (h7 : k ≤ 7) : bitsI .or .u64 (IntKind.u64.wrap ((beval (ys.take k) 0 : Nat) * 256)) (IntKind.u64.wrap ((ys.getD k 0).toNat : Int)) = (beval (ys.take (k + 1)) 0 : Nat) := by
  have h1 := beval_bd (ys.take k) 0 0 (by simp)
  have h2 : 256 ^ (0 + (ys.take k).length) ≤ 256 ^ 7 := Nat.pow_le_pow_right (by decide) (by rw [List.length_take]; omega)
  have h3 := u8_lt (ys.getD k 0)
  have e : ys.take (k + 1) = ys.take k ++ [ys.getD k 0] := by
    rw [List.take_succ_eq_append_getElem hk]
    simp [List.getD_eq_getElem?_getD, List.getElem?_eq_getElem hk]
  rw [e, beval_snoc, or_step _ _ (by omega) (by omega)]
theorem grp_step (q k x : Nat) (hx : x ≤ 255) (hq : q < 128 ^ k) (h9 : k ≤ 9) (h1 : ¬ (k = 9 ∧ 1 < x)) :
    bitsI .or .u64 (q : Int) (IntKind.u64.wrap (IntKind.u64.wrap (bitsI .and .u8 (x : Int) 127) * 2 ^ (7 * k))) = ((q + x % 128 * 128 ^ k : Nat) : Int) := by
  rw [bitsI_eq, bitsI_eq]
  have e0 : x &&& 127 = x % 128 := Nat.and_two_pow_sub_one_eq_mod x 7
  have e1 : bits .and .u8 (x : Int) 127 = ((x % 128 : Nat) : Int) := by
    rw [u8_and _ _ (by omega) (by omega) (by omega) (by omega)]
    exact_mod_cast e0
  have ep : (2 : Nat) ^ (7 * k) = 128 ^ k := by rw [Nat.pow_mul]
  have hm : x % 128 * 128 ^ k < 18446744073709551616 := by
    rcases Nat.lt_or_ge k 9 with h | h
    · have h2 : (128 : Nat) ^ k ≤ 72057594037927936 := Nat.pow_le_pow_right (n := 128) (i := k) (j := 8) (by decide) (by omega)
      have h3 : x % 128 * 128 ^ k ≤ 127 * 72057594037927936 := Nat.mul_le_mul (by omega) h2
      omega
    · have hk : k = 9 := by omega
      subst hk
      have h3 : x % 128 * 128 ^ 9 ≤ 1 * 128 ^ 9 := Nat.mul_le_mul_right _ (by omega)
      have h4 : (128 : Nat) ^ 9 = 9223372036854775808 := rfl
      rw [h4] at h3 ⊢
      omega
  have hq2 : q < 18446744073709551616 := by
    have h2 : (128 : Nat) ^ k ≤ 9223372036854775808 := Nat.pow_le_pow_right (n := 128) (i := k) (j := 9) (by decide) h9
    omega
  have e2 : (2 : Int) ^ (7 * k) = ((128 ^ k : Nat) : Int) := by rw [← ep, Int.natCast_pow]; rfl
  have e3 : IntKind.u64.wrap ((x % 128 : Nat) : Int) = ((x % 128 : Nat) : Int) := by rw [wrap_u64]; omega
  rw [e1, e3, e2, ← Int.natCast_mul]
  have e4 : IntKind.u64.wrap ((x % 128 * 128 ^ k : Nat) : Int) = ((x % 128 * 128 ^ k : Nat) : Int) := by rw [wrap_u64]; omega
  rw [e4, u64_or_nat _ _ hq2 hm]
  have h5 := Nat.two_pow_add_eq_or_of_lt (i := 7 * k) (b := q) (by rw [ep]; exact hq) (x % 128)
  rw [ep, Nat.mul_comm] at h5
  rw [Nat.or_comm, ← h5, Nat.add_comm]
theorem i64_xor_ones (m : Nat) (h : m < 9223372036854775808) : bits .xor .i64 (m : Int) (-1) = -(m : Int) - 1 := by
  show IntKind.i64.wrap ((BitVec.ofInt 64 (m : Int) ^^^ BitVec.ofInt 64 (-1)).toNat : Int) = _
  have e1 : (BitVec.ofInt 64 (m : Int)).toNat = m := ofInt_u64 m (by omega)
  have e2 : (BitVec.ofInt 64 (-1)).toNat = 18446744073709551615 := by decide
  rw [BitVec.toNat_xor, e1, e2, xor_ones m (by omega), IntKind.wrap_i64]
  omega
theorem i64_xor_zero (m : Nat) (h : m < 9223372036854775808) : bits .xor .i64 (m : Int) 0 = (m : Int) := by
  show IntKind.i64.wrap ((BitVec.ofInt 64 (m : Int) ^^^ BitVec.ofInt 64 0).toNat : Int) = _
  have e1 : (BitVec.ofInt 64 (m : Int)).toNat = m := ofInt_u64 m (by omega)
  have e2 : (BitVec.ofInt 64 0).toNat = 0 := by decide
  rw [BitVec.toNat_xor, e1, e2, Nat.xor_zero, IntKind.wrap_i64]
  omega
theorem unzz_bits (z : Nat) (h : z < 18446744073709551616) : bitsI .xor .i64 (IntKind.i64.wrap ((z : Int).fdiv 2)) (IntKind.i64.wrap (0 - (IntKind.i64.wrap (bitsI .and .u64 (z : Int) 1)))) = unzz z := by
  rw [bitsI_eq, bitsI_eq, Int.fdiv_eq_ediv_of_nonneg _ (by omega)]
  have e0 : bits .and .u64 (z : Int) 1 = ((z % 2 : Nat) : Int) := by
    have := u64_and_nat z 1 h (by decide)
    rw [Nat.and_one_is_mod] at this
    exact this
  have e1 : IntKind.i64.wrap ((z : Int) / 2) = ((z / 2 : Nat) : Int) := by
    rw [wrap_i64 _ (by omega) (by omega)]
    omega
  have e2 : IntKind.i64.wrap ((z % 2 : Nat) : Int) = ((z % 2 : Nat) : Int) := wrap_i64 _ (by omega) (by omega)
  have e3 : IntKind.i64.wrap (0 - ((z % 2 : Nat) : Int)) = -((z % 2 : Nat) : Int) := by rw [wrap_i64 _ (by omega) (by omega)]; omega
  rw [e0, e1, e2, e3]
  unfold unzz
  rcases Nat.mod_two_eq_zero_or_one z with hz | hz
  · rw [hz, if_pos rfl]
    exact i64_xor_zero _ (by omega)
  · rw [hz, if_neg (by decide)]
    exact i64_xor_ones _ (by omega)
theorem zz_unzz (z : Nat) : zz (unzz z) = z := by
  unfold unzz zz
  split <;> split <;> omega
theorem unzz_zz (n : Int) : unzz (zz n) = n := by
  unfold unzz zz
  split <;> split <;> omega

/-- what has been read of a base-128 number: k groups, their value q -/
def VPre (ys : List UInt8) (k q : Nat) : Prop := q < 128 ^ k ∧ ∀ t : Nat, 0 < t ∨ k = 0 → vint (q + t * 128 ^ k) = ys.take k ++ vint t
theorem VPre.zero (ys : List UInt8) : VPre ys 0 0 := ⟨by simp, fun t _ => by simp⟩
theorem take_getD {ys : List UInt8} {k : Nat} (hk : k < ys.length) : ys.take (k + 1) = ys.take k ++ [ys.getD k 0] := by
  rw [List.take_succ_eq_append_getElem hk]
  simp [List.getD_eq_getElem?_getD, List.getElem?_eq_getElem hk]
theorem VPre.step {ys : List UInt8} {k q : Nat} (h : VPre ys k q) (hk : k < ys.length) (h1 : 128 ≤ (ys.getD k 0).toNat) : VPre ys (k + 1) (q + (ys.getD k 0).toNat % 128 * 128 ^ k) := by
  have ht := take_getD hk
  have h2 := u8_lt (ys.getD k 0)
  generalize ys.getD k 0 = x at h1 h2 ht ⊢
  refine ⟨?_, fun t h0 => ?_⟩
  · have := h.1
    have h3 : x.toNat % 128 * 128 ^ k ≤ 127 * 128 ^ k := Nat.mul_le_mul_right _ (by omega)
    rw [Nat.pow_succ]
    omega
  · have ht0 : 0 < t := by
      rcases h0 with h0 | h0
      · exact h0
      · omega
    have e : q + x.toNat % 128 * 128 ^ k + t * 128 ^ (k + 1) = q + (x.toNat % 128 + t * 128) * 128 ^ k := by
      rw [Nat.pow_succ, Nat.add_mul, Nat.mul_assoc t 128, Nat.mul_comm 128 (128 ^ k)]
      omega
    rw [e, h.2 _ (.inl (by omega)), vint_big (by omega), ht]
    have e1 : UInt8.ofNat ((x.toNat % 128 + t * 128) % 128 + 128) = x := by
      apply UInt8.toNat_inj.1
      rw [u8_ofN _ (by omega)]
      omega
    have e2 : (x.toNat % 128 + t * 128) / 128 = t := by omega
    rw [e1, e2]
    simp
/-- a last group: it is written in the shortest way and fits, or else what the value is encoded as differs -/
theorem VPre.last {ys : List UInt8} {k q : Nat} (h : VPre ys k q) (hk : k < ys.length) (hk9 : k ≤ 9) (h2 : (ys.getD k 0).toNat < 128) (z : Nat) (hz : z = (q + (ys.getD k 0).toNat * 128 ^ k) % 18446744073709551616) :
    vint z = ys.take (k + 1) ↔ ¬ (k = 9 ∧ 1 < (ys.getD k 0).toNat) ∧ ¬ ((ys.getD k 0).toNat = 0 ∧ 0 < k) := by
  have ht := take_getD hk
  generalize ys.getD k 0 = x at h2 ht hz ⊢
  have hlen : (ys.take k).length = k := by rw [List.length_take]; omega
  by_cases h0 : x.toNat = 0 ∧ 0 < k
  · constructor
    · intro e
      exfalso
      obtain ⟨hx0, h0⟩ := h0
      have h128 : (128 : Nat) ^ k ≤ 9223372036854775808 := Nat.pow_le_pow_right (n := 128) (i := k) (j := 9) (by decide) hk9
      have hq := h.1
      have hzq : z = q := by
        rw [hz, hx0]
        simp
        omega
      obtain ⟨j, rfl⟩ : ∃ j, k = j + 1 := ⟨k - 1, by omega⟩
      have := vint_len j q hq
      rw [hzq, ht] at e
      have e2 := congrArg List.length e
      rw [List.length_append, hlen] at e2
      simp at e2
      omega
    · rintro ⟨_, h3⟩
      exact absurd h0 h3
  · by_cases h9 : k = 9 ∧ 1 < x.toNat
    · constructor
      · intro e
        exfalso
        obtain ⟨rfl, h9⟩ := h9
        have hq := h.1
        have e128 : (128 : Nat) ^ 9 = 9223372036854775808 := rfl
        rw [e128] at hq hz
        have hzz : z = q + x.toNat % 2 * 9223372036854775808 := by omega
        rcases Nat.mod_two_eq_zero_or_one x.toNat with hx | hx
        · rw [hx] at hzz
          have := vint_len 8 q hq
          rw [show z = q from by omega, ht] at e
          have e2 := congrArg List.length e
          rw [List.length_append, hlen] at e2
          simp at e2
          omega
        · rw [hx] at hzz
          have h3 := h.2 1 (.inl (by omega))
          rw [e128, ← hzz, e, ht, vint_small (by omega)] at h3
          have h4 := List.append_cancel_left h3
          simp at h4
          have := congrArg UInt8.toNat h4
          simp at this
          omega
      · rintro ⟨h3, _⟩
        exact absurd h9 h3
    · constructor
      · exact fun _ => ⟨h9, h0⟩
      · intro _
        have hfit : q + x.toNat * 128 ^ k < 18446744073709551616 := by
          have hq := h.1
          rcases Nat.lt_or_ge k 9 with h8 | h8
          · have h3 : (128 : Nat) ^ k ≤ 72057594037927936 := Nat.pow_le_pow_right (n := 128) (i := k) (j := 8) (by decide) (by omega)
            have h4 : x.toNat * 128 ^ k ≤ 127 * 72057594037927936 := Nat.mul_le_mul (by omega) h3
            omega
          · have hk : k = 9 := by omega
            subst hk
            have e128 : (128 : Nat) ^ 9 = 9223372036854775808 := rfl
            rw [e128] at hq ⊢
            omega
        have e : z = q + x.toNat * 128 ^ k := by rw [hz]; exact Nat.mod_eq_of_lt hfit
        rw [e, h.2 _ (by omega), ht, vint_small (by omega)]
        simp
theorem ti_z (q S x : Nat) : IntKind.u64.wrap (((q % 18446744073709551616 : Nat) : Int) + IntKind.u64.wrap (((S % 18446744073709551616 : Nat) : Int) * IntKind.u64.wrap ((x : Int).tmod 128))) = (((q + S * (x % 128)) % 18446744073709551616 : Nat) : Int) := by
  rw [Int.tmod_eq_emod_of_nonneg (by omega)]
  simp only [wrap_u64]
  have e1 : (x : Int) % 128 % 18446744073709551616 = ((x % 128 : Nat) : Int) := by omega
  rw [e1, ← Int.natCast_mul]
  have e2 : (((S % 18446744073709551616 * (x % 128) : Nat) : Int) % 18446744073709551616) = ((S % 18446744073709551616 * (x % 128) % 18446744073709551616 : Nat) : Int) := by omega
  have e3 : S % 18446744073709551616 * (x % 128) % 18446744073709551616 = S * (x % 128) % 18446744073709551616 := by rw [Nat.mul_mod, Nat.mod_mod, ← Nat.mul_mod]
  rw [e2, e3]
  generalize S * (x % 128) = P
  omega
theorem ti_s (S : Nat) : IntKind.u64.wrap (((S % 18446744073709551616 : Nat) : Int) * 128) = ((S * 128 % 18446744073709551616 : Nat) : Int) := by
  rw [wrap_u64]
  omega
theorem ti_n (z : Nat) (hz : z < 18446744073709551616) : IntKind.i64.wrap (IntKind.u64.wrap ((z : Int).tdiv 2)) = ((z / 2 : Nat) : Int) := by
  rw [Int.tdiv_eq_ediv_of_nonneg (by omega), wrap_u64, wrap_i64 _ (by omega) (by omega)]
  omega
theorem ti_neg (m : Nat) (hm : m < 9223372036854775808) : IntKind.i64.wrap (IntKind.i64.wrap (0 - (m : Int)) - 1) = -(m : Int) - 1 := by
  rw [wrap_i64 (0 - _) (by omega) (by omega), wrap_i64 _ (by omega) (by omega)]
  omega
theorem ti_m (z : Nat) : ((z : Int).tmod 2 = 1) = (z % 2 = 1) := by
  rw [Int.tmod_eq_emod_of_nonneg (by omega)]
  apply propext
  omega
/-- what ref03.TakeInt answers -/
def tki (ys : List UInt8) : Int × Nat := match vd ys with
  | some (z, k) => (unzz z, k)
  | none => (0, 0)
theorem tki_end {ys : List UInt8} {k q z : Nat} (h1 : vdAux k q (ys.drop k) = vd ys) (h2 : VPre ys k q) (hk : k < ys.length) (hk9 : k ≤ 9) (hx : (ys.getD k 0).toNat < 128) (hz : (q + 128 ^ k * ((ys.getD k 0).toNat % 128)) % 18446744073709551616 = z) :
    (encI (unzz z) = ys.take (k + 1) → tki ys = (unzz z, k + 1)) ∧ (¬ encI (unzz z) = ys.take (k + 1) → tki ys = (0, 0)) := by
  have hl := VPre.last h2 hk hk9 hx z (by rw [← hz, Nat.mod_eq_of_lt hx, Nat.mul_comm])
  rw [vdAux_at hk] at h1
  rw [encI, zz_unzz, hl]
  unfold tki
  rw [← h1]
  by_cases a : k = 9 ∧ 1 < (ys.getD k 0).toNat
  · rw [if_pos a]
    exact ⟨fun h => absurd a h.1, fun _ => rfl⟩
  · by_cases b : (ys.getD k 0).toNat = 0 ∧ 0 < k
    · rw [if_neg a, if_pos hx, if_pos b]
      exact ⟨fun h => absurd b h.2, fun _ => rfl⟩
    · rw [if_neg a, if_pos hx, if_neg b]
      refine ⟨fun _ => ?_, fun h => absurd ⟨a, b⟩ h⟩
      have hb : q + (ys.getD k 0).toNat % 128 * 128 ^ k < 18446744073709551616 := by
        rw [if_neg a, if_pos hx, if_neg b] at h1
        exact vd_bd h1.symm
      rw [← hz, Nat.mul_comm (128 ^ k), Nat.mod_eq_of_lt hb]
theorem tki_step {ys : List UInt8} {k q : Nat} (h1 : vdAux k q (ys.drop k) = vd ys) (hk : k < ys.length) (hx : 127 < (ys.getD k 0).toNat) : (k + 1 < 10 → vdAux (k + 1) (q + (ys.getD k 0).toNat % 128 * 128 ^ k) (ys.drop (k + 1)) = vd ys) ∧ (k + 1 = 10 → vd ys = none) := by
  rw [vdAux_at hk, if_neg (show ¬ (ys.getD k 0).toNat < 128 by omega)] at h1
  refine ⟨fun h => ?_, fun h => ?_⟩
  · rw [if_neg (by omega)] at h1
    exact h1
  · rw [if_pos (by omega)] at h1
    exact h1.symm
theorem tki_out {ys : List UInt8} {k q : Nat} (h1 : vdAux k q (ys.drop k) = vd ys) (hk : ys.length ≤ k) : tki ys = (0, 0) := by
  rw [List.drop_eq_nil_of_le hk, vdAux] at h1
  unfold tki
  rw [← h1]
theorem tki_none {ys : List UInt8} (h1 : vd ys = none) : tki ys = (0, 0) := by
  unfold tki
  rw [h1]
theorem unzz_even {z : Nat} (h : ¬ z % 2 = 1) : ((z / 2 : Nat) : Int) = unzz z := by unfold unzz; rw [if_pos (by omega)]
theorem unzz_odd {z : Nat} (h : z % 2 = 1) : -((z / 2 : Nat) : Int) - 1 = unzz z := by unfold unzz; rw [if_neg (by omega)]
end Go.V
