/-
  Commands as bytes: what encoding and decoding say, and that they are inverse.
-/
import Derived.Test.YtmfhicbbhncddaaTab
set_option linter.unusedVariables false
set_option linter.unusedSimpArgs false
set_option maxRecDepth 100000
namespace Go.V
open Go.Proofs
theorem vdAux_vint (xs : List UInt8) : ∀ z i q : Nat, (0 < z ∨ i = 0) → i ≤ 9 → z * 128 ^ i < 18446744073709551616 → vdAux i q (vint z ++ xs) = some (q + z * 128 ^ i, i + (vint z).length) := by
  intro z
  induction z using Nat.strongRecOn with
  | _ z ih =>
    intro i q h0 hi hz
    have e9 : (128 : Nat) ^ 9 = 9223372036854775808 := rfl
    by_cases hs : z < 128
    · rw [vint_small hs]
      have hx : (UInt8.ofNat z).toNat = z := u8_ofN z (by omega)
      rw [List.singleton_append, vdAux, hx, if_neg, if_pos hs, if_neg (by omega), Nat.mod_eq_of_lt hs]
      · rfl
      · rintro ⟨rfl, h1⟩
        omega
    · rw [vint_big hs]
      have hx : (UInt8.ofNat (z % 128 + 128)).toNat = z % 128 + 128 := u8_ofN _ (by omega)
      have hi8 : i < 9 := by
        rcases Nat.lt_or_ge i 9 with h | h
        · exact h
        · have : i = 9 := by omega
          subst this
          omega
      have hd : z = z / 128 * 128 + z % 128 := by omega
      have hm : z * 128 ^ i = z / 128 * 128 ^ (i + 1) + z % 128 * 128 ^ i := by
        rw [Nat.pow_succ, Nat.mul_comm (128 ^ i) 128, ← Nat.mul_assoc, ← Nat.add_mul, ← hd]
      rw [List.cons_append, vdAux, hx, if_neg (by omega), if_neg (by omega), ih (z / 128) (by omega) (i + 1) _ (by omega) (by omega) (by omega)]
      rw [show (z % 128 + 128) % 128 = z % 128 by omega]
      simp only [Option.some.injEq, Prod.mk.injEq, List.length_cons]
      refine ⟨by omega, by omega⟩
theorem vd_vint (z : Nat) (xs : List UInt8) (hz : z < 18446744073709551616) : vd (vint z ++ xs) = some (z, (vint z).length) := by
  have := vdAux_vint xs z 0 0 (.inr rfl) (by omega) (by omega)
  simpa [vd] using this
theorem intR_enc (n : Int) (hn : I64 n) (xs : List UInt8) : intR (some (encI n ++ xs)) = (n, some xs) := by
  simp only [intR, encI, vd_vint _ _ (zz_bd n hn), unzz_zz, List.drop_left]
theorem uintR_be (n s : Nat) (h : n < 256 ^ s) (xs : List UInt8) : uintR (some (be n s ++ xs)) s = (n, some xs) := by
  have hl := be_len n s
  have e1 : (be n s ++ xs).take s = be n s := List.take_left' hl
  have e2 : (be n s ++ xs).drop s = xs := List.drop_left' hl
  rw [uintR, if_pos (by simp [hl]), e1, e2, beval_be n s h]
theorem blobR_enc (bs xs : List UInt8) (most : Int) (h : (bs.length : Int) ≤ most) (h2 : bs.length ≤ 1099511627776) : blobR (some (encI bs.length ++ bs ++ xs)) most = (bs, some xs) := by
  have e1 : countR (some (encI bs.length ++ bs ++ xs)) most = ((bs.length : Int), some (bs ++ xs)) := by
    have e0 : intR (some (encI bs.length ++ bs ++ xs)) = ((bs.length : Int), some (bs ++ xs)) := by
      rw [List.append_assoc, intR_enc _ (by constructor <;> omega)]
    simp only [countR, e0]
    rw [if_neg (by omega)]
  simp only [blobR, e1]
  rw [if_neg (by simp; omega)]
  simp
def intsR (r : Option (List UInt8)) : Nat → List Int × Option (List UInt8)
  | 0 => ([], r)
  | k + 1 => ((intsR r k).1 ++ [(intR (intsR r k).2).1], (intR (intsR r k).2).2)
theorem intsR_len (r : Option (List UInt8)) (k : Nat) : (intsR r k).1.length = k := by
  induction k with
  | zero => rfl
  | succ k ih => simp [intsR, ih]
theorem intsR_enc (zs : List Int) (ha : ∀ a ∈ zs, I64 a) (xs : List UInt8) (k : Nat) (hk : k ≤ zs.length) : intsR (some (zs.flatMap encI ++ xs)) k = (zs.take k, some ((zs.drop k).flatMap encI ++ xs)) := by
  induction k with
  | zero => simp [intsR]
  | succ k ih =>
    have hl : k < zs.length := by omega
    rw [intsR, ih (by omega)]
    simp only
    rw [List.drop_eq_getElem_cons hl, List.flatMap_cons, List.append_assoc, intR_enc _ (ha _ (List.getElem_mem hl)), List.take_succ_eq_append_getElem hl]
def dataS (s : Int) : Bool := argN s 1 == 1
/-- a command that may be sent -/
def validC (c : Cmd) : Bool := okS c.srv && decide (0 ≤ c.src) && decide (c.src ≤ 15) && decide (0 ≤ c.num) && decide (c.num ≤ 65535) && decide ((c.args.length : Int) = argN c.srv 0)
  && c.args.all (fun a => decide (-1099511627776 ≤ a) && decide (a ≤ 1099511627776))
  && (if dataS c.srv = true then decide (1 ≤ c.data.length) && decide (c.data.length ≤ 512) else decide (c.data.length = 0))
def encC (c : Cmd) : List UInt8 := be c.src.toNat 1 ++ be c.num.toNat 2 ++ be c.srv.toNat 1 ++ c.args.flatMap encI ++ (if dataS c.srv = true then encI c.data.length ++ c.data else [])
/-- reading one: the command, and what is left -/
def rdC (b : List UInt8) : Cmd × Option (List UInt8) :=
  let p := uintR (some b) 1
  let q := uintR p.2 2
  let s := uintR q.2 1
  let a := intsR s.2 (argN s.1 0).toNat
  let d := if dataS s.1 = true then blobR a.2 512 else ([], a.2)
  (⟨p.1, q.1, s.1, a.1, d.1⟩, d.2)
def decC (b : List UInt8) : Option Cmd := if (rdC b).2 = some [] ∧ validC (rdC b).1 = true ∧ encC (rdC b).1 = b then some (rdC b).1 else none
theorem validC_iff (c : Cmd) : validC c = true ↔ okS c.srv = true ∧ 0 ≤ c.src ∧ c.src ≤ 15 ∧ 0 ≤ c.num ∧ c.num ≤ 65535 ∧ (c.args.length : Int) = argN c.srv 0
  ∧ (∀ a ∈ c.args, -1099511627776 ≤ a ∧ a ≤ 1099511627776) ∧ (if dataS c.srv = true then 1 ≤ c.data.length ∧ c.data.length ≤ 512 else c.data.length = 0) := by
  unfold validC
  split <;> simp [and_assoc]
theorem okS_iff (s : Int) : okS s = true ↔ 1 ≤ s ∧ s ≤ 28 := by simp [okS]
theorem rdC_enc {c : Cmd} (h : validC c = true) : rdC (encC c) = (c, some []) := by
  rw [validC_iff] at h
  obtain ⟨h1, h2, h3, h4, h5, h6, h7, h8⟩ := h
  rw [okS_iff] at h1
  have e1 : uintR (some (encC c)) 1 = (c.src.toNat, some (be c.num.toNat 2 ++ (be c.srv.toNat 1 ++ (c.args.flatMap encI ++ (if dataS c.srv = true then encI c.data.length ++ c.data else []))))) := by
    rw [encC]
    simp only [List.append_assoc]
    exact uintR_be _ _ (by omega) _
  have e2 := uintR_be c.num.toNat 2 (by omega) (be c.srv.toNat 1 ++ (c.args.flatMap encI ++ (if dataS c.srv = true then encI c.data.length ++ c.data else [])))
  have e3 := uintR_be c.srv.toNat 1 (by omega) (c.args.flatMap encI ++ (if dataS c.srv = true then encI c.data.length ++ c.data else []))
  have hs : ((c.srv.toNat : Nat) : Int) = c.srv := by omega
  have ha : ∀ a ∈ c.args, I64 a := fun a ha => by have := h7 a ha; constructor <;> omega
  have e4 := intsR_enc c.args ha (if dataS c.srv = true then encI c.data.length ++ c.data else []) c.args.length (Nat.le_refl _)
  rw [List.take_length, List.drop_length, List.flatMap_nil, List.nil_append] at e4
  have hl : (argN c.srv 0).toNat = c.args.length := by omega
  unfold rdC
  simp only [e1, e2, e3, hs, hl, e4]
  by_cases hd : dataS c.srv = true
  · rw [if_pos hd] at h8 ⊢
    have e5 := blobR_enc c.data [] 512 (by omega) (by omega)
    rw [List.append_nil] at e5
    simp only [hd, if_true, e5]
    rw [show ((c.src.toNat : Nat) : Int) = c.src by omega, show ((c.num.toNat : Nat) : Int) = c.num by omega]
  · rw [if_neg hd] at h8 ⊢
    simp only [hd]
    have : c.data = [] := List.eq_nil_of_length_eq_zero h8
    rw [show ((c.src.toNat : Nat) : Int) = c.src by omega, show ((c.num.toNat : Nat) : Int) = c.num by omega]
    obtain ⟨a, b, d, e, f⟩ := c
    simp only at this
    subst this
    rfl
theorem dec_enc {c : Cmd} (h : validC c = true) : decC (encC c) = some c := by
  rw [decC, rdC_enc h]
  simp [h]
theorem enc_inj {c d : Cmd} (hc : validC c = true) (hd : validC d = true) (e : encC c = encC d) : c = d := by
  have h1 := dec_enc hc
  rw [e, dec_enc hd] at h1
  exact (Option.some.inj h1).symm
theorem arg0_le (s : Int) : argN s 0 ≤ 3 := by
  have k : ∀ x ∈ rowsL, x.getD 0 0 ≤ 3 := by decide
  unfold argN rowL
  split
  · decide
  · rw [List.getD_eq_getElem?_getD (l := rowsL)]
    cases e : rowsL[s.toNat - 1]? with
    | none => decide
    | some x => exact k x (List.mem_of_getElem? e)
theorem encs_len : ∀ zs : List Int, (∀ a ∈ zs, -1099511627776 ≤ a ∧ a ≤ 1099511627776) → (zs.flatMap encI).length ≤ 10 * zs.length := by
  intro zs
  induction zs with
  | nil => intro _; simp
  | cons a zs ih =>
    intro ha
    have := ih fun x hx => ha x (List.mem_cons_of_mem _ hx)
    have h0 := ha a (List.mem_cons_self ..)
    have := encI_le a (by constructor <;> omega)
    simp only [List.flatMap_cons, List.length_append, List.length_cons]
    omega
theorem encC_len {c : Cmd} (h : validC c = true) : (encC c).length ≤ 600 := by
  rw [validC_iff] at h
  obtain ⟨h1, h2, h3, h4, h5, h6, h7, h8⟩ := h
  have hal := arg0_le c.srv
  have hf := encs_len
  have := hf c.args h7
  have := encI_le c.data.length (by split at h8 <;> constructor <;> omega)
  unfold encC
  simp only [List.length_append, be_len]
  split at h8 <;> rename_i hd
  · rw [if_pos hd]
    simp only [List.length_append]
    omega
  · rw [if_neg hd]
    simp only [List.length_nil]
    omega
end Go.V
