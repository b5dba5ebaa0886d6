/-
  Steps of sequences: how they are read; what is read is what was encoded.
  Steps: zero, compares; right and Step.
-/
import Derived.Test.YtpnfoffggcfhfaaPart16
set_option linter.unusedVariables false
set_option linter.unusedSimpArgs false
set_option maxRecDepth 100000
namespace Go.V
open Go.Proofs
theorem vdAux_canon (xs : List UInt8) : ∀ i q a k, vdAux i q xs = some (a, k) → ∃ z, (0 < z ∨ i = 0) ∧ a = q + z * 128 ^ i ∧ vint z ++ xs.drop (k - i) = xs := by
  induction xs with
  | nil => intro i q a k h; simp [vdAux] at h
  | cons x xs ih =>
    intro i q a k h
    have hxl := u8_lt x
    rw [vdAux] at h
    split at h
    · cases h
    · split at h
      · rename_i hs
        split at h
        · cases h
        · rename_i h0
          simp only [Option.some.injEq, Prod.mk.injEq] at h
          obtain ⟨h1, rfl⟩ := h
          refine ⟨x.toNat, by omega, ?_, ?_⟩
          · rw [← h1, Nat.mod_eq_of_lt hs]
          · rw [vint_small hs, show i + 1 - i = 1 by omega, UInt8.ofNat_toNat]
            rfl
      · rename_i hs
        obtain ⟨z, hz0, hz, hd⟩ := ih _ _ _ _ h
        have hk := vdAux_le xs _ _ _ _ h
        have e1 : (z * 128 + x.toNat % 128) / 128 = z := by omega
        have e2 : (z * 128 + x.toNat % 128) % 128 + 128 = x.toNat := by omega
        refine ⟨z * 128 + x.toNat % 128, by omega, ?_, ?_⟩
        · rw [hz, Nat.add_mul, Nat.pow_succ, Nat.mul_comm (128 ^ i) 128, ← Nat.mul_assoc]
          omega
        · rw [vint_big (by omega), e1, e2, UInt8.ofNat_toNat, show k - i = (k - (i + 1)) + 1 by omega, List.drop_succ_cons, List.cons_append, hd]
theorem intR_canon {b : List UInt8} {n : Int} {rest : List UInt8} (h : intR (some b) = (n, some rest)) : b = encI n ++ rest := by
  unfold intR at h
  simp only at h
  split at h
  · cases h
  · rename_i z k e
    simp only [Prod.mk.injEq, Option.some.injEq] at h
    obtain ⟨rfl, rfl⟩ := h
    obtain ⟨w, _, h1, h2⟩ := vdAux_canon b 0 0 z k e
    rw [Nat.pow_zero, Nat.mul_one, Nat.zero_add] at h1
    rw [encI, zz_unzz, h1]
    exact h2.symm
theorem uintR_canon {b : List UInt8} {s n : Nat} {rest : List UInt8} (h : uintR (some b) s = (n, some rest)) : b = be n s ++ rest := by
  unfold uintR at h
  simp only at h
  split at h
  · rename_i hl
    simp only [Prod.mk.injEq, Option.some.injEq] at h
    obtain ⟨rfl, rfl⟩ := h
    have := be_beval (b.take s)
    rw [List.length_take, Nat.min_eq_left hl] at this
    rw [this, List.take_append_drop]
  · cases h
theorem blobR_canon {b : List UInt8} {m : Int} {d rest : List UInt8} (h : blobR (some b) m = (d, some rest)) : b = encI d.length ++ d ++ rest := by
  unfold blobR countR at h
  rcases e : intR (some b) with ⟨n, _ | ys⟩
  · rw [e] at h; cases h
  · rw [e] at h
    have hb := intR_canon e
    simp only at h
    split at h
    · cases h
    · rename_i n' ys' hq
      split at hq
      · cases hq
      · rename_i hn
        simp only [Prod.mk.injEq, Option.some.injEq] at hq
        obtain ⟨rfl, rfl⟩ := hq
        split at h
        · cases h
        · rename_i hl
          simp only [Prod.mk.injEq, Option.some.injEq] at h
          obtain ⟨rfl, rfl⟩ := h
          have : ((ys.take n.toNat).length : Int) = n := by rw [List.length_take]; omega
          rw [this, List.append_assoc, List.take_append_drop]
          exact hb
theorem decC_canon {d : List UInt8} {c : Cmd} (h : decC d = some c) : encC c = d ∧ validC c = true := by
  unfold decC at h
  split at h
  · rename_i h1
    cases h
    exact ⟨h1.2.2, h1.2.1⟩
  · cases h
/-- a value, where the reading did not fail -/
def okr {α : Type} (r : Option (List UInt8)) (x : α) : Option α := match r with
  | none => none
  | some _ => some x
theorem okr_some {α : Type} {r : Option (List UInt8)} {x y : α} (h : okr r x = some y) : x = y ∧ ∃ rest, r = some rest := by
  cases r with
  | none => cases h
  | some ys => exact ⟨Option.some.inj h, _, rfl⟩
/-- one step, and what is left -/
def oneS (r : Option (List UInt8)) : Option Stp × Option (List UInt8) :=
  let k := uintR r 1
  if k.1 = 1 then ((decC (blobR k.2 4096).1).map fun c => ⟨1, 0, 0, 0, 0, 0, c⟩, (blobR k.2 4096).2)
  else if k.1 = 2 then (okr (intR k.2).2 ⟨2, 0, 0, 0, 0, (intR k.2).1, Cmd.zero⟩, (intR k.2).2)
  else if k.1 = 3 then
    let p := intR k.2; let o := uintR p.2 1; let v := intR o.2; let n := intR v.2
    (okr n.2 ⟨3, p.1, o.1, v.1, n.1, 0, Cmd.zero⟩, n.2)
  else if k.1 = 4 then
    let p := intR k.2; let o := uintR p.2 1; let v := intR o.2
    (okr v.2 ⟨4, p.1, o.1, v.1, 0, 0, Cmd.zero⟩, v.2)
  else if k.1 = 5 then (okr (intR k.2).2 ⟨5, 0, 0, 0, (intR k.2).1, 0, Cmd.zero⟩, (intR k.2).2)
  else (okr k.2 ⟨k.1, 0, 0, 0, 0, 0, Cmd.zero⟩, k.2)
theorem intR_of {r : Option (List UInt8)} {rest : List UInt8} (h : (intR r).2 = some rest) : ∃ b, r = some b ∧ b = encI (intR r).1 ++ rest := by
  cases r with
  | none => cases h
  | some b => exact ⟨b, rfl, intR_canon (by rw [← h])⟩
theorem uintR_of {r : Option (List UInt8)} {s : Nat} {rest : List UInt8} (h : (uintR r s).2 = some rest) : ∃ b, r = some b ∧ b = be (uintR r s).1 s ++ rest := by
  cases r with
  | none => cases h
  | some b => exact ⟨b, rfl, uintR_canon (by rw [← h])⟩
theorem blobR_of {r : Option (List UInt8)} {m : Int} {rest : List UInt8} (h : (blobR r m).2 = some rest) : ∃ b, r = some b ∧ b = encI (blobR r m).1.length ++ (blobR r m).1 ++ rest := by
  cases r with
  | none => simp [blobR, countR, intR] at h
  | some b => exact ⟨b, rfl, blobR_canon (by rw [← h])⟩
theorem blobR_nil {r : Option (List UInt8)} {m : Int} (h : (blobR r m).2 = none) : (blobR r m).1 = [] := by
  unfold blobR at h ⊢
  split
  · rfl
  · rename_i n ys e
    rw [e] at h
    simp only at h
    split at h
    · rename_i hl; rw [if_pos hl]
    · cases h
theorem decC_nil : decC [] = none := by decide +kernel
theorem oneS_canon {r : Option (List UInt8)} {x : Stp} (h : (oneS r).1 = some x) : ∃ b rest, r = some b ∧ (oneS r).2 = some rest ∧ b = encS x ++ rest := by
  unfold oneS at h ⊢
  simp only at h ⊢
  split at h
  · rename_i k1
    rw [if_pos k1]
    rw [Option.map_eq_some_iff] at h
    obtain ⟨c, hc, rfl⟩ := h
    obtain ⟨hd, hv⟩ := decC_canon hc
    cases e : (blobR (uintR r 1).2 4096).2 with
    | none =>
      rw [blobR_nil e, decC_nil] at hc
      cases hc
    | some rest =>
      obtain ⟨b1, hb1, hb2⟩ := blobR_of e
      obtain ⟨b, rfl, hb⟩ := uintR_of hb1
      refine ⟨b, rest, rfl, rfl, ?_⟩
      refine hb.trans ?_
      rw [hb2, k1, ← hd, encS]
      simp [List.append_assoc]
  split at h
  · rename_i k1 k2
    rw [if_neg k1, if_pos k2]
    obtain ⟨rfl, rest, e⟩ := okr_some h
    obtain ⟨b1, hb1, hb2⟩ := intR_of e
    obtain ⟨b, rfl, hb⟩ := uintR_of hb1
    refine ⟨b, rest, rfl, e, ?_⟩
    refine hb.trans ?_
    rw [hb2, k2, encS]
    simp [List.append_assoc]
  split at h
  · rename_i k1 k2 k3
    rw [if_neg k1, if_neg k2, if_pos k3]
    obtain ⟨rfl, rest, e⟩ := okr_some h
    obtain ⟨b4, hb4, hc4⟩ := intR_of e
    obtain ⟨b3, hb3, hc3⟩ := intR_of hb4
    obtain ⟨b2, hb2, hc2⟩ := uintR_of hb3
    obtain ⟨b1, hb1, hc1⟩ := intR_of hb2
    obtain ⟨b, rfl, hb⟩ := uintR_of hb1
    refine ⟨b, rest, rfl, e, ?_⟩
    refine hb.trans ?_
    rw [hc1, hc2, hc3, hc4, k3, encS]
    simp [List.append_assoc]
  split at h
  · rename_i k1 k2 k3 k4
    rw [if_neg k1, if_neg k2, if_neg k3, if_pos k4]
    obtain ⟨rfl, rest, e⟩ := okr_some h
    obtain ⟨b3, hb3, hc3⟩ := intR_of e
    obtain ⟨b2, hb2, hc2⟩ := uintR_of hb3
    obtain ⟨b1, hb1, hc1⟩ := intR_of hb2
    obtain ⟨b, rfl, hb⟩ := uintR_of hb1
    refine ⟨b, rest, rfl, e, ?_⟩
    refine hb.trans ?_
    rw [hc1, hc2, hc3, k4, encS]
    simp [List.append_assoc]
  split at h
  · rename_i k1 k2 k3 k4 k5
    rw [if_neg k1, if_neg k2, if_neg k3, if_neg k4, if_pos k5]
    obtain ⟨rfl, rest, e⟩ := okr_some h
    obtain ⟨b1, hb1, hb2⟩ := intR_of e
    obtain ⟨b, rfl, hb⟩ := uintR_of hb1
    refine ⟨b, rest, rfl, e, ?_⟩
    refine hb.trans ?_
    rw [hb2, k5, encS]
    simp [List.append_assoc]
  · rename_i k1 k2 k3 k4 k5
    rw [if_neg k1, if_neg k2, if_neg k3, if_neg k4, if_neg k5]
    obtain ⟨rfl, rest, e⟩ := okr_some h
    obtain ⟨b, rfl, hb⟩ := uintR_of e
    refine ⟨b, rest, rfl, e, ?_⟩
    rw [encS]
    simp only
    rw [if_neg (by omega), if_neg (by omega), if_neg (by omega), if_neg (by omega), if_neg (by omega), List.append_nil, Int.toNat_natCast]
    exact hb
/-- the command of a step that has none -/
theorem okZ_c {x : Stp} {n : Int} (h : okZ x n) (hk : x.kind ≠ 1) : x.c = Cmd.zero := by
  obtain ⟨h1, h2, h3, h4, h5⟩ := h.1 hk
  revert h1 h2 h3 h4 h5
  rcases x.c with ⟨a, b, c, d, e⟩
  intro h1 h2 h3 h4 h5
  simp only at h1 h2 h3 h4 h5
  subst h1; subst h2; subst h3
  rw [List.length_eq_zero_iff] at h4 h5
  subst h4; subst h5
  rfl
theorem vldS_iff {x : Stp} {n : Int} : vldS x n = true ↔ okZ x n ∧ (x.kind = 1 → validC x.c = true) := by
  unfold vldS
  rw [Bool.and_eq_true, Bool.or_eq_true, decide_eq_true_eq, decide_eq_true_eq]
  constructor
  · rintro ⟨h1, h2⟩
    exact ⟨h1, fun q => h2.resolve_left (fun w => w q)⟩
  · rintro ⟨h1, h2⟩
    refine ⟨h1, ?_⟩
    by_cases q : x.kind = 1
    · exact .inr (h2 q)
    · exact .inl q
theorem oneS_enc {x : Stp} {n : Int} (hn : n ≤ 256) (h : vldS x n = true) (rest : List UInt8) : oneS (some (encS x ++ rest)) = (some x, some rest) := by
  obtain ⟨hz, hv⟩ := vldS_iff.1 h
  have hcz := okZ_c hz
  obtain ⟨-, ht, hk⟩ := hz
  unfold plS cpS nxS at hk
  obtain ⟨kind, param, op, value, next, ticks, c⟩ := x
  simp only at hk ht hcz hv
  have e0 : ∀ ys, uintR (some (be kind.toNat 1 ++ ys)) 1 = (kind.toNat, some ys) := fun ys => uintR_be _ _ (by omega) _
  rcases hk with ⟨rfl, ⟨rfl, rfl, rfl⟩, rfl⟩ | ⟨rfl, ⟨rfl, rfl, rfl⟩, rfl, h1, h2⟩ | ⟨rfl, ⟨⟨p1, p2⟩, ⟨o1, o2⟩, v1, v2⟩, n1, n2⟩ | ⟨rfl, ⟨⟨p1, p2⟩, ⟨o1, o2⟩, v1, v2⟩, rfl⟩ | ⟨rfl, ⟨rfl, rfl, rfl⟩, n1, n2⟩ | ⟨rfl, ⟨rfl, rfl, rfl⟩, rfl⟩
  · obtain rfl := ht (by decide)
    have hl := encC_len (hv rfl)
    have e4 := blobR_enc (encC c) rest 4096 (by omega) (by omega)
    have e1 := e0 (encI (encC c).length ++ encC c ++ rest)
    have hE : encS ⟨1, 0, 0, 0, 0, 0, c⟩ ++ rest = be (Int.toNat 1) 1 ++ (encI (encC c).length ++ encC c ++ rest) := by simp [encS]
    rw [hE]; unfold oneS
    simp only [e1, e4, dec_enc (hv rfl), Option.map_some]
    simp
  · obtain rfl := hcz (by decide)
    have e2 := intR_enc ticks (by constructor <;> omega) rest
    have e1 := e0 (encI ticks ++ rest)
    have hE : encS ⟨2, 0, 0, 0, 0, ticks, Cmd.zero⟩ ++ rest = be (Int.toNat 2) 1 ++ (encI ticks ++ rest) := by simp [encS]
    rw [hE]; unfold oneS
    simp only [e1, e2, okr]
    simp
  · obtain rfl := hcz (by decide)
    obtain rfl := ht (by decide)
    have e2 := intR_enc param (by constructor <;> omega) (be op.toNat 1 ++ (encI value ++ (encI next ++ rest)))
    have e3 := uintR_be op.toNat 1 (by omega) (encI value ++ (encI next ++ rest))
    have e4 := intR_enc value (by constructor <;> omega) (encI next ++ rest)
    have e5 := intR_enc next (by constructor <;> omega) rest
    have e1 := e0 (encI param ++ (be op.toNat 1 ++ (encI value ++ (encI next ++ rest))))
    have eo : ((op.toNat : Nat) : Int) = op := by omega
    have hE : encS ⟨3, param, op, value, next, 0, Cmd.zero⟩ ++ rest = be (Int.toNat 3) 1 ++ (encI param ++ (be op.toNat 1 ++ (encI value ++ (encI next ++ rest)))) := by simp [encS]
    rw [hE]; unfold oneS
    simp only [e1, e2, e3, e4, e5, okr, eo]
    simp
  · obtain rfl := hcz (by decide)
    obtain rfl := ht (by decide)
    have e2 := intR_enc param (by constructor <;> omega) (be op.toNat 1 ++ (encI value ++ rest))
    have e3 := uintR_be op.toNat 1 (by omega) (encI value ++ rest)
    have e4 := intR_enc value (by constructor <;> omega) rest
    have e1 := e0 (encI param ++ (be op.toNat 1 ++ (encI value ++ rest)))
    have eo : ((op.toNat : Nat) : Int) = op := by omega
    have hE : encS ⟨4, param, op, value, 0, 0, Cmd.zero⟩ ++ rest = be (Int.toNat 4) 1 ++ (encI param ++ (be op.toNat 1 ++ (encI value ++ rest))) := by simp [encS]
    rw [hE]; unfold oneS
    simp only [e1, e2, e3, e4, okr, eo]
    simp
  · obtain rfl := hcz (by decide)
    obtain rfl := ht (by decide)
    have e2 := intR_enc next (by constructor <;> omega) rest
    have e1 := e0 (encI next ++ rest)
    have hE : encS ⟨5, 0, 0, 0, next, 0, Cmd.zero⟩ ++ rest = be (Int.toNat 5) 1 ++ (encI next ++ rest) := by simp [encS]
    rw [hE]; unfold oneS
    simp only [e1, e2, okr]
    simp
  · obtain rfl := hcz (by decide)
    obtain rfl := ht (by decide)
    have e1 := e0 rest
    have hE : encS ⟨6, 0, 0, 0, 0, 0, Cmd.zero⟩ ++ rest = be (Int.toNat 6) 1 ++ rest := by simp [encS]
    rw [hE]; unfold oneS
    simp only [e1, okr]
    simp
def rdsS (r : Option (List UInt8)) : Nat → Option (List Stp) × Option (List UInt8)
  | 0 => (some [], r)
  | k + 1 => match rdsS r k with
    | (none, r1) => (none, r1)
    | (some l, r1) => ((oneS r1).1.map fun x => l ++ [x], (oneS r1).2)
def decQ (b : List UInt8) : Option (List Stp) :=
  match rdsS (countR (some b) 256).2 (countR (some b) 256).1.toNat with
  | (some l, r) => if r = some [] ∧ vldQ l = true then some l else none
  | (none, _) => none
theorem rdsS_none {r : Option (List UInt8)} {k : Nat} (h : (rdsS r k).1 = none) : ∀ n, (rdsS r (k + n)).1 = none
  | 0 => h
  | n + 1 => by
    have := rdsS_none h n
    rw [← Nat.add_assoc, rdsS]
    revert this
    rcases rdsS r (k + n) with ⟨l, r1⟩
    intro q
    simp only at q
    subst q
    rfl
theorem rdsS_step {r r1 : Option (List UInt8)} {k : Nat} {l : List Stp} (h : rdsS r k = (some l, r1)) : rdsS r (k + 1) = ((oneS r1).1.map fun x => l ++ [x], (oneS r1).2) := by
  rw [rdsS, h]
theorem rdsS_length {r : Option (List UInt8)} : ∀ {k : Nat} {l : List Stp} {r1 : Option (List UInt8)}, rdsS r k = (some l, r1) → l.length = k
  | 0, l, r1, h => by simp only [rdsS, Prod.mk.injEq, Option.some.injEq] at h; rw [← h.1]; rfl
  | k + 1, l, r1, h => by
    rw [rdsS] at h
    split at h
    · simp at h
    · rename_i l' r2 e
      have ih := rdsS_length e
      simp only [Prod.mk.injEq, Option.map_eq_some_iff] at h
      obtain ⟨⟨x, _, h1⟩, _⟩ := h
      rw [← h1, List.length_append, ih]
      rfl
theorem rdsS_canon {r : Option (List UInt8)} : ∀ {k : Nat} {l : List Stp} {rest : List UInt8}, rdsS r k = (some l, some rest) → ∃ b, r = some b ∧ b = l.flatMap encS ++ rest
  | 0, l, rest, h => by
    simp only [rdsS, Prod.mk.injEq, Option.some.injEq] at h
    exact ⟨rest, h.2, by rw [← h.1]; rfl⟩
  | k + 1, l, rest, h => by
    rw [rdsS] at h
    split at h
    · simp at h
    · rename_i l' r2 e
      simp only [Prod.mk.injEq, Option.map_eq_some_iff] at h
      obtain ⟨⟨x, hx, h1⟩, h2⟩ := h
      obtain ⟨b1, rest1, rfl, h4, h5⟩ := oneS_canon hx
      rw [h4] at h2
      cases h2
      obtain ⟨b, hb, hb2⟩ := rdsS_canon e
      exact ⟨b, hb, by rw [hb2, h5, ← h1, List.flatMap_append, List.flatMap_singleton, List.append_assoc]⟩
theorem stp_take {l : List Stp} {k : Nat} (hk : k < l.length) : l.take (k + 1) = l.take k ++ [l.getD k Stp.zero] := by
  rw [List.take_succ_eq_append_getElem hk, List.getD_eq_getElem?_getD, List.getElem?_eq_getElem hk]
  rfl
theorem vldQ_iff {l : List Stp} : vldQ l = true ↔ (1 ≤ l.length ∧ l.length ≤ 256) ∧ ∀ x ∈ l, vldS x l.length = true := by
  unfold vldQ
  rw [Bool.and_eq_true, Bool.and_eq_true, decide_eq_true_eq, decide_eq_true_eq, List.all_eq_true]
theorem vldQ_at {l : List Stp} {k : Nat} (h : vldQ l = true) (hk : k < l.length) : vldS (l.getD k Stp.zero) l.length = true := by
  refine (vldQ_iff.1 h).2 _ ?_
  rw [List.getD_eq_getElem?_getD, List.getElem?_eq_getElem hk]
  exact List.getElem_mem hk
theorem rdsS_enc {l : List Stp} (h : vldQ l = true) (rest : List UInt8) : ∀ k, k ≤ l.length → rdsS (some (l.flatMap encS ++ rest)) k = (some (l.take k), some ((l.drop k).flatMap encS ++ rest))
  | 0, _ => by simp [rdsS]
  | k + 1, hk => by
    have ih := rdsS_enc h rest k (by omega)
    rw [rdsS_step ih]
    have hv := vldQ_at h (show k < l.length by omega)
    have hl := (vldQ_iff.1 h).1
    have e : l.drop k = l.getD k Stp.zero :: l.drop (k + 1) := by
      rw [List.drop_eq_getElem_cons (by omega), List.getD_eq_getElem?_getD, List.getElem?_eq_getElem (by omega)]
      rfl
    rw [e, List.flatMap_cons, List.append_assoc, oneS_enc (by omega) hv, stp_take (by omega)]
    rfl
theorem decQ_enc {l : List Stp} (h : vldQ l = true) : decQ (encQ l) = some l := by
  have hl := (vldQ_iff.1 h).1
  have hc : countR (some (encQ l)) 256 = ((l.length : Int), some (l.flatMap encS)) := by
    unfold countR encQ
    rw [intR_enc _ (by constructor <;> omega)]
    simp only
    rw [if_neg (by omega)]
  have hr := rdsS_enc h [] l.length (Nat.le_refl _)
  rw [List.append_nil, List.drop_length, List.take_length] at hr
  unfold decQ
  rw [hc]
  simp only [Int.toNat_natCast, hr]
  simp [h]
theorem countR_canon {b : List UInt8} {m n : Int} {rest : List UInt8} (h : countR (some b) m = (n, some rest)) : b = encI n ++ rest ∧ 0 ≤ n ∧ n ≤ m := by
  unfold countR at h
  rcases e : intR (some b) with ⟨n', _ | ys⟩
  · rw [e] at h; cases h
  · rw [e] at h
    simp only at h
    split at h
    · cases h
    · cases h
      exact ⟨intR_canon e, by omega, by omega⟩
theorem rdsS_encQ {b : List UInt8} {l : List Stp} (h : rdsS (countR (some b) 256).2 (countR (some b) 256).1.toNat = (some l, some [])) : encQ l = b := by
  obtain ⟨b1, h1, h2⟩ := rdsS_canon h
  have hll := rdsS_length h
  obtain ⟨h3, h4, h5⟩ := countR_canon (b := b) (m := 256) (n := (countR (some b) 256).1) (rest := b1) (by rw [← h1])
  rw [List.append_nil] at h2
  rw [encQ, h3, h2]
  congr 2
  omega
theorem decQ_iff {b : List UInt8} {l : List Stp} : decQ b = some l ↔ vldQ l = true ∧ encQ l = b := by
  constructor
  · intro h
    unfold decQ at h
    split at h
    · rename_i l' r e
      split at h
      · rename_i h1
        cases h
        rw [h1.1] at e
        exact ⟨h1.2, rdsS_encQ e⟩
      · cases h
    · cases h
  · rintro ⟨h1, rfl⟩
    exact decQ_enc h1
theorem rdsS_no {b : List UInt8} {n : Int} {r0 : Option (List UInt8)} {k : Nat} (e0 : countR (some b) 256 = (n, r0)) (h : (rdsS r0 k).1 = none) (hk : k ≤ n.toNat) : decQ b = none := by
  rw [decQ, e0]
  obtain ⟨j, hj⟩ := Nat.exists_eq_add_of_le hk
  have := rdsS_none h j
  rw [← hj] at this
  simp only
  split
  · rename_i l r e
    rw [e] at this
    cases this
  · rfl
theorem rdsS_end {b : List UInt8} {n : Int} {r0 r : Option (List UInt8)} {l : List Stp} (e0 : countR (some b) 256 = (n, r0)) (h : rdsS r0 n.toNat = (some l, r)) : decQ b = if r = some [] ∧ vldQ l = true then some l else none := by
  rw [decQ, e0]
  simp only [h]
theorem rdsS_same {b : List UInt8} {n : Int} {r0 : Option (List UInt8)} {l : List Stp} (e0 : countR (some b) 256 = (n, r0)) (h : rdsS r0 n.toNat = (some l, some [])) : encQ l = b := by
  refine rdsS_encQ ?_
  rw [e0]
  exact h
end Go.V

set_option maxRecDepth 100000
set_option maxHeartbeats 8000000
namespace Go.V
open Go.Proofs
theorem br_stp {σ : List Nat} {h : List Ch} (x : Stp) : brA σ h (.agg (stpL x)) (.agg (stpL x)) := br_agg (br_cons br_int (br_cons br_int (br_cons br_int (br_cons br_int (br_cons br_int (br_cons br_int (br_cons br_int (br_cons br_int (br_cons br_int (br_cons br_ro (br_cons br_ro br_nil)))))))))))
theorem b_zero (c : Cmd) : DoesK Try.prog 0 81 [.agg (cmdL c)] [] (EndF 0 (.bool (decide (noC c))) []) := by
  refine DoesK.close ?_
  refine w_body (rs := [.tmp 2]) (tm := [.agg (cmdL c), .any, .any, .any, .any, .any, .any, .any, .any, .any, .any, .any, .any, .any, .any, .any, .any, .any, .any, .any, .any, .any, .any, .any, .any, .any, .any, .any]) fn_81 rfl rfl rfl rfl fun R hR => ?_
  (all_goals (try ((first | (with_reducible refine wp_id ?_) | (with_reducible refine does_id ?_) | (with_reducible refine ops_id ?_)); refine walk ?_; (repeat' (first | exact trivial | with_reducible refine And.intro ?_ ?_)); all_goals (repeat (first | (with_reducible refine ImpB.mk fun hb => ?_) | (with_reducible refine ImpK.mk fun hK => ?_) | (with_reducible refine ImpF.mk fun hF => ?_) | (with_reducible refine ImpQ.mk fun hp => ?_) | (with_reducible refine AllE.mk fun p => ?_) | (with_reducible refine AllR.mk fun rest => ?_) | (with_reducible refine AllK.mk fun K => ?_))))); repeat' (with_reducible refine And.intro ?_ ?_))
  all_goals ((focus (refine ⟨_, _, Gh.refl, [], rfl, ?_⟩; (refine fitq ?_ ?_ ?_ <;> try exact trivial); (try any_goals (refine ⟨?_, ?_⟩)); (try any_goals (with_reducible rfl)))))
  all_goals (first | exact decide_eq_decide.2 (by unfold noC; (try simp only [decide_eq_true_eq, decide_eq_false_iff_not, Bool.not_eq_true', Bool.not_eq_false', Bool.not_eq_true, Bool.not_eq_false, decide_not, decide_true, decide_false, Bool.decide_and, Bool.and_eq_true, Bool.or_eq_true, Bool.and_eq_false_imp, Decidable.not_not] at *); omega) | exact decide_eq_false (by unfold noC; (try simp only [decide_eq_true_eq, decide_eq_false_iff_not, Bool.not_eq_true', Bool.not_eq_false', Bool.not_eq_true, Bool.not_eq_false, decide_not, decide_true, decide_false, Bool.decide_and, Bool.and_eq_true, Bool.or_eq_true, Bool.and_eq_false_imp, Decidable.not_not] at *); omega) | exact (decide_eq_false (by unfold noC; (try simp only [decide_eq_true_eq, decide_eq_false_iff_not, Bool.not_eq_true', Bool.not_eq_false', Bool.not_eq_true, Bool.not_eq_false, decide_not, decide_true, decide_false, Bool.decide_and, Bool.and_eq_true, Bool.or_eq_true, Bool.and_eq_false_imp, Decidable.not_not] at *); omega)).symm | trace_state)
theorem b_rnone (c : Cmd) : DoesK Try.prog 0 88 [.agg (cmdL c)] [] (EndF 0 (.bool (decide (noC c))) []) := by
  refine DoesK.close ?_
  refine w_body (rs := [.tmp 2]) (tm := [.agg (cmdL c), .any, .any, .any, .any, .any, .any, .any, .any, .any, .any, .any, .any, .any, .any, .any, .any, .any, .any, .any, .any, .any, .any, .any, .any, .any, .any, .any]) fn_88 rfl rfl rfl rfl fun R hR => ?_
  (all_goals (try ((first | (with_reducible refine wp_id ?_) | (with_reducible refine does_id ?_) | (with_reducible refine ops_id ?_)); refine walk ?_; (repeat' (first | exact trivial | with_reducible refine And.intro ?_ ?_)); all_goals (repeat (first | (with_reducible refine ImpB.mk fun hb => ?_) | (with_reducible refine ImpK.mk fun hK => ?_) | (with_reducible refine ImpF.mk fun hF => ?_) | (with_reducible refine ImpQ.mk fun hp => ?_) | (with_reducible refine AllE.mk fun p => ?_) | (with_reducible refine AllR.mk fun rest => ?_) | (with_reducible refine AllK.mk fun K => ?_))))); repeat' (with_reducible refine And.intro ?_ ?_))
  all_goals ((focus (refine ⟨_, _, Gh.refl, [], rfl, ?_⟩; (refine fitq ?_ ?_ ?_ <;> try exact trivial); (try any_goals (refine ⟨?_, ?_⟩)); (try any_goals (with_reducible rfl)))))
  all_goals (first | exact decide_eq_decide.2 (by unfold noC; (try simp only [decide_eq_true_eq, decide_eq_false_iff_not, Bool.not_eq_true', Bool.not_eq_false', Bool.not_eq_true, Bool.not_eq_false, decide_not, decide_true, decide_false, Bool.decide_and, Bool.and_eq_true, Bool.or_eq_true, Bool.and_eq_false_imp, Decidable.not_not] at *); omega) | exact decide_eq_false (by unfold noC; (try simp only [decide_eq_true_eq, decide_eq_false_iff_not, Bool.not_eq_true', Bool.not_eq_false', Bool.not_eq_true, Bool.not_eq_false, decide_not, decide_true, decide_false, Bool.decide_and, Bool.and_eq_true, Bool.or_eq_true, Bool.and_eq_false_imp, Decidable.not_not] at *); omega) | exact (decide_eq_false (by unfold noC; (try simp only [decide_eq_true_eq, decide_eq_false_iff_not, Bool.not_eq_true', Bool.not_eq_false', Bool.not_eq_true, Bool.not_eq_false, decide_not, decide_true, decide_false, Bool.decide_and, Bool.and_eq_true, Bool.or_eq_true, Bool.and_eq_false_imp, Decidable.not_not] at *); omega)).symm | trace_state)
instance (x : Stp) : Decidable (cpS x) := by unfold cpS; exact inferInstance
theorem b_cmp (x : Stp) : DoesK Try.prog 0 82 [.agg (stpL x)] [] (EndF 0 (.bool (decide (cpS x))) []) := by
  refine DoesK.close ?_
  refine w_body (rs := [.tmp 2]) (tm := [.agg (stpL x), .any, .any, .any, .any, .any, .any, .any, .any, .any, .any, .any, .any, .any, .any, .any, .any, .any, .any, .any, .any, .any, .any, .any, .any, .any, .any, .any, .any, .any, .any]) fn_82 rfl rfl rfl rfl fun R hR => ?_
  (all_goals (try ((first | (with_reducible refine wp_id ?_) | (with_reducible refine does_id ?_) | (with_reducible refine ops_id ?_)); refine walk ?_; (repeat' (first | exact trivial | with_reducible refine And.intro ?_ ?_)); all_goals (repeat (first | (with_reducible refine ImpB.mk fun hb => ?_) | (with_reducible refine ImpK.mk fun hK => ?_) | (with_reducible refine ImpF.mk fun hF => ?_) | (with_reducible refine ImpQ.mk fun hp => ?_) | (with_reducible refine AllE.mk fun p => ?_) | (with_reducible refine AllR.mk fun rest => ?_) | (with_reducible refine AllK.mk fun K => ?_))))); repeat' (with_reducible refine And.intro ?_ ?_))
  all_goals ((focus (refine ⟨_, _, Gh.refl, [], rfl, ?_⟩; (refine fitq ?_ ?_ ?_ <;> try exact trivial); (try any_goals (refine ⟨?_, ?_⟩)); (try any_goals (with_reducible rfl)))))
  all_goals (first | exact decide_eq_decide.2 (by unfold cpS; (try simp only [decide_eq_true_eq, decide_eq_false_iff_not, Bool.not_eq_true', Bool.not_eq_false', Bool.not_eq_true, Bool.not_eq_false, decide_not, decide_true, decide_false, Bool.decide_and, Bool.and_eq_true, Bool.or_eq_true, Bool.and_eq_false_imp, Decidable.not_not] at *); omega) | exact decide_eq_false (by unfold cpS; (try simp only [decide_eq_true_eq, decide_eq_false_iff_not, Bool.not_eq_true', Bool.not_eq_false', Bool.not_eq_true, Bool.not_eq_false, decide_not, decide_true, decide_false, Bool.decide_and, Bool.and_eq_true, Bool.or_eq_true, Bool.and_eq_false_imp, Decidable.not_not] at *); omega) | exact (decide_eq_false (by unfold cpS; (try simp only [decide_eq_true_eq, decide_eq_false_iff_not, Bool.not_eq_true', Bool.not_eq_false', Bool.not_eq_true, Bool.not_eq_false, decide_not, decide_true, decide_false, Bool.decide_and, Bool.and_eq_true, Bool.or_eq_true, Bool.and_eq_false_imp, Decidable.not_not] at *); omega)).symm | trace_state)
theorem b_rcmp (x : Stp) : DoesK Try.prog 0 90 [.agg (stpL x)] [] (EndF 0 (.bool (decide (cpS x))) []) := by
  refine DoesK.close ?_
  refine w_body (rs := [.tmp 2]) (tm := [.agg (stpL x), .any, .any, .any, .any, .any, .any, .any, .any, .any, .any, .any, .any, .any, .any, .any, .any, .any, .any, .any, .any, .any, .any, .any, .any, .any, .any, .any, .any, .any, .any]) fn_90 rfl rfl rfl rfl fun R hR => ?_
  (all_goals (try ((first | (with_reducible refine wp_id ?_) | (with_reducible refine does_id ?_) | (with_reducible refine ops_id ?_)); refine walk ?_; (repeat' (first | exact trivial | with_reducible refine And.intro ?_ ?_)); all_goals (repeat (first | (with_reducible refine ImpB.mk fun hb => ?_) | (with_reducible refine ImpK.mk fun hK => ?_) | (with_reducible refine ImpF.mk fun hF => ?_) | (with_reducible refine ImpQ.mk fun hp => ?_) | (with_reducible refine AllE.mk fun p => ?_) | (with_reducible refine AllR.mk fun rest => ?_) | (with_reducible refine AllK.mk fun K => ?_))))); repeat' (with_reducible refine And.intro ?_ ?_))
  all_goals ((focus (refine ⟨_, _, Gh.refl, [], rfl, ?_⟩; (refine fitq ?_ ?_ ?_ <;> try exact trivial); (try any_goals (refine ⟨?_, ?_⟩)); (try any_goals (with_reducible rfl)))))
  all_goals (first | exact decide_eq_decide.2 (by unfold cpS; (try simp only [decide_eq_true_eq, decide_eq_false_iff_not, Bool.not_eq_true', Bool.not_eq_false', Bool.not_eq_true, Bool.not_eq_false, decide_not, decide_true, decide_false, Bool.decide_and, Bool.and_eq_true, Bool.or_eq_true, Bool.and_eq_false_imp, Decidable.not_not] at *); omega) | exact decide_eq_false (by unfold cpS; (try simp only [decide_eq_true_eq, decide_eq_false_iff_not, Bool.not_eq_true', Bool.not_eq_false', Bool.not_eq_true, Bool.not_eq_false, decide_not, decide_true, decide_false, Bool.decide_and, Bool.and_eq_true, Bool.or_eq_true, Bool.and_eq_false_imp, Decidable.not_not] at *); omega) | exact (decide_eq_false (by unfold cpS; (try simp only [decide_eq_true_eq, decide_eq_false_iff_not, Bool.not_eq_true', Bool.not_eq_false', Bool.not_eq_true, Bool.not_eq_false, decide_not, decide_true, decide_false, Bool.decide_and, Bool.and_eq_true, Bool.or_eq_true, Bool.and_eq_false_imp, Decidable.not_not] at *); omega)).symm | trace_state)
theorem c_zero {h : List Ch} {K : KT} {x y z : Int} {args : List Int} {data : List UInt8} {a d : AV} (H : K (.bool (decide (noC ⟨x, y, z, args, data⟩))) h) (b1 : brA [] h (.ro .int args) a) (b2 : brA [] h (.ro .byte data) d) : Does Try.prog 81 [.agg [.int .i64 x, .int .i64 y, .int .i64 z, a, d]] h K :=
  frame_pure (b_zero ⟨x, y, z, args, data⟩) (br_cons (br_agg (br_cons br_int (br_cons br_int (br_cons br_int (br_cons b1 (br_cons b2 br_nil)))))) br_nil) (.inr rfl) (fun _ => rfl) H
abbrev i_zero := Ctr.mk (i := 0) (g := 81) @c_zero
attribute [instance] i_zero
theorem c_rnone {h : List Ch} {K : KT} {x y z : Int} {args : List Int} {data : List UInt8} {a d : AV} (H : K (.bool (decide (noC ⟨x, y, z, args, data⟩))) h) (b1 : brA [] h (.ro .int args) a) (b2 : brA [] h (.ro .byte data) d) : Does Try.prog 88 [.agg [.int .i64 x, .int .i64 y, .int .i64 z, a, d]] h K :=
  frame_pure (b_rnone ⟨x, y, z, args, data⟩) (br_cons (br_agg (br_cons br_int (br_cons br_int (br_cons br_int (br_cons b1 (br_cons b2 br_nil)))))) br_nil) (.inr rfl) (fun _ => rfl) H
abbrev i_rnone := Ctr.mk (i := 0) (g := 88) @c_rnone
attribute [instance] i_rnone
theorem c_cmp {h : List Ch} {K : KT} {x : Stp} (H : K (.bool (decide (cpS x))) h) : Does Try.prog 82 [.agg [.int .i64 x.kind, .int .i64 x.param, .int .i64 x.op, .int .i64 x.value, .int .i64 x.next, .int .i64 x.ticks, .int .i64 x.c.src, .int .i64 x.c.num, .int .i64 x.c.srv, .ro .int x.c.args, .ro .byte x.c.data]] h K :=
  frame_pure (b_cmp x) (br_cons (br_stp x) br_nil) (.inr rfl) (fun _ => rfl) H
abbrev i_cmp := Ctr.mk (i := 0) (g := 82) @c_cmp
attribute [instance] i_cmp
theorem c_rcmp {h : List Ch} {K : KT} {x : Stp} (H : K (.bool (decide (cpS x))) h) : Does Try.prog 90 [.agg [.int .i64 x.kind, .int .i64 x.param, .int .i64 x.op, .int .i64 x.value, .int .i64 x.next, .int .i64 x.ticks, .int .i64 x.c.src, .int .i64 x.c.num, .int .i64 x.c.srv, .ro .int x.c.args, .ro .byte x.c.data]] h K :=
  frame_pure (b_rcmp x) (br_cons (br_stp x) br_nil) (.inr rfl) (fun _ => rfl) H
abbrev i_rcmp := Ctr.mk (i := 0) (g := 90) @c_rcmp
attribute [instance] i_rcmp
theorem vld_no {x : Stp} {n : Int} (h : ¬ okZ x n) : vldS x n = false := by unfold vldS; rw [decide_eq_false h]; rfl
theorem vld_cmd {x : Stp} {n : Int} (h : okZ x n) (hk : x.kind = 1) : vldS x n = validC x.c := by unfold vldS; rw [decide_eq_true h, decide_eq_false (fun q => q hk)]; rfl
theorem vld_yes {x : Stp} {n : Int} (h : okZ x n) (hk : ¬ x.kind = 1) : vldS x n = true := by unfold vldS; rw [decide_eq_true h, decide_eq_true hk]; rfl
theorem vld_dec {x : Stp} {n : Int} {p : Prop} [Decidable p] (h : okZ x n ↔ p) (hk : ¬ x.kind = 1) : decide p = vldS x n := by
  by_cases q : p
  · rw [decide_eq_true q, vld_yes (h.2 q) hk]
  · rw [decide_eq_false q, vld_no (fun r => q (h.1 r))]
instance (x : Stp) : Decidable (plS x) := by unfold plS; exact inferInstance
instance (x : Stp) (n : Int) : Decidable (nxS x n) := by unfold nxS; exact inferInstance
def preS (x : Stp) : Prop := (x.kind ≠ 1 → noC x.c) ∧ (x.kind ≠ 2 → x.ticks = 0)
instance (x : Stp) : Decidable (preS x) := by unfold preS; exact inferInstance
theorem b_right (x : Stp) (n : Int) (hl : x.c.args.length ≤ 1099511627776) : DoesK Try.prog 0 54 [.agg (stpL x), .int .i64 n] [] (EndF 0 (.bool (vldS x n)) []) := by
  refine DoesK.close ?_
  refine w_body (rs := [.tmp 4]) (tm := [.agg (stpL x), .int .i64 n, .any, .any, .any, .any, .any, .any, .any, .any, .any, .any, .any, .any, .any, .any, .any, .any, .any, .any, .any, .any, .any, .any, .any, .any, .any, .any, .any, .any, .any, .any, .any, .any, .any, .any, .any, .any, .any, .any, .any, .any, .any, .any, .any, .any, .any, .any, .any, .any, .any, .any, .any, .any, .any, .any, .any, .any, .any, .any, .any, .any, .any, .any, .any, .any, .any, .any, .any, .any, .any, .any, .any, .any, .any, .any, .any, .any, .any, .any, .any, .any, .any, .any, .any, .any, .any, .any, .any, .any, .any, .any, .any, .any, .any, .any, .any, .any, .any, .any, .any, .any, .any, .any, .any, .any, .any, .any, .any, .any, .any]) fn_54 rfl rfl rfl rfl fun R hR => ?_
  refine w_seq fun K2 hk2 => ?_
  have hq2 := Slot.mk hk2
  clear hk2
  (all_goals (try ((first | (with_reducible refine wp_id ?_) | (with_reducible refine does_id ?_) | (with_reducible refine ops_id ?_)); refine walk ?_; (repeat' (first | exact trivial | with_reducible refine And.intro ?_ ?_)); all_goals (repeat (first | (with_reducible refine ImpB.mk fun hb => ?_) | (with_reducible refine ImpK.mk fun hK => ?_) | (with_reducible refine ImpF.mk fun hF => ?_) | (with_reducible refine ImpQ.mk fun hp => ?_) | (with_reducible refine AllE.mk fun p => ?_) | (with_reducible refine AllR.mk fun rest => ?_) | (with_reducible refine AllK.mk fun K => ?_))))); repeat' (with_reducible refine And.intro ?_ ?_))
  refine hq2.un _ _ ?_
  any_goals (refine w_meet (A := Unit) (fun _ => True) (fun _ => [(5, .bool (decide (plS x)))]) (fun _ => []) (ws := ?ws1) (tk := ?tk1) ?hw1 ?ht1 ?HM1 ?HN1; (case hw1 => simp only [go_sem, decide_true, decide_false, Int.reduceToNat, Nat.min_eq_left, Nat.min_eq_right, Int.reducePow, Nat.reducePow, Int.reduceLE, Int.reduceLT, Int.reduceMul, Int.reduceAdd, Int.reduceSub, Int.reduceNeg, Bool.not_true, Bool.not_false, Bool.not_not, ↓reduceIte, Nat.reduceAdd, Nat.reduceSub, Nat.reduceMul, Nat.reduceEqDiff, reduceCtorEq, Nat.reduceLT, Nat.reduceLeDiff, Nat.reduceGT]; exact rfl); (case ht1 => simp only [go_sem, decide_true, decide_false, Int.reduceToNat, Nat.min_eq_left, Nat.min_eq_right, Int.reducePow, Nat.reducePow, Int.reduceLE, Int.reduceLT, Int.reduceMul, Int.reduceAdd, Int.reduceSub, Int.reduceNeg, Bool.not_true, Bool.not_false, Bool.not_not, ↓reduceIte, Nat.reduceAdd, Nat.reduceSub, Nat.reduceMul, Nat.reduceEqDiff, reduceCtorEq, Nat.reduceLT, Nat.reduceLeDiff, Nat.reduceGT]; exact rfl); (case' HM1 => intro K hK); (case' HN1 => rintro x0 t hx ht; simp only [go_sem] at ht; subst ht; simp only [go_sem]; try dsimp only at hx))
  case' HM1 => (all_goals (try ((first | (with_reducible refine wp_id ?_) | (with_reducible refine does_id ?_) | (with_reducible refine ops_id ?_)); refine walk ?_; (repeat' (first | exact trivial | with_reducible refine And.intro ?_ ?_)); all_goals (repeat (first | (with_reducible refine ImpB.mk fun hb => ?_) | (with_reducible refine ImpK.mk fun hK => ?_) | (with_reducible refine ImpF.mk fun hF => ?_) | (with_reducible refine ImpQ.mk fun hp => ?_) | (with_reducible refine AllE.mk fun p => ?_) | (with_reducible refine AllR.mk fun rest => ?_) | (with_reducible refine AllK.mk fun K => ?_))))); repeat' (with_reducible refine And.intro ?_ ?_))
  case HN1 =>
    any_goals (refine w_meet (A := Unit) (fun _ => True) (fun _ => [(5, .bool (decide (plS x))), (6, .bool (decide (nxS x n)))]) (fun _ => []) (ws := ?ws2) (tk := ?tk2) ?hw2 ?ht2 ?HM2 ?HN2; (case hw2 => simp only [go_sem, decide_true, decide_false, Int.reduceToNat, Nat.min_eq_left, Nat.min_eq_right, Int.reducePow, Nat.reducePow, Int.reduceLE, Int.reduceLT, Int.reduceMul, Int.reduceAdd, Int.reduceSub, Int.reduceNeg, Bool.not_true, Bool.not_false, Bool.not_not, ↓reduceIte, Nat.reduceAdd, Nat.reduceSub, Nat.reduceMul, Nat.reduceEqDiff, reduceCtorEq, Nat.reduceLT, Nat.reduceLeDiff, Nat.reduceGT]; exact rfl); (case ht2 => simp only [go_sem, decide_true, decide_false, Int.reduceToNat, Nat.min_eq_left, Nat.min_eq_right, Int.reducePow, Nat.reducePow, Int.reduceLE, Int.reduceLT, Int.reduceMul, Int.reduceAdd, Int.reduceSub, Int.reduceNeg, Bool.not_true, Bool.not_false, Bool.not_not, ↓reduceIte, Nat.reduceAdd, Nat.reduceSub, Nat.reduceMul, Nat.reduceEqDiff, reduceCtorEq, Nat.reduceLT, Nat.reduceLeDiff, Nat.reduceGT]; exact rfl); (case' HM2 => intro K hK); (case' HN2 => rintro x0 t hx ht; simp only [go_sem] at ht; subst ht; simp only [go_sem]; try dsimp only at hx))
    case' HM2 => (all_goals (try ((first | (with_reducible refine wp_id ?_) | (with_reducible refine does_id ?_) | (with_reducible refine ops_id ?_)); refine walk ?_; (repeat' (first | exact trivial | with_reducible refine And.intro ?_ ?_)); all_goals (repeat (first | (with_reducible refine ImpB.mk fun hb => ?_) | (with_reducible refine ImpK.mk fun hK => ?_) | (with_reducible refine ImpF.mk fun hF => ?_) | (with_reducible refine ImpQ.mk fun hp => ?_) | (with_reducible refine AllE.mk fun p => ?_) | (with_reducible refine AllR.mk fun rest => ?_) | (with_reducible refine AllK.mk fun K => ?_))))); repeat' (with_reducible refine And.intro ?_ ?_))
    case HN2 =>
      any_goals (refine w_meet (A := Unit) (fun _ => preS x) (fun _ => [(5, .bool (decide (plS x))), (6, .bool (decide (nxS x n)))]) (fun _ => []) (ws := ?ws3) (tk := ?tk3) ?hw3 ?ht3 ?HM3 ?HN3; (case hw3 => simp only [go_sem, decide_true, decide_false, Int.reduceToNat, Nat.min_eq_left, Nat.min_eq_right, Int.reducePow, Nat.reducePow, Int.reduceLE, Int.reduceLT, Int.reduceMul, Int.reduceAdd, Int.reduceSub, Int.reduceNeg, Bool.not_true, Bool.not_false, Bool.not_not, ↓reduceIte, Nat.reduceAdd, Nat.reduceSub, Nat.reduceMul, Nat.reduceEqDiff, reduceCtorEq, Nat.reduceLT, Nat.reduceLeDiff, Nat.reduceGT]; exact rfl); (case ht3 => simp only [go_sem, decide_true, decide_false, Int.reduceToNat, Nat.min_eq_left, Nat.min_eq_right, Int.reducePow, Nat.reducePow, Int.reduceLE, Int.reduceLT, Int.reduceMul, Int.reduceAdd, Int.reduceSub, Int.reduceNeg, Bool.not_true, Bool.not_false, Bool.not_not, ↓reduceIte, Nat.reduceAdd, Nat.reduceSub, Nat.reduceMul, Nat.reduceEqDiff, reduceCtorEq, Nat.reduceLT, Nat.reduceLeDiff, Nat.reduceGT]; exact rfl); (case' HM3 => intro K hK); (case' HN3 => rintro x0 t hx ht; simp only [go_sem] at ht; subst ht; simp only [go_sem]; try dsimp only at hx))
      case' HM3 => (all_goals (try ((first | (with_reducible refine wp_id ?_) | (with_reducible refine does_id ?_) | (with_reducible refine ops_id ?_)); refine walk ?_; (repeat' (first | exact trivial | with_reducible refine And.intro ?_ ?_)); all_goals (repeat (first | (with_reducible refine ImpB.mk fun hb => ?_) | (with_reducible refine ImpK.mk fun hK => ?_) | (with_reducible refine ImpF.mk fun hF => ?_) | (with_reducible refine ImpQ.mk fun hp => ?_) | (with_reducible refine AllE.mk fun p => ?_) | (with_reducible refine AllR.mk fun rest => ?_) | (with_reducible refine AllK.mk fun K => ?_))))); repeat' (with_reducible refine And.intro ?_ ?_))
      case HN3 =>
        (all_goals (try ((first | (with_reducible refine wp_id ?_) | (with_reducible refine does_id ?_) | (with_reducible refine ops_id ?_)); refine walk ?_; (repeat' (first | exact trivial | with_reducible refine And.intro ?_ ?_)); all_goals (repeat (first | (with_reducible refine ImpB.mk fun hb => ?_) | (with_reducible refine ImpK.mk fun hK => ?_) | (with_reducible refine ImpF.mk fun hF => ?_) | (with_reducible refine ImpQ.mk fun hp => ?_) | (with_reducible refine AllE.mk fun p => ?_) | (with_reducible refine AllR.mk fun rest => ?_) | (with_reducible refine AllK.mk fun K => ?_))))); repeat' (with_reducible refine And.intro ?_ ?_))
        all_goals (try (exact hl))
        all_goals ((focus (refine ⟨_, _, Gh.refl, [], rfl, ?_⟩; (refine fitq ?_ ?_ ?_ <;> try exact trivial); (try any_goals (refine ⟨?_, ?_⟩)); (try any_goals (with_reducible rfl)))))
        all_goals (try clear hq2)
        all_goals (try clear hR)
        all_goals first
          | (refine vld_no ?_; (try simp only [decide_eq_true_eq, decide_eq_false_iff_not, Bool.not_eq_true', Bool.not_eq_false', Bool.not_eq_true, Bool.not_eq_false, decide_not, decide_true, decide_false, Bool.decide_and, Bool.and_eq_true, Bool.or_eq_true, Bool.and_eq_false_imp, Decidable.not_not] at *); simp only [okZ, plS, nxS, cpS, noC, preS] at *; (try simp only [decide_eq_true_eq, decide_eq_false_iff_not, Bool.not_eq_true', Bool.not_eq_false', Bool.not_eq_true, Bool.not_eq_false, decide_not, decide_true, decide_false, Bool.decide_and, Bool.and_eq_true, Bool.or_eq_true, Bool.and_eq_false_imp, Decidable.not_not] at *); omega)
          | (refine vld_cmd ?_ ?_; (focus ((try simp only [decide_eq_true_eq, decide_eq_false_iff_not, Bool.not_eq_true', Bool.not_eq_false', Bool.not_eq_true, Bool.not_eq_false, decide_not, decide_true, decide_false, Bool.decide_and, Bool.and_eq_true, Bool.or_eq_true, Bool.and_eq_false_imp, Decidable.not_not] at *); simp only [okZ, plS, nxS, cpS, noC, preS] at *; (try simp only [decide_eq_true_eq, decide_eq_false_iff_not, Bool.not_eq_true', Bool.not_eq_false', Bool.not_eq_true, Bool.not_eq_false, decide_not, decide_true, decide_false, Bool.decide_and, Bool.and_eq_true, Bool.or_eq_true, Bool.and_eq_false_imp, Decidable.not_not] at *); omega)); (try simp only [decide_eq_true_eq, decide_eq_false_iff_not, Bool.not_eq_true', Bool.not_eq_false', Bool.not_eq_true, Bool.not_eq_false, decide_not, decide_true, decide_false, Bool.decide_and, Bool.and_eq_true, Bool.or_eq_true, Bool.and_eq_false_imp, Decidable.not_not] at *); omega)
          | (refine (vld_dec ?_ ?_).symm; (focus ((try simp only [decide_eq_true_eq, decide_eq_false_iff_not, Bool.not_eq_true', Bool.not_eq_false', Bool.not_eq_true, Bool.not_eq_false, decide_not, decide_true, decide_false, Bool.decide_and, Bool.and_eq_true, Bool.or_eq_true, Bool.and_eq_false_imp, Decidable.not_not] at *); simp only [okZ, plS, nxS, cpS, noC, preS] at *; (try simp only [decide_eq_true_eq, decide_eq_false_iff_not, Bool.not_eq_true', Bool.not_eq_false', Bool.not_eq_true, Bool.not_eq_false, decide_not, decide_true, decide_false, Bool.decide_and, Bool.and_eq_true, Bool.or_eq_true, Bool.and_eq_false_imp, Decidable.not_not] at *); omega)); (try simp only [decide_eq_true_eq, decide_eq_false_iff_not, Bool.not_eq_true', Bool.not_eq_false', Bool.not_eq_true, Bool.not_eq_false, decide_not, decide_true, decide_false, Bool.decide_and, Bool.and_eq_true, Bool.or_eq_true, Bool.and_eq_false_imp, Decidable.not_not] at *); omega)
          | (refine vld_yes ?_ ?_; (focus ((try simp only [decide_eq_true_eq, decide_eq_false_iff_not, Bool.not_eq_true', Bool.not_eq_false', Bool.not_eq_true, Bool.not_eq_false, decide_not, decide_true, decide_false, Bool.decide_and, Bool.and_eq_true, Bool.or_eq_true, Bool.and_eq_false_imp, Decidable.not_not] at *); simp only [okZ, plS, nxS, cpS, noC, preS] at *; (try simp only [decide_eq_true_eq, decide_eq_false_iff_not, Bool.not_eq_true', Bool.not_eq_false', Bool.not_eq_true, Bool.not_eq_false, decide_not, decide_true, decide_false, Bool.decide_and, Bool.and_eq_true, Bool.or_eq_true, Bool.and_eq_false_imp, Decidable.not_not] at *); omega)); (try simp only [decide_eq_true_eq, decide_eq_false_iff_not, Bool.not_eq_true', Bool.not_eq_false', Bool.not_eq_true, Bool.not_eq_false, decide_not, decide_true, decide_false, Bool.decide_and, Bool.and_eq_true, Bool.or_eq_true, Bool.and_eq_false_imp, Decidable.not_not] at *); omega)
          | (skip)
      all_goals first
        | (refine ⟨(), ?_, ?_⟩; (focus ((try simp only [decide_eq_true_eq, decide_eq_false_iff_not, Bool.not_eq_true', Bool.not_eq_false', Bool.not_eq_true, Bool.not_eq_false, decide_not, decide_true, decide_false, Bool.decide_and, Bool.and_eq_true, Bool.or_eq_true, Bool.and_eq_false_imp, Decidable.not_not] at *); simp only [plS, nxS, cpS, noC, preS] at *; (try simp only [decide_eq_true_eq, decide_eq_false_iff_not, Bool.not_eq_true', Bool.not_eq_false', Bool.not_eq_true, Bool.not_eq_false, decide_not, decide_true, decide_false, Bool.decide_and, Bool.and_eq_true, Bool.or_eq_true, Bool.and_eq_false_imp, Decidable.not_not] at *); omega)); ((focus (refine ⟨_, _, Gh.refl, [0], rfl, ?_⟩; (refine fitq ?_ ?_ ?_ <;> try exact trivial); (try any_goals (refine ⟨?_, ?_⟩)); (try any_goals (with_reducible rfl))))); done)
        | (((focus (refine ⟨_, _, Gh.refl, [], rfl, ?_⟩; (refine fitq ?_ ?_ ?_ <;> try exact trivial); (try any_goals (refine ⟨?_, ?_⟩)); (try any_goals (with_reducible rfl))))); refine vld_no ?_; (try simp only [decide_eq_true_eq, decide_eq_false_iff_not, Bool.not_eq_true', Bool.not_eq_false', Bool.not_eq_true, Bool.not_eq_false, decide_not, decide_true, decide_false, Bool.decide_and, Bool.and_eq_true, Bool.or_eq_true, Bool.and_eq_false_imp, Decidable.not_not] at *); simp only [okZ, plS, nxS, cpS, noC, preS] at *; (try simp only [decide_eq_true_eq, decide_eq_false_iff_not, Bool.not_eq_true', Bool.not_eq_false', Bool.not_eq_true, Bool.not_eq_false, decide_not, decide_true, decide_false, Bool.decide_and, Bool.and_eq_true, Bool.or_eq_true, Bool.and_eq_false_imp, Decidable.not_not] at *); omega)
        | skip
    all_goals refine ⟨(), trivial, ?_⟩
    all_goals (focus (refine ⟨_, _, Gh.refl, [0], rfl, ?_⟩; (refine fitq ?_ ?_ ?_ <;> try exact trivial); (try any_goals (refine ⟨?_, ?_⟩)); (try any_goals (with_reducible rfl))))
    all_goals (first | exact decide_eq_decide.2 (by simp only [plS, nxS, cpS, noC, preS] at *; (try simp only [decide_eq_true_eq, decide_eq_false_iff_not, Bool.not_eq_true', Bool.not_eq_false', Bool.not_eq_true, Bool.not_eq_false, decide_not, decide_true, decide_false, Bool.decide_and, Bool.and_eq_true, Bool.or_eq_true, Bool.and_eq_false_imp, Decidable.not_not] at *); omega) | exact decide_eq_false (by simp only [plS, nxS, cpS, noC, preS] at *; (try simp only [decide_eq_true_eq, decide_eq_false_iff_not, Bool.not_eq_true', Bool.not_eq_false', Bool.not_eq_true, Bool.not_eq_false, decide_not, decide_true, decide_false, Bool.decide_and, Bool.and_eq_true, Bool.or_eq_true, Bool.and_eq_false_imp, Decidable.not_not] at *); omega) | exact (decide_eq_false (by simp only [plS, nxS, cpS, noC, preS] at *; (try simp only [decide_eq_true_eq, decide_eq_false_iff_not, Bool.not_eq_true', Bool.not_eq_false', Bool.not_eq_true, Bool.not_eq_false, decide_not, decide_true, decide_false, Bool.decide_and, Bool.and_eq_true, Bool.or_eq_true, Bool.and_eq_false_imp, Decidable.not_not] at *); omega)).symm | exact decide_eq_true (by simp only [plS, nxS, cpS, noC, preS] at *; (try simp only [decide_eq_true_eq, decide_eq_false_iff_not, Bool.not_eq_true', Bool.not_eq_false', Bool.not_eq_true, Bool.not_eq_false, decide_not, decide_true, decide_false, Bool.decide_and, Bool.and_eq_true, Bool.or_eq_true, Bool.and_eq_false_imp, Decidable.not_not] at *); omega) | exact (decide_eq_true (by simp only [plS, nxS, cpS, noC, preS] at *; (try simp only [decide_eq_true_eq, decide_eq_false_iff_not, Bool.not_eq_true', Bool.not_eq_false', Bool.not_eq_true, Bool.not_eq_false, decide_not, decide_true, decide_false, Bool.decide_and, Bool.and_eq_true, Bool.or_eq_true, Bool.and_eq_false_imp, Decidable.not_not] at *); omega)).symm | skip)
  all_goals refine ⟨(), trivial, ?_⟩
  all_goals (focus (refine ⟨_, _, Gh.refl, [0], rfl, ?_⟩; (refine fitq ?_ ?_ ?_ <;> try exact trivial); (try any_goals (refine ⟨?_, ?_⟩)); (try any_goals (with_reducible rfl))))
  all_goals (first | exact decide_eq_decide.2 (by simp only [plS, nxS, cpS, noC, preS] at *; (try simp only [decide_eq_true_eq, decide_eq_false_iff_not, Bool.not_eq_true', Bool.not_eq_false', Bool.not_eq_true, Bool.not_eq_false, decide_not, decide_true, decide_false, Bool.decide_and, Bool.and_eq_true, Bool.or_eq_true, Bool.and_eq_false_imp, Decidable.not_not] at *); omega) | exact decide_eq_false (by simp only [plS, nxS, cpS, noC, preS] at *; (try simp only [decide_eq_true_eq, decide_eq_false_iff_not, Bool.not_eq_true', Bool.not_eq_false', Bool.not_eq_true, Bool.not_eq_false, decide_not, decide_true, decide_false, Bool.decide_and, Bool.and_eq_true, Bool.or_eq_true, Bool.and_eq_false_imp, Decidable.not_not] at *); omega) | exact (decide_eq_false (by simp only [plS, nxS, cpS, noC, preS] at *; (try simp only [decide_eq_true_eq, decide_eq_false_iff_not, Bool.not_eq_true', Bool.not_eq_false', Bool.not_eq_true, Bool.not_eq_false, decide_not, decide_true, decide_false, Bool.decide_and, Bool.and_eq_true, Bool.or_eq_true, Bool.and_eq_false_imp, Decidable.not_not] at *); omega)).symm | exact decide_eq_true (by simp only [plS, nxS, cpS, noC, preS] at *; (try simp only [decide_eq_true_eq, decide_eq_false_iff_not, Bool.not_eq_true', Bool.not_eq_false', Bool.not_eq_true, Bool.not_eq_false, decide_not, decide_true, decide_false, Bool.decide_and, Bool.and_eq_true, Bool.or_eq_true, Bool.and_eq_false_imp, Decidable.not_not] at *); omega) | exact (decide_eq_true (by simp only [plS, nxS, cpS, noC, preS] at *; (try simp only [decide_eq_true_eq, decide_eq_false_iff_not, Bool.not_eq_true', Bool.not_eq_false', Bool.not_eq_true, Bool.not_eq_false, decide_not, decide_true, decide_false, Bool.decide_and, Bool.and_eq_true, Bool.or_eq_true, Bool.and_eq_false_imp, Decidable.not_not] at *); omega)).symm | skip)
theorem c_right {h : List Ch} {K : KT} {x : Stp} {n : Int} (H : K (.bool (vldS x n)) h) (s1 : x.c.args.length ≤ 1099511627776) : Does Try.prog 54 [.agg [.int .i64 x.kind, .int .i64 x.param, .int .i64 x.op, .int .i64 x.value, .int .i64 x.next, .int .i64 x.ticks, .int .i64 x.c.src, .int .i64 x.c.num, .int .i64 x.c.srv, .ro .int x.c.args, .ro .byte x.c.data], .int .i64 n] h K :=
  frame_pure (b_right x n s1) (br_cons (br_stp x) (br_cons br_int br_nil)) (.inr rfl) (fun _ => rfl) H
abbrev i_right := Ctr.mk (i := 0) (g := 54) @c_right
attribute [instance] i_right
end Go.V
