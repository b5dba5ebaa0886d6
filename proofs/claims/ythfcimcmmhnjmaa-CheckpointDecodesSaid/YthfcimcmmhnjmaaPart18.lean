/-
  ref40: Load.
  checkpoint: within, id, Contains.
  checkpoint, ref48: Valid.
-/
import Derived.Test.YthfcimcmmhnjmaaPart17
set_option linter.unusedVariables false
set_option linter.unusedSimpArgs false
set_option maxRecDepth 100000
set_option maxHeartbeats 1000000
namespace Go.V
open Go.Proofs
theorem uintR_some {ys : List UInt8} {s : Nat} (h : s ≤ ys.length) : uintR (some ys) s = (beval (ys.take s) 0, some (ys.drop s)) := by
  unfold uintR
  simp only [if_pos h]
theorem tku_some {ys : List UInt8} {s : Nat} (h : s ≤ ys.length) : tku ys s = (beval (ys.take s) 0, s) := by
  unfold tku
  rw [if_pos h]
theorem mod2_nat (m : Nat) : (m : Int).tmod 2 = ((m % 2 : Nat) : Int) := by
  rw [Int.tmod_eq_emod_of_nonneg (Int.natCast_nonneg _)]; rfl
theorem div2_nat (m : Nat) (h : m < 18446744073709551616) : IntKind.u64.wrap ((m : Int).tdiv 2) = ((m / 2 : Nat) : Int) := by
  rw [Int.tdiv_eq_ediv_of_nonneg (Int.natCast_nonneg _), wrap_u64]
  omega
theorem bit_zero {m : Nat} : ∀ {k : Nat}, m < 2 ^ k → (∀ j, j < k → m / 2 ^ j % 2 = 0) → m = 0
  | 0, h, _ => by simpa using h
  | k + 1, h, hb => by
    have h1 := hb k (Nat.lt_succ_self k)
    rw [Nat.pow_succ] at h
    have h3 : m / 2 ^ k < 2 := by rw [Nat.div_lt_iff_lt_mul (Nat.two_pow_pos k)]; omega
    have h4 : m / 2 ^ k = 0 := by revert h1 h3; generalize m / 2 ^ k = q; intro h1 h3; omega
    rw [Nat.div_eq_zero_iff] at h4
    have h5 : m < 2 ^ k := by
      rcases h4 with h4 | h4
      · have := Nat.two_pow_pos k; omega
      · exact h4
    exact bit_zero h5 (fun j hj => hb j (by omega))
/-- no bit stands for a number below 1 -/
def bitsOK (n m k : Nat) : Prop := ∀ j, j < k → m / 2 ^ j % 2 = 1 → j + 1 ≤ n
theorem recOK_bits {n m : Nat} (hm : m < 18446744073709551616) (h : (n = 0) = (m % 2 = 0)) (hb : bitsOK n m 64) : recOK n m = true := by
  unfold recOK
  by_cases h0 : n = 0
  · rw [if_pos h0, decide_eq_true_eq]
    refine bit_zero (k := 64) (by omega) fun j hj => ?_
    have := hb j hj
    omega
  · rw [if_neg h0]
    have h1 : m % 2 = 1 := by
      have : ¬ m % 2 = 0 := by rw [← h]; exact h0
      omega
    by_cases h2 : 64 ≤ n
    · simp [h1, h2]
    · have h3 : m / 2 ^ n = 0 := by
        refine bit_zero (k := 64 - n) ?_ fun j hj => ?_
        · rw [Nat.div_lt_iff_lt_mul (Nat.two_pow_pos n), ← Nat.pow_add, show 64 - n + n = 64 from by omega]
          omega
        · rw [Nat.div_div_eq_div_mul, ← Nat.pow_add]
          have := hb (n + j) (by omega)
          omega
      simp [h1, h3]
theorem recOK_no0 {n m : Nat} (h : ¬ ((n = 0) = (m % 2 = 0))) : recOK n m = false := by
  unfold recOK
  by_cases h0 : n = 0
  · rw [if_pos h0, decide_eq_false_iff_not]
    intro q
    apply h
    simp [h0, q]
  · rw [if_neg h0]
    have : m % 2 ≠ 1 := by
      intro q
      apply h
      simp [h0, q]
    simp [this]
theorem recOK_no1 {n m j : Nat} (hj : j < 64) (h1 : m / 2 ^ j % 2 = 1) (h2 : n < j + 1) : recOK n m = false := by
  unfold recOK
  have h3 : m / 2 ^ n ≠ 0 := by
    intro q
    rw [Nat.div_eq_zero_iff] at q
    have q2 : m < 2 ^ n := by
      rcases q with q | q
      · have := Nat.two_pow_pos n; omega
      · exact q
    have : 2 ^ n ≤ 2 ^ j := Nat.pow_le_pow_right (by omega) (by omega)
    rw [Nat.div_eq_of_lt (by omega)] at h1
    cases h1
  by_cases h0 : n = 0
  · rw [if_pos h0, decide_eq_false_iff_not]
    intro q
    rw [q, Nat.zero_div] at h1
    cases h1
  · rw [if_neg h0]
    have h5 : ¬ 64 ≤ n := by omega
    simp [h3, h5]
theorem ledR_len {b r : List UInt8} : ∀ {k : Nat}, (ledR (some b) k).2 = some r → r.length + 10 * k = b.length
  | 0, h => by cases h; rfl
  | k + 1, h => by
    rw [ledR] at h
    simp only at h
    rcases e : (ledR (some b) k).2 with _ | ys
    · rw [e] at h; cases h
    · have ih := ledR_len e
      rw [e] at h
      by_cases h2 : 2 ≤ ys.length
      · rw [uintR_some h2] at h
        simp only at h
        by_cases h8 : 8 ≤ (ys.drop 2).length
        · rw [uintR_some h8] at h
          simp only [Option.some.injEq] at h
          rw [← h]
          simp only [List.length_drop] at h8 ⊢
          omega
        · exfalso
          unfold uintR at h
          simp only [if_neg h8] at h
          cases h
      · exfalso
        unfold uintR at h
        simp only [if_neg h2] at h
        cases h
theorem ledV_len {b : List UInt8} (h : ledV b = true) : b.length = 160 := by
  unfold ledV at h
  rw [decide_eq_true_eq] at h
  have := ledR_len (b := b) (r := []) (k := 16) (by rw [h])
  simp at this
  omega
theorem c_tku2 {h : List Ch} {K : KT} {ys : List UInt8} {n k : Nat} {a : AV} (H : K (.tup [.int .u64 n, .int .i64 k]) h) (b1 : brA [] h (.ro .byte ys) a) (e : tku ys 2 = (n, k)) : Does Try.prog 50 [a, .int .i64 2] h K :=
  c_tku (size := 2) (by rw [e]; exact H) b1 (by decide) (by decide)
abbrev i_tku2 := Ctr.mk (i := 1) (g := 50) @c_tku2
attribute [instance] i_tku2
theorem c_tku8 {h : List Ch} {K : KT} {ys : List UInt8} {n k : Nat} {a : AV} (H : K (.tup [.int .u64 n, .int .i64 k]) h) (b1 : brA [] h (.ro .byte ys) a) (e : tku ys 8 = (n, k)) : Does Try.prog 50 [a, .int .i64 8] h K :=
  c_tku (size := 8) (by rw [e]; exact H) b1 (by decide) (by decide)
abbrev i_tku8 := Ctr.mk (i := 2) (g := 50) @c_tku8
attribute [instance] i_tku8
/-- the numbers that a mask stands for -/
def ysOf (n m : Nat) : Nat → List Int
  | 0 => []
  | k + 1 => if m / 2 ^ k % 2 = 1 then ysOf n m k ++ [(n : Int) - k] else ysOf n m k
theorem ysOf_le (n m : Nat) : ∀ k, (ysOf n m k).length ≤ k
  | 0 => Nat.le_refl _
  | k + 1 => by
    have := ysOf_le n m k
    rw [ysOf]
    split
    · simp only [List.length_append, List.length_cons, List.length_nil]; omega
    · omega
def rsOf (b : List UInt8) : Nat → List (Int × List Int)
  | 0 => []
  | s + 1 => rsOf b s ++ [(((beval ((b.drop (10 * s)).take 2) 0 : Nat) : Int), ysOf (beval ((b.drop (10 * s)).take 2) 0) (beval ((b.drop (10 * s + 2)).take 8) 0) 64)]
theorem rsOf_len (b : List UInt8) : ∀ s, (rsOf b s).length = s
  | 0 => rfl
  | s + 1 => by rw [rsOf, List.length_append, rsOf_len b s]; rfl
/-- the cells of the ledger that is loaded -/
def ledO (b : List UInt8) : List AV := if ledV b then arrO (rsOf b 16) else arrO []
theorem ledO_plain (b : List UInt8) : ∀ a ∈ ledO b, plainA a := by
  unfold ledO
  split
  · exact arrO_plain _
  · exact arrO_plain _
theorem ledO_len (b : List UInt8) : (ledO b).length = 32 := by
  unfold ledO
  split
  · exact arrO_len (by rw [rsOf_len]; exact Nat.le_refl _)
  · rfl
theorem plain_ren {ρ : Nat → Nat} : ∀ {l : List AV}, (∀ a ∈ l, plainA a) → renL ρ l = l
  | [], _ => rfl
  | a :: l, h => by
    have h1 := h a (by simp)
    rw [renL, plain_ren (fun b hb => h b (by simp [hb]))]
    unfold plainA at h1
    cases a <;> first | rfl | exact h1.2.elim
theorem ledO_no {b : List UInt8} (h : ledV b = false) : ledO b = [.int .i64 0, .lit (.slice none 0 0), .int .i64 0, .lit (.slice none 0 0), .int .i64 0, .lit (.slice none 0 0), .int .i64 0, .lit (.slice none 0 0), .int .i64 0, .lit (.slice none 0 0), .int .i64 0, .lit (.slice none 0 0), .int .i64 0, .lit (.slice none 0 0), .int .i64 0, .lit (.slice none 0 0), .int .i64 0, .lit (.slice none 0 0), .int .i64 0, .lit (.slice none 0 0), .int .i64 0, .lit (.slice none 0 0), .int .i64 0, .lit (.slice none 0 0), .int .i64 0, .lit (.slice none 0 0), .int .i64 0, .lit (.slice none 0 0), .int .i64 0, .lit (.slice none 0 0), .int .i64 0, .lit (.slice none 0 0)] := by
  unfold ledO
  rw [if_neg (by rw [h]; decide)]
  rfl
theorem setA_all : ∀ (l A : List AV) (off : Nat), A.length = off + l.length → setA A off l = A.take off ++ l
  | [], A, off, h => by
    rw [setA, List.append_nil, List.take_of_length_le (by rw [h]; exact Nat.le_refl _)]
  | a :: l, A, off, h => by
    rw [setA, setA_all l _ _ (by rw [List.length_set, h, List.length_cons]; omega)]
    have h1 : off < A.length := by rw [h, List.length_cons]; omega
    rw [List.take_succ_eq_append_getElem (by rw [List.length_set]; exact h1), List.getElem_set_self, List.take_set_of_le (Nat.le_refl _)]
    simp
theorem b_fload (b : List UInt8) (hb : b.length ≤ 1000000) : DoesK Try.prog 0 23 [.ro .byte b] [] (EndF 0 (.tup [.agg (ledO b), .bool (ledV b)]) []) := by
  refine DoesK.close ?_
  by_cases hl : b.length = 160
  · have hld : (decide ¬((b.length : Int) = 160)) = false := decide_eq_false (by omega)
    refine w_body (rs := [.cell 2 54, .tmp 3]) (tm := [.ro .byte b, .any, .any, .any, .any, .any, .any, .any, .any, .any, .any, .any, .any, .any, .any, .any, .any, .any, .any, .any, .any, .any, .any, .any, .any, .any, .any, .any, .any, .any, .any, .any, .any, .any, .any, .any, .any, .any, .any, .any, .any, .any, .any, .any, .any, .any, .any, .any, .any, .any, .any, .any, .any, .any, .any, .any, .any, .any, .any, .any, .any, .any, .any, .any, .any, .any, .any, .any, .any, .any, .any, .any, .any, .any, .any, .any, .any, .any, .any, .any, .any, .any]) fn_23 rfl rfl rfl rfl fun R hR => ?_
    (have zx1 := @hld; all_goals (try ((first | (with_reducible refine wp_id ?_) | (with_reducible refine does_id ?_)); refine walk ?_; (repeat' (first | exact trivial | with_reducible refine And.intro ?_ ?_)); all_goals (repeat (first | (with_reducible refine ImpB.mk fun hb => ?_) | (with_reducible refine ImpK.mk fun hK => ?_) | (with_reducible refine ImpF.mk fun hF => ?_) | (with_reducible refine AllK.mk fun K => ?_))))); repeat' (with_reducible refine And.intro ?_ ?_))
    any_goals (refine w_loop (A := Nat) (fun s => s ≤ 16 ∧ ledR (some b) s = (true, some (b.drop (10 * s)))) (fun s => 16 - s) (fun s => [(5, .int .i64 s)]) (fun s => [(1, .cells (arrO (rsOf b s)))]) (0) (ws := ?ws1) (tk := ?tk1) ?hw1 ?ht1 ?hi ?h0 ?LH1; (case hw1 => simp only [go_sem, Int.reduceToNat, Nat.min_eq_left, Nat.min_eq_right, Int.reducePow, Nat.reducePow, Int.reduceLE, Int.reduceLT, Int.reduceMul, Int.reduceAdd, Int.reduceSub, Int.reduceNeg, Bool.not_true, Bool.not_false, Bool.not_not, ↓reduceIte, Nat.reduceAdd, Nat.reduceSub, Nat.reduceMul, Nat.reduceEqDiff, reduceCtorEq, Nat.reduceLT, Nat.reduceLeDiff, Nat.reduceGT]; exact rfl); (case ht1 => simp only [go_sem, Int.reduceToNat, Nat.min_eq_left, Nat.min_eq_right, Int.reducePow, Nat.reducePow, Int.reduceLE, Int.reduceLT, Int.reduceMul, Int.reduceAdd, Int.reduceSub, Int.reduceNeg, Bool.not_true, Bool.not_false, Bool.not_not, ↓reduceIte, Nat.reduceAdd, Nat.reduceSub, Nat.reduceMul, Nat.reduceEqDiff, reduceCtorEq, Nat.reduceLT, Nat.reduceLeDiff, Nat.reduceGT]; exact rfl); (case' LH1 => rintro s E t hx hE ht; simp only [go_sem] at ht; subst ht; simp only [go_sem]; try dsimp only at hx))
    case LH1 =>
      have hs := rsOf_len b s
      by_cases hk : s < 16
      · have hkd : decide ((s : Int) < 16) = true := decide_eq_true (by omega)
        obtain ⟨A, B, hO, hA, hB, pA, pB, hN⟩ := arrO_split (rs := rsOf b s) (by omega)
        rw [hs] at hA hB
        rw [hO]
        have w1 : IntKind.i64.wrap (10 * (s : Int)) = ((10 * s : Nat) : Int) := by rw [wrap_i64 _ (by omega) (by omega)]; omega
        have w2 : IntKind.i64.wrap (((10 * s : Nat) : Int) + 2) = ((10 * s + 2 : Nat) : Int) := by rw [wrap_i64 _ (by omega) (by omega)]; omega
        have t1 := tku_some (ys := b.drop (10 * s)) (s := 2) (by rw [List.length_drop]; omega)
        have t2 := tku_some (ys := b.drop (10 * s + 2)) (s := 8) (by rw [List.length_drop]; omega)
        have u1 := uintR_some (ys := b.drop (10 * s)) (s := 2) (by rw [List.length_drop]; omega)
        have u2 := uintR_some (ys := (b.drop (10 * s)).drop 2) (s := 8) (by simp only [List.length_drop]; omega)
        rw [List.drop_drop] at u1 u2
        have hnb := beval_bd ((b.drop (10 * s)).take 2) 0 0 (by omega)
        have hmb := beval_lt ((b.drop (10 * s + 2)).take 8) (by rw [List.length_take]; omega)
        rw [List.length_take, List.length_drop, Nat.min_eq_left (by omega)] at hnb
        generalize hn : beval ((b.drop (10 * s)).take 2) 0 = n at *
        generalize hm : beval ((b.drop (10 * s + 2)).take 8) 0 = m at *
        have hst := ledR_step hx.2 u1 u2
        have w3 : IntKind.i64.wrap (n : Int) = n := wrap_i64 _ (by omega) (by omega)
        have sg0 := arrM_set0 (B := B) hA
        have sg1 := arrM_set1 (B := B) hA
        have gg1 := arrM_get1 (B := B) hA
        have lg := arrM_len hA hB hk
        have md := mod2_nat
        (have zx1 := @hkd; have zx2 := @w1; have zx3 := @w2; have zx4 := @w3; have zx5 := @t1; have zx6 := @t2; have zx7 := @sg0; have zx8 := @sg1; have zx9 := @gg1; have zx10 := @lg; have zx11 := @md; have zx12 := @Nat.zero_add; all_goals (try ((first | (with_reducible refine wp_id ?_) | (with_reducible refine does_id ?_)); refine walk ?_; (repeat' (first | exact trivial | with_reducible refine And.intro ?_ ?_)); all_goals (repeat (first | (with_reducible refine ImpB.mk fun hb => ?_) | (with_reducible refine ImpK.mk fun hK => ?_) | (with_reducible refine ImpF.mk fun hF => ?_) | (with_reducible refine AllK.mk fun K => ?_))))); repeat' (with_reducible refine And.intro ?_ ?_))
        all_goals first | exact Int.natCast_nonneg _ | omega | decide | skip
        · have hno := (ledV_no (k := s + 1) (by rw [hst]; exact recOK_no0 (by simp only [Bool.not_eq_true', decide_eq_false_iff_not, decide_eq_decide] at hb; intro q; apply hb; rw [Int.natCast_eq_zero, Int.natCast_eq_zero, q])) (by omega))
          rw [hno]
          rw [ledO_no (hno)]
          (focus (refine ⟨_, _, Gh.refl, [], rfl, ?_⟩; (refine ⟨?_, ?_, ?_⟩ <;> simp only [go_sem, List.range, List.range.loop, List.nodup_cons, List.nodup_nil, List.mem_cons, List.not_mem_nil, or_false, or_self, Int.reduceToNat, Nat.min_eq_left, Nat.min_eq_right, Int.reducePow, Nat.reducePow, Int.reduceLE, Int.reduceLT, Int.reduceMul, Int.reduceAdd, Int.reduceSub, Int.reduceNeg, Bool.not_true, Bool.not_false, Bool.not_not, ↓reduceIte, Nat.reduceAdd, Nat.reduceSub, Nat.reduceMul, Nat.reduceEqDiff, reduceCtorEq, Nat.reduceLT, Nat.reduceLeDiff, Nat.reduceGT]); (try any_goals (refine ⟨?_, ?_⟩)); (try any_goals (with_reducible rfl))))
        have hnm : (n = 0) = (m % 2 = 0) := by
          simp only [Bool.not_eq_false', decide_eq_true_eq, decide_eq_decide] at hb
          rw [Int.natCast_eq_zero, Int.natCast_eq_zero] at hb
          exact propext hb
        refine Wp.ghost (gh_adoptC (t := 1) (i := s * 2 + 1) (vs := arrM A B n (.lit (.slice none 0 0))) .int rfl (by rw [gg1]; trivial)) ?_
        rw [sg1]
        any_goals (refine w_loop (A := Nat) (fun k => k ≤ 64 ∧ bitsOK n m k) (fun k => 64 - k) (fun k => [(10, .int .i64 k), (8, .int .u64 (m / 2 ^ k : Nat))]) (fun k => [(1, .cells (arrM A B n (.sl 2 .int 0 (ysOf n m k).length))), (2, .rows .int (ysOf n m k))]) (0) (ws := ?ws2) (tk := ?tk2) ?hw2 ?ht2 ?hi_1 ?h0_1 ?LH2; (case hw2 => simp only [go_sem, Int.reduceToNat, Nat.min_eq_left, Nat.min_eq_right, Int.reducePow, Nat.reducePow, Int.reduceLE, Int.reduceLT, Int.reduceMul, Int.reduceAdd, Int.reduceSub, Int.reduceNeg, Bool.not_true, Bool.not_false, Bool.not_not, ↓reduceIte, Nat.reduceAdd, Nat.reduceSub, Nat.reduceMul, Nat.reduceEqDiff, reduceCtorEq, Nat.reduceLT, Nat.reduceLeDiff, Nat.reduceGT]; exact rfl); (case ht2 => simp only [go_sem, Int.reduceToNat, Nat.min_eq_left, Nat.min_eq_right, Int.reducePow, Nat.reducePow, Int.reduceLE, Int.reduceLT, Int.reduceMul, Int.reduceAdd, Int.reduceSub, Int.reduceNeg, Bool.not_true, Bool.not_false, Bool.not_not, ↓reduceIte, Nat.reduceAdd, Nat.reduceSub, Nat.reduceMul, Nat.reduceEqDiff, reduceCtorEq, Nat.reduceLT, Nat.reduceLeDiff, Nat.reduceGT]; exact rfl); (case' LH2 => rintro k E t hx hE ht; simp only [go_sem] at ht; subst ht; simp only [go_sem]; try dsimp only at hx))
        case LH2 =>
          have hyl := ysOf_le n m k
          obtain ⟨ys, hys⟩ : ∃ ys, ysOf n m k = ys := ⟨_, rfl⟩
          rw [hys] at hyl
          try simp only [hys]
          by_cases hk64 : k < 64
          · have hkd : decide ((k : Int) < 64) = true := decide_eq_true (by omega)
            have hmk : m / 2 ^ k < 18446744073709551616 := Nat.lt_of_le_of_lt (Nat.div_le_self _ _) hmb
            have dv := div2_nat _ hmk
            rw [Nat.div_div_eq_div_mul, ← Nat.pow_succ] at dv
            have w4 : IntKind.i64.wrap ((n : Int) - k) = (n : Int) - k := wrap_i64 _ (by omega) (by omega)
            by_cases hbit : m / 2 ^ k % 2 = 1
            · have hbd : decide (((m / 2 ^ k % 2 : Nat) : Int) = 1) = true := decide_eq_true (by omega)
              (have zx1 := @hkd; have zx2 := @w3; have zx3 := @w4; have zx4 := @sg0; have zx5 := @sg1; have zx6 := @gg1; have zx7 := @lg; have zx8 := @md; have zx9 := @dv; have zx10 := @hbd; have zx11 := @Nat.zero_add; all_goals (try ((first | (with_reducible refine wp_id ?_) | (with_reducible refine does_id ?_)); refine walk ?_; (repeat' (first | exact trivial | with_reducible refine And.intro ?_ ?_)); all_goals (repeat (first | (with_reducible refine ImpB.mk fun hb => ?_) | (with_reducible refine ImpK.mk fun hK => ?_) | (with_reducible refine ImpF.mk fun hF => ?_) | (with_reducible refine AllK.mk fun K => ?_))))); repeat' (with_reducible refine And.intro ?_ ?_))
              all_goals first | exact Int.natCast_nonneg _ | omega | decide | skip
              · have hnk : (n : Int) - k < 1 := of_decide_eq_true hb
                have hno := ledV_no (k := s + 1) (by rw [hst]; exact recOK_no1 hk64 hbit (by omega)) (by omega)
                rw [hno, ledO_no hno]
                (focus (refine ⟨_, _, Gh.refl, [], rfl, ?_⟩; (refine ⟨?_, ?_, ?_⟩ <;> simp only [go_sem, List.range, List.range.loop, List.nodup_cons, List.nodup_nil, List.mem_cons, List.not_mem_nil, or_false, or_self, Int.reduceToNat, Nat.min_eq_left, Nat.min_eq_right, Int.reducePow, Nat.reducePow, Int.reduceLE, Int.reduceLT, Int.reduceMul, Int.reduceAdd, Int.reduceSub, Int.reduceNeg, Bool.not_true, Bool.not_false, Bool.not_not, ↓reduceIte, Nat.reduceAdd, Nat.reduceSub, Nat.reduceMul, Nat.reduceEqDiff, reduceCtorEq, Nat.reduceLT, Nat.reduceLeDiff, Nat.reduceGT]); (try any_goals (refine ⟨?_, ?_⟩)); (try any_goals (with_reducible rfl))))
              · have hnk : ¬ (n : Int) - k < 1 := of_decide_eq_false hb
                have hy1 : ysOf n m (k + 1) = ys ++ [(n : Int) - k] := by rw [ysOf, if_pos hbit, hys]
                refine ⟨k + 1, ⟨⟨by first | omega | (dsimp only; omega), ?m1⟩, by first | omega | (dsimp only; omega)⟩, ?m2⟩
                case m1 =>
                  intro j hj hj1
                  by_cases hjk : j < k
                  · exact hx.2 j hjk hj1
                  · omega
                simp only [hy1]
                (focus (refine ⟨_, _, Gh.refl, [0, 1, 4], rfl, ?_⟩; (refine ⟨?_, ?_, ?_⟩ <;> simp only [go_sem, List.range, List.range.loop, List.nodup_cons, List.nodup_nil, List.mem_cons, List.not_mem_nil, or_false, or_self, Int.reduceToNat, Nat.min_eq_left, Nat.min_eq_right, Int.reducePow, Nat.reducePow, Int.reduceLE, Int.reduceLT, Int.reduceMul, Int.reduceAdd, Int.reduceSub, Int.reduceNeg, Bool.not_true, Bool.not_false, Bool.not_not, ↓reduceIte, Nat.reduceAdd, Nat.reduceSub, Nat.reduceMul, Nat.reduceEqDiff, reduceCtorEq, Nat.reduceLT, Nat.reduceLeDiff, Nat.reduceGT]); (try any_goals (refine ⟨?_, ?_⟩)); (try any_goals (with_reducible rfl))))
                · rw [wrap_i64 _ (by omega) (by omega)]; omega
                · exact arrM_fit pA pB n ⟨rfl, rfl, rfl, rfl⟩
            · have hbd : decide (((m / 2 ^ k % 2 : Nat) : Int) = 1) = false := decide_eq_false (by omega)
              (have zx1 := @hkd; have zx2 := @w3; have zx3 := @w4; have zx4 := @sg0; have zx5 := @sg1; have zx6 := @gg1; have zx7 := @lg; have zx8 := @md; have zx9 := @dv; have zx10 := @hbd; have zx11 := @Nat.zero_add; all_goals (try ((first | (with_reducible refine wp_id ?_) | (with_reducible refine does_id ?_)); refine walk ?_; (repeat' (first | exact trivial | with_reducible refine And.intro ?_ ?_)); all_goals (repeat (first | (with_reducible refine ImpB.mk fun hb => ?_) | (with_reducible refine ImpK.mk fun hK => ?_) | (with_reducible refine ImpF.mk fun hF => ?_) | (with_reducible refine AllK.mk fun K => ?_))))); repeat' (with_reducible refine And.intro ?_ ?_))
              all_goals first | exact Int.natCast_nonneg _ | omega | decide | skip
              have hy1 : ysOf n m (k + 1) = ys := by rw [ysOf, if_neg hbit, hys]
              refine ⟨k + 1, ⟨⟨by first | omega | (dsimp only; omega), ?m3⟩, by first | omega | (dsimp only; omega)⟩, ?m4⟩
              case m3 =>
                intro j hj hj1
                by_cases hjk : j < k
                · exact hx.2 j hjk hj1
                · obtain rfl : j = k := by first | omega | (simp only at hj; omega)
                  exact absurd hj1 hbit
              simp only [hy1]
              (focus (refine ⟨_, _, Gh.refl, [0, 1, 2], rfl, ?_⟩; (refine ⟨?_, ?_, ?_⟩ <;> simp only [go_sem, List.range, List.range.loop, List.nodup_cons, List.nodup_nil, List.mem_cons, List.not_mem_nil, or_false, or_self, Int.reduceToNat, Nat.min_eq_left, Nat.min_eq_right, Int.reducePow, Nat.reducePow, Int.reduceLE, Int.reduceLT, Int.reduceMul, Int.reduceAdd, Int.reduceSub, Int.reduceNeg, Bool.not_true, Bool.not_false, Bool.not_not, ↓reduceIte, Nat.reduceAdd, Nat.reduceSub, Nat.reduceMul, Nat.reduceEqDiff, reduceCtorEq, Nat.reduceLT, Nat.reduceLeDiff, Nat.reduceGT]); (try any_goals (refine ⟨?_, ?_⟩)); (try any_goals (with_reducible rfl))))
              · rw [wrap_i64 _ (by omega) (by omega)]; omega
              · exact arrM_fit pA pB n ⟨rfl, rfl, rfl, rfl⟩
          · have hkd : decide ((k : Int) < 64) = false := decide_eq_false (by omega)
            have hk6 : k = 64 := by omega
            rw [hk6] at hx
            (have zx1 := @hkd; all_goals (try ((first | (with_reducible refine wp_id ?_) | (with_reducible refine does_id ?_)); refine walk ?_; (repeat' (first | exact trivial | with_reducible refine And.intro ?_ ?_)); all_goals (repeat (first | (with_reducible refine ImpB.mk fun hb => ?_) | (with_reducible refine ImpK.mk fun hK => ?_) | (with_reducible refine ImpF.mk fun hF => ?_) | (with_reducible refine AllK.mk fun K => ?_))))); repeat' (with_reducible refine And.intro ?_ ?_))
            have hok : recOK n m = true := recOK_bits hmb hnm hx.2
            rw [hk6] at hys
            have hrs' : rsOf b (s + 1) = rsOf b s ++ [((n : Int), ys)] := by rw [rsOf, hn, hm, hys]
            refine ⟨s + 1, ⟨⟨by first | omega | (dsimp only; omega), ?m5⟩, by first | omega | (dsimp only; omega)⟩, ?m6⟩
            case m5 =>
              rw [hst, hok, List.drop_drop, show 10 * s + 2 + 8 = 10 * (s + 1) from by omega]
            simp only [hrs']
            refine ⟨_, _, gh_frz (t := 2) (e := .int) (xs := ys) rfl ?f1 ?f2, [0, 1], rfl, ?ft⟩
            case f1 => simp only [go_sem, Int.reduceToNat, Nat.min_eq_left, Nat.min_eq_right, Int.reducePow, Nat.reducePow, Int.reduceLE, Int.reduceLT, Int.reduceMul, Int.reduceAdd, Int.reduceSub, Int.reduceNeg, Bool.not_true, Bool.not_false, Bool.not_not, ↓reduceIte, Nat.reduceAdd, Nat.reduceSub, Nat.reduceMul, Nat.reduceEqDiff, reduceCtorEq, Nat.reduceLT, Nat.reduceLeDiff, Nat.reduceGT]
            case f2 => simp only [go_sem, Int.reduceToNat, Nat.min_eq_left, Nat.min_eq_right, Int.reducePow, Nat.reducePow, Int.reduceLE, Int.reduceLT, Int.reduceMul, Int.reduceAdd, Int.reduceSub, Int.reduceNeg, Bool.not_true, Bool.not_false, Bool.not_not, ↓reduceIte, Nat.reduceAdd, Nat.reduceSub, Nat.reduceMul, Nat.reduceEqDiff, reduceCtorEq, Nat.reduceLT, Nat.reduceLeDiff, Nat.reduceGT]; exact arrM_frOb pA pB 2 n ys
            refine ⟨?_, ?_, ?_⟩
            · simp only [go_sem, Int.reduceToNat, Nat.min_eq_left, Nat.min_eq_right, Int.reducePow, Nat.reducePow, Int.reduceLE, Int.reduceLT, Int.reduceMul, Int.reduceAdd, Int.reduceSub, Int.reduceNeg, Bool.not_true, Bool.not_false, Bool.not_not, ↓reduceIte, Nat.reduceAdd, Nat.reduceSub, Nat.reduceMul, Nat.reduceEqDiff, reduceCtorEq, Nat.reduceLT, Nat.reduceLeDiff, Nat.reduceGT]
              rw [wrap_i64 _ (by omega) (by omega)]; omega
            · simp only [go_sem, Int.reduceToNat, Nat.min_eq_left, Nat.min_eq_right, Int.reducePow, Nat.reducePow, Int.reduceLE, Int.reduceLT, Int.reduceMul, Int.reduceAdd, Int.reduceSub, Int.reduceNeg, Bool.not_true, Bool.not_false, Bool.not_not, ↓reduceIte, Nat.reduceAdd, Nat.reduceSub, Nat.reduceMul, Nat.reduceEqDiff, reduceCtorEq, Nat.reduceLT, Nat.reduceLeDiff, Nat.reduceGT, hN, arrM_fr pA pB]
              exact arrM_fit pA pB n (by unfold fitA; simp only [asE_refl])
            · decide
        · exact ⟨Nat.zero_le _, fun j hj => absurd hj (Nat.not_lt_zero j)⟩
        · rw [show m / 2 ^ (0 : Nat) = m from by simp]
          rw [show ysOf n m 0 = [] from rfl]
          (focus (refine ⟨_, _, Gh.refl, [0, 1, 2], rfl, ?_⟩; (refine ⟨?_, ?_, ?_⟩ <;> simp only [go_sem, List.range, List.range.loop, List.nodup_cons, List.nodup_nil, List.mem_cons, List.not_mem_nil, or_false, or_self, Int.reduceToNat, Nat.min_eq_left, Nat.min_eq_right, Int.reducePow, Nat.reducePow, Int.reduceLE, Int.reduceLT, Int.reduceMul, Int.reduceAdd, Int.reduceSub, Int.reduceNeg, Bool.not_true, Bool.not_false, Bool.not_not, ↓reduceIte, Nat.reduceAdd, Nat.reduceSub, Nat.reduceMul, Nat.reduceEqDiff, reduceCtorEq, Nat.reduceLT, Nat.reduceLeDiff, Nat.reduceGT]); (try any_goals (refine ⟨?_, ?_⟩)); (try any_goals (with_reducible rfl))))
          exact arrM_fit pA pB n ⟨rfl, rfl, rfl, rfl⟩
      · have hkd : decide ((s : Int) < 16) = false := decide_eq_false (by omega)
        obtain rfl : s = 16 := by omega
        have hv : ledV b = true := by
          unfold ledV
          rw [hx.2, List.drop_of_length_le (by omega)]
          exact decide_eq_true rfl
        have ho : ledO b = arrO (rsOf b 16) := by unfold ledO; rw [if_pos hv]
        revert hs ho
        generalize rsOf b 16 = rs
        intro hs ho
        have hal := arrO_len (rs := rs) (by omega)
        have hat : (arrO rs).take 32 = arrO rs := List.take_of_length_le (by omega)
        have hao := plain_ok (arrO_plain rs)
        have hap := arrO_plain rs
        have hd0 : (arrO rs).drop 0 = arrO rs := rfl
        generalize arrO rs = L at *
        have hset : setA [.int .i64 0, .lit (.slice none 0 0), .int .i64 0, .lit (.slice none 0 0), .int .i64 0, .lit (.slice none 0 0), .int .i64 0, .lit (.slice none 0 0), .int .i64 0, .lit (.slice none 0 0), .int .i64 0, .lit (.slice none 0 0), .int .i64 0, .lit (.slice none 0 0), .int .i64 0, .lit (.slice none 0 0), .int .i64 0, .lit (.slice none 0 0), .int .i64 0, .lit (.slice none 0 0), .int .i64 0, .lit (.slice none 0 0), .int .i64 0, .lit (.slice none 0 0), .int .i64 0, .lit (.slice none 0 0), .int .i64 0, .lit (.slice none 0 0), .int .i64 0, .lit (.slice none 0 0), .int .i64 0, .lit (.slice none 0 0)] 0 L = L := setA_all L _ 0 (by rw [hal]; rfl)
        (have zx1 := @hkd; have zx2 := @hal; have zx3 := @hat; have zx4 := @hd0; have zx5 := @hset; all_goals (try ((first | (with_reducible refine wp_id ?_) | (with_reducible refine does_id ?_)); refine walk ?_; (repeat' (first | exact trivial | with_reducible refine And.intro ?_ ?_)); all_goals (repeat (first | (with_reducible refine ImpB.mk fun hb => ?_) | (with_reducible refine ImpK.mk fun hK => ?_) | (with_reducible refine ImpF.mk fun hF => ?_) | (with_reducible refine AllK.mk fun K => ?_))))); repeat' (with_reducible refine And.intro ?_ ?_))
        · exact hao
        · rw [hv, ho]
          (focus (refine ⟨_, _, Gh.refl, [], rfl, ?_⟩; (refine ⟨?_, ?_, ?_⟩ <;> simp only [go_sem, List.range, List.range.loop, List.nodup_cons, List.nodup_nil, List.mem_cons, List.not_mem_nil, or_false, or_self, Int.reduceToNat, Nat.min_eq_left, Nat.min_eq_right, Int.reducePow, Nat.reducePow, Int.reduceLE, Int.reduceLT, Int.reduceMul, Int.reduceAdd, Int.reduceSub, Int.reduceNeg, Bool.not_true, Bool.not_false, Bool.not_not, ↓reduceIte, Nat.reduceAdd, Nat.reduceSub, Nat.reduceMul, Nat.reduceEqDiff, reduceCtorEq, Nat.reduceLT, Nat.reduceLeDiff, Nat.reduceGT]); (try any_goals (refine ⟨?_, ?_⟩)); (try any_goals (with_reducible rfl))))
          all_goals first | exact plain_fit hap | trace_state
    · exact ⟨Nat.zero_le _, rfl⟩
    · (focus (refine ⟨_, _, Gh.refl, [0, 1], rfl, ?_⟩; (refine ⟨?_, ?_, ?_⟩ <;> simp only [go_sem, List.range, List.range.loop, List.nodup_cons, List.nodup_nil, List.mem_cons, List.not_mem_nil, or_false, or_self, Int.reduceToNat, Nat.min_eq_left, Nat.min_eq_right, Int.reducePow, Nat.reducePow, Int.reduceLE, Int.reduceLT, Int.reduceMul, Int.reduceAdd, Int.reduceSub, Int.reduceNeg, Bool.not_true, Bool.not_false, Bool.not_not, ↓reduceIte, Nat.reduceAdd, Nat.reduceSub, Nat.reduceMul, Nat.reduceEqDiff, reduceCtorEq, Nat.reduceLT, Nat.reduceLeDiff, Nat.reduceGT]); (try any_goals (refine ⟨?_, ?_⟩)); (try any_goals (with_reducible rfl))))
      · exact ⟨rfl, rfl⟩
      · repeat (first | exact trivial | refine ⟨⟨rfl, rfl⟩, ?_⟩ | refine ⟨rfl, ?_⟩)
  · have hld : (decide ¬((b.length : Int) = 160)) = true := decide_eq_true (by omega)
    refine w_body (rs := [.cell 2 54, .tmp 3]) (tm := [.ro .byte b, .any, .any, .any, .any, .any, .any, .any, .any, .any, .any, .any, .any, .any, .any, .any, .any, .any, .any, .any, .any, .any, .any, .any, .any, .any, .any, .any, .any, .any, .any, .any, .any, .any, .any, .any, .any, .any, .any, .any, .any, .any, .any, .any, .any, .any, .any, .any, .any, .any, .any, .any, .any, .any, .any, .any, .any, .any, .any, .any, .any, .any, .any, .any, .any, .any, .any, .any, .any, .any, .any, .any, .any, .any, .any, .any, .any, .any, .any, .any, .any, .any]) fn_23 rfl rfl rfl rfl fun R hR => ?_
    (have zx1 := @hld; all_goals (try ((first | (with_reducible refine wp_id ?_) | (with_reducible refine does_id ?_)); refine walk ?_; (repeat' (first | exact trivial | with_reducible refine And.intro ?_ ?_)); all_goals (repeat (first | (with_reducible refine ImpB.mk fun hb => ?_) | (with_reducible refine ImpK.mk fun hK => ?_) | (with_reducible refine ImpF.mk fun hF => ?_) | (with_reducible refine AllK.mk fun K => ?_))))); repeat' (with_reducible refine And.intro ?_ ?_))
    have hno : ledV b = false := by cases e : ledV b with | false => rfl | true => exact absurd (ledV_len e) hl
    rw [hno, ledO_no hno]
    (focus (refine ⟨_, _, Gh.refl, [], rfl, ?_⟩; (refine ⟨?_, ?_, ?_⟩ <;> simp only [go_sem, List.range, List.range.loop, List.nodup_cons, List.nodup_nil, List.mem_cons, List.not_mem_nil, or_false, or_self, Int.reduceToNat, Nat.min_eq_left, Nat.min_eq_right, Int.reducePow, Nat.reducePow, Int.reduceLE, Int.reduceLT, Int.reduceMul, Int.reduceAdd, Int.reduceSub, Int.reduceNeg, Bool.not_true, Bool.not_false, Bool.not_not, ↓reduceIte, Nat.reduceAdd, Nat.reduceSub, Nat.reduceMul, Nat.reduceEqDiff, reduceCtorEq, Nat.reduceLT, Nat.reduceLeDiff, Nat.reduceGT]); (try any_goals (refine ⟨?_, ?_⟩)); (try any_goals (with_reducible rfl))))
theorem c_fload {h : List Ch} {K : KT} {b : List UInt8} {a : AV} (H : K (.tup [.agg (ledO b), .bool (ledV b)]) h) (q1 : isRO .byte b a) (s1 : b.length ≤ 1000000) : Does Try.prog 23 [a] h K :=
  frame_pure (b_fload b s1) (br_cons q1.br br_nil) (.inl (by rw [brTL, q1.brT]; rfl)) (fun ρ => by simp only [renA, renL, plain_ren (ledO_plain b)]) H
abbrev i_fload := Ctr.mk (i := 0) (g := 23) @c_fload
attribute [instance] i_fload
end Go.V

set_option maxRecDepth 100000
set_option maxHeartbeats 1000000
namespace Go.V
open Go.Proofs
theorem b_within (n l m : Int) : DoesK Try.prog 0 25 [.int .i64 n, .int .i64 l, .int .i64 m] [] (EndF 0 (.bool (decide (l ≤ n) && decide (n ≤ m))) []) := by
  refine DoesK.close ?_
  refine w_body (rs := [.tmp 6]) (tm := [.int .i64 n, .int .i64 l, .int .i64 m, .any, .any, .any, .any, .any, .any, .any, .any, .any, .any, .any, .any]) fn_25 rfl rfl rfl rfl fun R hR => ?_
  (all_goals (try ((first | (with_reducible refine wp_id ?_) | (with_reducible refine does_id ?_)); refine walk ?_; (repeat' (first | exact trivial | with_reducible refine And.intro ?_ ?_)); all_goals (repeat (first | (with_reducible refine ImpB.mk fun hb => ?_) | (with_reducible refine ImpK.mk fun hK => ?_) | (with_reducible refine ImpF.mk fun hF => ?_) | (with_reducible refine AllK.mk fun K => ?_))))); repeat' (with_reducible refine And.intro ?_ ?_))
  (all_goals (repeat (first | (clear hK; clear K) | (clear hE; clear E) | (clear hF; clear F) | (clear hR; clear R))); all_goals (try simp only [decide_eq_true_eq, decide_eq_false_iff_not, Bool.not_eq_true', Bool.not_eq_false', Bool.not_eq_true, Bool.not_eq_false, decide_not, decide_true, decide_false, Bool.decide_and, Bool.and_eq_true, Bool.or_eq_true, Bool.and_eq_false_imp, Decidable.not_not] at *); all_goals (try omega); all_goals (try (first | exact u8w_lo _ | exact u8w_hi _ | exact (bits8 _ _ _).1 | exact (bits8 _ _ _).2 | exact Int.natCast_nonneg _ | exact u8_ltI _)))
  all_goals
    (focus (refine ⟨_, _, Gh.refl, [], rfl, ?_⟩; (refine ⟨?_, ?_, ?_⟩ <;> simp only [go_sem, List.range, List.range.loop, List.nodup_cons, List.nodup_nil, List.mem_cons, List.not_mem_nil, or_false, or_self, Int.reduceToNat, Nat.min_eq_left, Nat.min_eq_right, Int.reducePow, Nat.reducePow, Int.reduceLE, Int.reduceLT, Int.reduceMul, Int.reduceAdd, Int.reduceSub, Int.reduceNeg, Bool.not_true, Bool.not_false, Bool.not_not, ↓reduceIte, Nat.reduceAdd, Nat.reduceSub, Nat.reduceMul, Nat.reduceEqDiff, reduceCtorEq, Nat.reduceLT, Nat.reduceLeDiff, Nat.reduceGT]); (try any_goals (refine ⟨?_, ?_⟩)); (try any_goals (with_reducible rfl))))
    simp [*]
theorem c_within {h : List Ch} {K : KT} {n l m : Int} (H : K (.bool (decide (l ≤ n) && decide (n ≤ m))) h) : Does Try.prog 25 [.int .i64 n, .int .i64 l, .int .i64 m] h K :=
  frame_pure (b_within n l m) (br_cons br_int (br_cons br_int (br_cons br_int br_nil))) (.inr rfl) (fun _ => rfl) H
abbrev i_within := Ctr.mk (i := 0) (g := 25) @c_within
attribute [instance] i_within
/-- a file's name -/
def fidB (f : Fid) : Bool := decide (0 ≤ f.src) && decide (f.src ≤ 15) && (decide (0 ≤ f.num) && decide (f.num ≤ 65535))
theorem b_cid (s n : Int) : DoesK Try.prog 0 26 [.agg [.int .i64 s, .int .i64 n]] [] (EndF 0 (.bool (fidB ⟨s, n⟩)) []) := by
  refine DoesK.close ?_
  refine w_body (rs := [.tmp 2]) (tm := [.agg [.int .i64 s, .int .i64 n], .any, .any, .any, .any, .any, .any, .any, .any, .any, .any]) fn_26 rfl rfl rfl rfl fun R hR => ?_
  (all_goals (try ((first | (with_reducible refine wp_id ?_) | (with_reducible refine does_id ?_)); refine walk ?_; (repeat' (first | exact trivial | with_reducible refine And.intro ?_ ?_)); all_goals (repeat (first | (with_reducible refine ImpB.mk fun hb => ?_) | (with_reducible refine ImpK.mk fun hK => ?_) | (with_reducible refine ImpF.mk fun hF => ?_) | (with_reducible refine AllK.mk fun K => ?_))))); repeat' (with_reducible refine And.intro ?_ ?_))
  all_goals
    (focus (refine ⟨_, _, Gh.refl, [], rfl, ?_⟩; (refine ⟨?_, ?_, ?_⟩ <;> simp only [go_sem, List.range, List.range.loop, List.nodup_cons, List.nodup_nil, List.mem_cons, List.not_mem_nil, or_false, or_self, Int.reduceToNat, Nat.min_eq_left, Nat.min_eq_right, Int.reducePow, Nat.reducePow, Int.reduceLE, Int.reduceLT, Int.reduceMul, Int.reduceAdd, Int.reduceSub, Int.reduceNeg, Bool.not_true, Bool.not_false, Bool.not_not, ↓reduceIte, Nat.reduceAdd, Nat.reduceSub, Nat.reduceMul, Nat.reduceEqDiff, reduceCtorEq, Nat.reduceLT, Nat.reduceLeDiff, Nat.reduceGT]); (try any_goals (refine ⟨?_, ?_⟩)); (try any_goals (with_reducible rfl))))
    rw [Bool.eq_iff_iff]
    simp only [fidB, Bool.and_eq_true, decide_eq_true_eq, Bool.false_eq_true, iff_false, Bool.and_eq_false_imp, decide_eq_false_iff_not] at hb ⊢
    omega
theorem c_id {h : List Ch} {K : KT} {s n : Int} (H : K (.bool (fidB ⟨s, n⟩)) h) : Does Try.prog 26 [.agg [.int .i64 s, .int .i64 n]] h K :=
  frame_pure (b_cid s n) (br_cons (br_agg (br_cons br_int (br_cons br_int br_nil))) br_nil) (.inr rfl) (fun _ => rfl) H
abbrev i_id := Ctr.mk (i := 0) (g := 26) @c_id
attribute [instance] i_id
theorem fid_take {l : List Fid} {k : Nat} (hk : k < l.length) : l.take (k + 1) = l.take k ++ [l.getD k Fid.zero] := by
  rw [List.take_succ_eq_append_getElem hk, List.getD_eq_getElem?_getD, List.getElem?_eq_getElem hk]
  rfl
/-- where a file's name stands -/
def fidI (l : List Fid) (x : Fid) : Int := if x ∈ l then (l.idxOf x : Int) else -1
theorem fidI_at {x : Fid} {l : List Fid} {k : Nat} (hk : k < l.length) (h : x ∉ l.take k) (e : x = l.getD k Fid.zero) : fidI l x = k := by
  have hd : l = l.take k ++ x :: l.drop (k + 1) := by
    rw [e, List.getD_eq_getElem?_getD, List.getElem?_eq_getElem hk, Option.getD_some, ← List.drop_eq_getElem_cons hk, List.take_append_drop]
  have hm : x ∈ l := by rw [hd]; simp
  unfold fidI
  rw [if_pos hm]
  conv => lhs; rw [hd]
  rw [List.idxOf_append, if_neg h, List.length_take, Nat.min_eq_left (by omega)]
  simp
theorem fidI_no {x : Fid} {l : List Fid} (h : x ∉ l) : fidI l x = -1 := if_neg h
theorem fidI_mem (l : List Fid) (x : Fid) : decide (0 ≤ fidI l x) = decide (x ∈ l) := by
  unfold fidI
  split
  · rename_i h; simp [h]
  · rename_i h; simp [h]
theorem fid_eq {x y : Fid} (h1 : x.src = y.src) (h2 : x.num = y.num) : x = y := by
  cases x; cases y; simp only at h1 h2; rw [h1, h2]
theorem fid_at {l : List Fid} {k : Nat} (hk : k < l.length) : l.getD k Fid.zero = l[k] := by
  rw [List.getD_eq_getElem?_getD, List.getElem?_eq_getElem hk]; rfl
theorem b_index (l : List Fid) (x : Fid) (hl : l.length ≤ 1099511627776) : DoesK Try.prog 0 53 [.ro .fid l, .agg [.int .i64 x.src, .int .i64 x.num]] [] (EndF 0 (.int .i64 (fidI l x)) []) := by
  refine DoesK.close ?_
  refine w_body (rs := [.tmp 4]) (tm := [.ro .fid l, .agg [.int .i64 x.src, .int .i64 x.num], .any, .any, .any, .any, .any, .any, .any, .any, .any, .any, .any, .any, .any, .any, .any, .any, .any]) fn_53 rfl rfl rfl rfl fun R hR => ?_
  (all_goals (try ((first | (with_reducible refine wp_id ?_) | (with_reducible refine does_id ?_)); refine walk ?_; (repeat' (first | exact trivial | with_reducible refine And.intro ?_ ?_)); all_goals (repeat (first | (with_reducible refine ImpB.mk fun hb => ?_) | (with_reducible refine ImpK.mk fun hK => ?_) | (with_reducible refine ImpF.mk fun hF => ?_) | (with_reducible refine AllK.mk fun K => ?_))))); repeat' (with_reducible refine And.intro ?_ ?_))
  any_goals (refine w_loop (A := Nat) (fun k => k ≤ l.length ∧ x ∉ l.take k) (fun k => l.length - k) (fun k => [(8, .int .i64 k)]) (fun _ => []) (0) (ws := ?ws1) (tk := ?tk1) ?hw1 ?ht1 ?hi ?h0 ?LH1; (case hw1 => simp only [go_sem, Int.reduceToNat, Nat.min_eq_left, Nat.min_eq_right, Int.reducePow, Nat.reducePow, Int.reduceLE, Int.reduceLT, Int.reduceMul, Int.reduceAdd, Int.reduceSub, Int.reduceNeg, Bool.not_true, Bool.not_false, Bool.not_not, ↓reduceIte, Nat.reduceAdd, Nat.reduceSub, Nat.reduceMul, Nat.reduceEqDiff, reduceCtorEq, Nat.reduceLT, Nat.reduceLeDiff, Nat.reduceGT]; exact rfl); (case ht1 => simp only [go_sem, Int.reduceToNat, Nat.min_eq_left, Nat.min_eq_right, Int.reducePow, Nat.reducePow, Int.reduceLE, Int.reduceLT, Int.reduceMul, Int.reduceAdd, Int.reduceSub, Int.reduceNeg, Bool.not_true, Bool.not_false, Bool.not_not, ↓reduceIte, Nat.reduceAdd, Nat.reduceSub, Nat.reduceMul, Nat.reduceEqDiff, reduceCtorEq, Nat.reduceLT, Nat.reduceLeDiff, Nat.reduceGT]; exact rfl); (case' LH1 => rintro k E t hx hE ht; simp only [go_sem] at ht; subst ht; simp only [go_sem]; try dsimp only at hx))
  (all_goals (try ((first | (with_reducible refine wp_id ?_) | (with_reducible refine does_id ?_)); refine walk ?_; (repeat' (first | exact trivial | with_reducible refine And.intro ?_ ?_)); all_goals (repeat (first | (with_reducible refine ImpB.mk fun hb => ?_) | (with_reducible refine ImpK.mk fun hK => ?_) | (with_reducible refine ImpF.mk fun hF => ?_) | (with_reducible refine AllK.mk fun K => ?_))))); repeat' (with_reducible refine And.intro ?_ ?_))
  (all_goals (repeat (first | (clear hK; clear K) | (clear hE; clear E) | (clear hF; clear F) | (clear hR; clear R))); all_goals (try simp only [decide_eq_true_eq, decide_eq_false_iff_not, Bool.not_eq_true', Bool.not_eq_false', Bool.not_eq_true, Bool.not_eq_false, decide_not, decide_true, decide_false, Bool.decide_and, Bool.and_eq_true, Bool.or_eq_true, Bool.and_eq_false_imp, Decidable.not_not] at *); all_goals (try omega); all_goals (try (first | exact u8w_lo _ | exact u8w_hi _ | exact (bits8 _ _ _).1 | exact (bits8 _ _ _).2 | exact Int.natCast_nonneg _ | exact u8_ltI _)))
  · rw [fidI_at (by omega) hx.2 (fid_eq hb.1 hb.2.1)]
    (focus (refine ⟨_, _, Gh.refl, [], rfl, ?_⟩; (refine ⟨?_, ?_, ?_⟩ <;> simp only [go_sem, List.range, List.range.loop, List.nodup_cons, List.nodup_nil, List.mem_cons, List.not_mem_nil, or_false, or_self, Int.reduceToNat, Nat.min_eq_left, Nat.min_eq_right, Int.reducePow, Nat.reducePow, Int.reduceLE, Int.reduceLT, Int.reduceMul, Int.reduceAdd, Int.reduceSub, Int.reduceNeg, Bool.not_true, Bool.not_false, Bool.not_not, ↓reduceIte, Nat.reduceAdd, Nat.reduceSub, Nat.reduceMul, Nat.reduceEqDiff, reduceCtorEq, Nat.reduceLT, Nat.reduceLeDiff, Nat.reduceGT]); (try any_goals (refine ⟨?_, ?_⟩)); (try any_goals (with_reducible rfl))))
  · refine ⟨k + 1, ⟨⟨by first | omega | (dsimp only; omega), ?m1⟩, by first | omega | (dsimp only; omega)⟩, ?m2⟩
    case m1 =>
      rw [fid_take (by omega)]
      simp only [List.mem_append, List.mem_singleton, not_or]
      exact ⟨hx.2, fun e => absurd (hb (by rw [e]) (by rw [e])) (by decide)⟩
    (focus (refine ⟨_, _, Gh.refl, [0], rfl, ?_⟩; (refine ⟨?_, ?_, ?_⟩ <;> simp only [go_sem, List.range, List.range.loop, List.nodup_cons, List.nodup_nil, List.mem_cons, List.not_mem_nil, or_false, or_self, Int.reduceToNat, Nat.min_eq_left, Nat.min_eq_right, Int.reducePow, Nat.reducePow, Int.reduceLE, Int.reduceLT, Int.reduceMul, Int.reduceAdd, Int.reduceSub, Int.reduceNeg, Bool.not_true, Bool.not_false, Bool.not_not, ↓reduceIte, Nat.reduceAdd, Nat.reduceSub, Nat.reduceMul, Nat.reduceEqDiff, reduceCtorEq, Nat.reduceLT, Nat.reduceLeDiff, Nat.reduceGT]); (try any_goals (refine ⟨?_, ?_⟩)); (try any_goals (with_reducible rfl))))
    all_goals first | (first | with_reducible rfl | omega | ((simp (disch := omega) only [wrap_i64]); first | done | omega) | (simp only [List.append_assoc, List.cons_append, List.nil_append]; done)) | skip
  · have h1 := hx.2
    rw [List.take_of_length_le (by omega)] at h1
    rw [fidI_no h1]
    (focus (refine ⟨_, _, Gh.refl, [], rfl, ?_⟩; (refine ⟨?_, ?_, ?_⟩ <;> simp only [go_sem, List.range, List.range.loop, List.nodup_cons, List.nodup_nil, List.mem_cons, List.not_mem_nil, or_false, or_self, Int.reduceToNat, Nat.min_eq_left, Nat.min_eq_right, Int.reducePow, Nat.reducePow, Int.reduceLE, Int.reduceLT, Int.reduceMul, Int.reduceAdd, Int.reduceSub, Int.reduceNeg, Bool.not_true, Bool.not_false, Bool.not_not, ↓reduceIte, Nat.reduceAdd, Nat.reduceSub, Nat.reduceMul, Nat.reduceEqDiff, reduceCtorEq, Nat.reduceLT, Nat.reduceLeDiff, Nat.reduceGT]); (try any_goals (refine ⟨?_, ?_⟩)); (try any_goals (with_reducible rfl))))
  · simp
  · (focus (refine ⟨_, _, Gh.refl, [0], rfl, ?_⟩; (refine ⟨?_, ?_, ?_⟩ <;> simp only [go_sem, List.range, List.range.loop, List.nodup_cons, List.nodup_nil, List.mem_cons, List.not_mem_nil, or_false, or_self, Int.reduceToNat, Nat.min_eq_left, Nat.min_eq_right, Int.reducePow, Nat.reducePow, Int.reduceLE, Int.reduceLT, Int.reduceMul, Int.reduceAdd, Int.reduceSub, Int.reduceNeg, Bool.not_true, Bool.not_false, Bool.not_not, ↓reduceIte, Nat.reduceAdd, Nat.reduceSub, Nat.reduceMul, Nat.reduceEqDiff, reduceCtorEq, Nat.reduceLT, Nat.reduceLeDiff, Nat.reduceGT]); (try any_goals (refine ⟨?_, ?_⟩)); (try any_goals (with_reducible rfl))))
theorem c_index {h : List Ch} {K : KT} {l : List Fid} {s n : Int} {a : AV} (H : K (.int .i64 (fidI l ⟨s, n⟩)) h) (b1 : brA [] h (.ro .fid l) a) (s1 : l.length ≤ 1099511627776) : Does Try.prog 53 [a, .agg [.int .i64 s, .int .i64 n]] h K :=
  frame_pure (b_index l ⟨s, n⟩ s1) (br_cons b1 (br_cons (br_agg (br_cons br_int (br_cons br_int br_nil))) br_nil)) (.inr rfl) (fun _ => rfl) H
abbrev i_index := Ctr.mk (i := 0) (g := 53) @c_index
attribute [instance] i_index
theorem b_contains (l : List Fid) (x : Fid) (hl : l.length ≤ 1099511627776) : DoesK Try.prog 0 27 [.ro .fid l, .agg [.int .i64 x.src, .int .i64 x.num]] [] (EndF 0 (.bool (decide (x ∈ l))) []) := by
  refine DoesK.close ?_
  have hm := fidI_mem l ⟨x.src, x.num⟩
  refine w_body (rs := [.tmp 4]) (tm := [.ro .fid l, .agg [.int .i64 x.src, .int .i64 x.num], .any, .any, .any, .any, .any, .any, .any]) fn_27 rfl rfl rfl rfl fun R hR => ?_
  (have zx1 := @hm; all_goals (try ((first | (with_reducible refine wp_id ?_) | (with_reducible refine does_id ?_)); refine walk ?_; (repeat' (first | exact trivial | with_reducible refine And.intro ?_ ?_)); all_goals (repeat (first | (with_reducible refine ImpB.mk fun hb => ?_) | (with_reducible refine ImpK.mk fun hK => ?_) | (with_reducible refine ImpF.mk fun hF => ?_) | (with_reducible refine AllK.mk fun K => ?_))))); repeat' (with_reducible refine And.intro ?_ ?_))
  (focus (refine ⟨_, _, Gh.refl, [], rfl, ?_⟩; (refine ⟨?_, ?_, ?_⟩ <;> simp only [go_sem, List.range, List.range.loop, List.nodup_cons, List.nodup_nil, List.mem_cons, List.not_mem_nil, or_false, or_self, Int.reduceToNat, Nat.min_eq_left, Nat.min_eq_right, Int.reducePow, Nat.reducePow, Int.reduceLE, Int.reduceLT, Int.reduceMul, Int.reduceAdd, Int.reduceSub, Int.reduceNeg, Bool.not_true, Bool.not_false, Bool.not_not, ↓reduceIte, Nat.reduceAdd, Nat.reduceSub, Nat.reduceMul, Nat.reduceEqDiff, reduceCtorEq, Nat.reduceLT, Nat.reduceLeDiff, Nat.reduceGT]); (try any_goals (refine ⟨?_, ?_⟩)); (try any_goals (with_reducible rfl))))
theorem c_contains {h : List Ch} {K : KT} {l : List Fid} {s n : Int} {a : AV} (H : K (.bool (decide ((⟨s, n⟩ : Fid) ∈ l))) h) (b1 : brA [] h (.ro .fid l) a) (s1 : l.length ≤ 1099511627776) : Does Try.prog 27 [a, .agg [.int .i64 s, .int .i64 n]] h K :=
  frame_pure (b_contains l ⟨s, n⟩ s1) (br_cons b1 (br_cons (br_agg (br_cons br_int (br_cons br_int br_nil))) br_nil)) (.inr rfl) (fun _ => rfl) H
abbrev i_contains := Ctr.mk (i := 0) (g := 27) @c_contains
attribute [instance] i_contains
end Go.V

set_option maxRecDepth 100000
set_option maxHeartbeats 1000000
namespace Go.V
open Go.Proofs
attribute [-go_sem] Wr
/-- a checkpoint -/
structure Ck where
  boots : Int
  mode : Int
  time : Int
  led : List UInt8
  ents : List Ent
  sides : List Int
  done : List Fid
  next : Int
abbrev ckL (c : Ck) : List AV := [.int .i64 c.boots, .int .i64 c.mode, .int .i64 c.time, .ro .byte c.led, .ro .ent c.ents, .ro .int c.sides, .ro .fid c.done, .int .i64 c.next]
def sideB (s : Int) : Bool := decide (0 ≤ s) && decide (s ≤ 1)
def ckB (c : Ck) : Prop := 0 ≤ c.boots ∧ c.boots ≤ 2147483647 ∧ 0 ≤ c.mode ∧ c.mode ≤ 4 ∧ 0 ≤ c.time ∧ c.time ≤ 1099511627776 ∧ 1 ≤ c.next ∧ c.next ≤ 65536 ∧ c.sides.length ≤ 256 ∧ c.done.length ≤ 256
instance (c : Ck) : Decidable (ckB c) := by unfold ckB; infer_instance
/-- a valid checkpoint -/
def ckV (c : Ck) : Bool := decide (ckB c) && c.sides.all sideB && (c.done.all fidB && decide c.done.Nodup) && ledV c.led && decide (chkE c.ents 256 = 0)
theorem ckV_iff (c : Ck) : ckV c = true ↔ ckB c ∧ c.sides.all sideB = true ∧ c.done.all fidB = true ∧ c.done.Nodup ∧ ledV c.led = true ∧ chkE c.ents 256 = 0 := by
  unfold ckV
  simp only [Bool.and_eq_true, decide_eq_true_eq, and_assoc]
theorem ckV_nB {c : Ck} (h : ¬ ckB c) : ckV c = false := by
  rw [Bool.eq_false_iff]; intro q; exact h ((ckV_iff c).1 q).1
theorem ckV_nS {c : Ck} {k : Nat} (hk : k < c.sides.length) (h : sideB (c.sides.getD k 0) = false) : ckV c = false := by
  rw [Bool.eq_false_iff]
  intro q
  have := ((ckV_iff c).1 q).2.1
  rw [List.all_eq_true] at this
  have := this _ (List.getElem_mem hk)
  rw [List.getD_eq_getElem?_getD, List.getElem?_eq_getElem hk, Option.getD_some] at h
  rw [h] at this
  cases this
theorem ckV_nF {c : Ck} {k : Nat} (hk : k < c.done.length) (h : fidB (c.done.getD k Fid.zero) = false) : ckV c = false := by
  rw [Bool.eq_false_iff]
  intro q
  have := ((ckV_iff c).1 q).2.2.1
  rw [List.all_eq_true] at this
  have := this _ (List.getElem_mem hk)
  rw [fid_at hk] at h
  rw [h] at this
  cases this
theorem nodup_no {α : Type} {l : List α} {i j : Nat} (hi : i < l.length) (hj : j < i) (h : l[i] = l[j]'(by omega)) : ¬ l.Nodup := by
  intro hn
  rw [List.Nodup, List.pairwise_iff_getElem] at hn
  exact hn j i (by omega) hi hj h.symm
theorem ckV_nD {c : Ck} {k : Nat} (hk : k < c.done.length) (h : c.done.getD k Fid.zero ∈ c.done.take k) : ckV c = false := by
  rw [Bool.eq_false_iff]
  intro q
  have hn := ((ckV_iff c).1 q).2.2.2.1
  rw [List.mem_take_iff_getElem] at h
  obtain ⟨j, hj, e⟩ := h
  rw [fid_at hk] at e
  exact nodup_no hk (by omega) e.symm hn
theorem ckV_nL {c : Ck} (h : ledV c.led = false) : ckV c = false := by
  rw [Bool.eq_false_iff]; intro q
  have := ((ckV_iff c).1 q).2.2.2.2.1
  rw [h] at this
  cases this
theorem ckV_nE {c : Ck} (h : ¬ chkE c.ents 256 = 0) : ckV c = false := by
  rw [Bool.eq_false_iff]; intro q
  exact h ((ckV_iff c).1 q).2.2.2.2.2
theorem int_take {l : List Int} {k : Nat} (hk : k < l.length) : l.take (k + 1) = l.take k ++ [l.getD k 0] := by
  rw [List.take_succ_eq_append_getElem hk, List.getD_eq_getElem?_getD, List.getElem?_eq_getElem hk]
  rfl
theorem sides_next {l : List Int} {k : Nat} (hk : k < l.length) (h : (l.take k).all sideB = true) (h1 : sideB (l.getD k 0) = true) : (l.take (k + 1)).all sideB = true := by
  rw [int_take hk, List.all_append, h]
  simpa using h1
theorem fids_next {l : List Fid} {k : Nat} (hk : k < l.length) (h : (l.take k).all fidB = true) (h1 : fidB (l.getD k Fid.zero) = true) : (l.take (k + 1)).all fidB = true := by
  rw [fid_take hk, List.all_append, h]
  simpa using h1
theorem nodup_next {l : List Fid} {k : Nat} (hk : k < l.length) (h : (l.take k).Nodup) (h1 : l.getD k Fid.zero ∉ l.take k) : (l.take (k + 1)).Nodup := by
  rw [fid_take hk, List.nodup_append]
  refine ⟨h, by simp, fun a ha b hb e => ?_⟩
  rw [List.mem_singleton] at hb
  rw [e, hb] at ha
  exact h1 ha
/-- not beyond measure -/
structure CkS (c : Ck) : Prop where
  led : c.led.length ≤ 1000000
  ents : c.ents.length ≤ 1099511627776
  lit : litE c.ents
  sides : c.sides.length ≤ 1099511627776
  done : c.done.length ≤ 1099511627776
theorem b_cvalid (c : Ck) (hs : CkS c) : DoesK Try.prog 0 11 [.agg (ckL c)] [] (EndF 0 (.bool (ckV c)) []) := by
  refine DoesK.close ?_
  obtain ⟨z1, z2, z3, z4, z5⟩ := hs
  refine w_body (rs := [.tmp 2]) (tm := [.agg (ckL c), .any, .any, .any, .any, .any, .any, .any, .any, .any, .any, .any, .any, .any, .any, .any, .any, .any, .any, .any, .any, .any, .any, .any, .any, .any, .any, .any, .any, .any, .any, .any, .any, .any, .any, .any, .any, .any, .any, .any, .any, .any, .any, .any, .any, .any, .any, .any, .any, .any, .any, .any, .any, .any, .any, .any, .any, .any, .any, .any, .any, .any, .any, .any, .any, .any, .any, .any, .any, .any, .any, .any, .any, .any, .any, .any, .any, .any, .any, .any, .any, .any, .any, .any, .any, .any, .any, .any, .any, .any, .any, .any]) fn_11 rfl rfl rfl rfl fun R hR => ?_
  (all_goals (try ((first | (with_reducible refine wp_id ?_) | (with_reducible refine does_id ?_)); refine walk ?_; (repeat' (first | exact trivial | with_reducible refine And.intro ?_ ?_)); all_goals (repeat (first | (with_reducible refine ImpB.mk fun hb => ?_) | (with_reducible refine ImpK.mk fun hK => ?_) | (with_reducible refine ImpF.mk fun hF => ?_) | (with_reducible refine AllK.mk fun K => ?_))))); repeat' (with_reducible refine And.intro ?_ ?_))
  (all_goals (repeat (first | (clear hK; clear K) | (clear hE; clear E) | (clear hF; clear F) | (clear hR; clear R))); all_goals (try simp only [decide_eq_true_eq, decide_eq_false_iff_not, Bool.not_eq_true', Bool.not_eq_false', Bool.not_eq_true, Bool.not_eq_false, decide_not, decide_true, decide_false, Bool.decide_and, Bool.and_eq_true, Bool.or_eq_true, Bool.and_eq_false_imp, Decidable.not_not] at *); all_goals (try omega); all_goals (try (first | exact u8w_lo _ | exact u8w_hi _ | exact (bits8 _ _ _).1 | exact (bits8 _ _ _).2 | exact Int.natCast_nonneg _ | exact u8_ltI _)))
  all_goals try (focus (rw [ckV_nB (by unfold ckB; omega)]; (focus (refine ⟨_, _, Gh.refl, [], rfl, ?_⟩; (refine ⟨?_, ?_, ?_⟩ <;> simp only [go_sem, List.range, List.range.loop, List.nodup_cons, List.nodup_nil, List.mem_cons, List.not_mem_nil, or_false, or_self, Int.reduceToNat, Nat.min_eq_left, Nat.min_eq_right, Int.reducePow, Nat.reducePow, Int.reduceLE, Int.reduceLT, Int.reduceMul, Int.reduceAdd, Int.reduceSub, Int.reduceNeg, Bool.not_true, Bool.not_false, Bool.not_not, ↓reduceIte, Nat.reduceAdd, Nat.reduceSub, Nat.reduceMul, Nat.reduceEqDiff, reduceCtorEq, Nat.reduceLT, Nat.reduceLeDiff, Nat.reduceGT]); (try any_goals (refine ⟨?_, ?_⟩)); (try any_goals (with_reducible rfl)))); done))
  have hB : ckB c := by unfold ckB; omega
  any_goals (refine w_loop (A := Nat) (fun k => k ≤ c.sides.length ∧ (c.sides.take k).all sideB = true) (fun k => c.sides.length - k) (fun k => [(46, .int .i64 k)]) (fun _ => []) (0) (ws := ?ws1) (tk := ?tk1) ?hw1 ?ht1 ?hi ?h0 ?LH1; (case hw1 => simp only [go_sem, Int.reduceToNat, Nat.min_eq_left, Nat.min_eq_right, Int.reducePow, Nat.reducePow, Int.reduceLE, Int.reduceLT, Int.reduceMul, Int.reduceAdd, Int.reduceSub, Int.reduceNeg, Bool.not_true, Bool.not_false, Bool.not_not, ↓reduceIte, Nat.reduceAdd, Nat.reduceSub, Nat.reduceMul, Nat.reduceEqDiff, reduceCtorEq, Nat.reduceLT, Nat.reduceLeDiff, Nat.reduceGT]; exact rfl); (case ht1 => simp only [go_sem, Int.reduceToNat, Nat.min_eq_left, Nat.min_eq_right, Int.reducePow, Nat.reducePow, Int.reduceLE, Int.reduceLT, Int.reduceMul, Int.reduceAdd, Int.reduceSub, Int.reduceNeg, Bool.not_true, Bool.not_false, Bool.not_not, ↓reduceIte, Nat.reduceAdd, Nat.reduceSub, Nat.reduceMul, Nat.reduceEqDiff, reduceCtorEq, Nat.reduceLT, Nat.reduceLeDiff, Nat.reduceGT]; exact rfl); (case' LH1 => rintro k E t hx hE ht; simp only [go_sem] at ht; subst ht; simp only [go_sem]; try dsimp only at hx))
  case hi => exact ⟨Nat.zero_le _, rfl⟩
  case h0 => (focus (refine ⟨_, _, Gh.refl, [0], rfl, ?_⟩; (refine ⟨?_, ?_, ?_⟩ <;> simp only [go_sem, List.range, List.range.loop, List.nodup_cons, List.nodup_nil, List.mem_cons, List.not_mem_nil, or_false, or_self, Int.reduceToNat, Nat.min_eq_left, Nat.min_eq_right, Int.reducePow, Nat.reducePow, Int.reduceLE, Int.reduceLT, Int.reduceMul, Int.reduceAdd, Int.reduceSub, Int.reduceNeg, Bool.not_true, Bool.not_false, Bool.not_not, ↓reduceIte, Nat.reduceAdd, Nat.reduceSub, Nat.reduceMul, Nat.reduceEqDiff, reduceCtorEq, Nat.reduceLT, Nat.reduceLeDiff, Nat.reduceGT]); (try any_goals (refine ⟨?_, ?_⟩)); (try any_goals (with_reducible rfl))))
  case LH1 =>
    by_cases hk : k < c.sides.length
    · have hkd : decide ((k : Int) < c.sides.length) = true := decide_eq_true (by omega)
      (have zx1 := @hkd; all_goals (try ((first | (with_reducible refine wp_id ?_) | (with_reducible refine does_id ?_)); refine walk ?_; (repeat' (first | exact trivial | with_reducible refine And.intro ?_ ?_)); all_goals (repeat (first | (with_reducible refine ImpB.mk fun hb => ?_) | (with_reducible refine ImpK.mk fun hK => ?_) | (with_reducible refine ImpF.mk fun hF => ?_) | (with_reducible refine AllK.mk fun K => ?_))))); repeat' (with_reducible refine And.intro ?_ ?_))
      all_goals first | exact Int.natCast_nonneg _ | omega | skip
      · rw [ckV_nS hk (by rw [Bool.not_eq_true'] at hb; exact hb)]
        (focus (refine ⟨_, _, Gh.refl, [], rfl, ?_⟩; (refine ⟨?_, ?_, ?_⟩ <;> simp only [go_sem, List.range, List.range.loop, List.nodup_cons, List.nodup_nil, List.mem_cons, List.not_mem_nil, or_false, or_self, Int.reduceToNat, Nat.min_eq_left, Nat.min_eq_right, Int.reducePow, Nat.reducePow, Int.reduceLE, Int.reduceLT, Int.reduceMul, Int.reduceAdd, Int.reduceSub, Int.reduceNeg, Bool.not_true, Bool.not_false, Bool.not_not, ↓reduceIte, Nat.reduceAdd, Nat.reduceSub, Nat.reduceMul, Nat.reduceEqDiff, reduceCtorEq, Nat.reduceLT, Nat.reduceLeDiff, Nat.reduceGT]); (try any_goals (refine ⟨?_, ?_⟩)); (try any_goals (with_reducible rfl))))
      · refine ⟨k + 1, ⟨⟨by first | omega | (dsimp only; omega), sides_next hk hx.2 (by rw [Bool.not_eq_false'] at hb; exact hb)⟩, by first | omega | (dsimp only; omega)⟩, ?m2⟩
        (focus (refine ⟨_, _, Gh.refl, [0], rfl, ?_⟩; (refine ⟨?_, ?_, ?_⟩ <;> simp only [go_sem, List.range, List.range.loop, List.nodup_cons, List.nodup_nil, List.mem_cons, List.not_mem_nil, or_false, or_self, Int.reduceToNat, Nat.min_eq_left, Nat.min_eq_right, Int.reducePow, Nat.reducePow, Int.reduceLE, Int.reduceLT, Int.reduceMul, Int.reduceAdd, Int.reduceSub, Int.reduceNeg, Bool.not_true, Bool.not_false, Bool.not_not, ↓reduceIte, Nat.reduceAdd, Nat.reduceSub, Nat.reduceMul, Nat.reduceEqDiff, reduceCtorEq, Nat.reduceLT, Nat.reduceLeDiff, Nat.reduceGT]); (try any_goals (refine ⟨?_, ?_⟩)); (try any_goals (with_reducible rfl))))
        all_goals first | (first | with_reducible rfl | omega | ((simp (disch := omega) only [wrap_i64]); first | done | omega) | (simp only [List.append_assoc, List.cons_append, List.nil_append]; done)) | skip
    · have hkd : decide ((k : Int) < c.sides.length) = false := decide_eq_false (by omega)
      have hS := hx.2
      rw [List.take_of_length_le (by omega)] at hS
      clear hx
      (have zx1 := @hkd; all_goals (try ((first | (with_reducible refine wp_id ?_) | (with_reducible refine does_id ?_)); refine walk ?_; (repeat' (first | exact trivial | with_reducible refine And.intro ?_ ?_)); all_goals (repeat (first | (with_reducible refine ImpB.mk fun hb => ?_) | (with_reducible refine ImpK.mk fun hK => ?_) | (with_reducible refine ImpF.mk fun hF => ?_) | (with_reducible refine AllK.mk fun K => ?_))))); repeat' (with_reducible refine And.intro ?_ ?_))
      any_goals (refine w_loop (A := Nat) (fun i => i ≤ c.done.length ∧ (c.done.take i).all fidB = true ∧ (c.done.take i).Nodup) (fun i => c.done.length - i) (fun i => [(57, .int .i64 i)]) (fun _ => []) (0) (ws := ?ws2) (tk := ?tk2) ?hw2 ?ht2 ?hi_1 ?h0_1 ?LH2; (case hw2 => simp only [go_sem, Int.reduceToNat, Nat.min_eq_left, Nat.min_eq_right, Int.reducePow, Nat.reducePow, Int.reduceLE, Int.reduceLT, Int.reduceMul, Int.reduceAdd, Int.reduceSub, Int.reduceNeg, Bool.not_true, Bool.not_false, Bool.not_not, ↓reduceIte, Nat.reduceAdd, Nat.reduceSub, Nat.reduceMul, Nat.reduceEqDiff, reduceCtorEq, Nat.reduceLT, Nat.reduceLeDiff, Nat.reduceGT]; exact rfl); (case ht2 => simp only [go_sem, Int.reduceToNat, Nat.min_eq_left, Nat.min_eq_right, Int.reducePow, Nat.reducePow, Int.reduceLE, Int.reduceLT, Int.reduceMul, Int.reduceAdd, Int.reduceSub, Int.reduceNeg, Bool.not_true, Bool.not_false, Bool.not_not, ↓reduceIte, Nat.reduceAdd, Nat.reduceSub, Nat.reduceMul, Nat.reduceEqDiff, reduceCtorEq, Nat.reduceLT, Nat.reduceLeDiff, Nat.reduceGT]; exact rfl); (case' LH2 => rintro i E t hx hE ht; simp only [go_sem] at ht; subst ht; simp only [go_sem]; try dsimp only at hx))
      case hi_1 => exact ⟨Nat.zero_le _, rfl, by simp⟩
      case h0_1 => (focus (refine ⟨_, _, Gh.refl, [0], rfl, ?_⟩; (refine ⟨?_, ?_, ?_⟩ <;> simp only [go_sem, List.range, List.range.loop, List.nodup_cons, List.nodup_nil, List.mem_cons, List.not_mem_nil, or_false, or_self, Int.reduceToNat, Nat.min_eq_left, Nat.min_eq_right, Int.reducePow, Nat.reducePow, Int.reduceLE, Int.reduceLT, Int.reduceMul, Int.reduceAdd, Int.reduceSub, Int.reduceNeg, Bool.not_true, Bool.not_false, Bool.not_not, ↓reduceIte, Nat.reduceAdd, Nat.reduceSub, Nat.reduceMul, Nat.reduceEqDiff, reduceCtorEq, Nat.reduceLT, Nat.reduceLeDiff, Nat.reduceGT]); (try any_goals (refine ⟨?_, ?_⟩)); (try any_goals (with_reducible rfl))))
      case LH2 =>
        by_cases hi : i < c.done.length
        · have hid : decide ((i : Int) < c.done.length) = true := decide_eq_true (by omega)
          (have zx1 := @hid; all_goals (try ((first | (with_reducible refine wp_id ?_) | (with_reducible refine does_id ?_)); refine walk ?_; (repeat' (first | exact trivial | with_reducible refine And.intro ?_ ?_)); all_goals (repeat (first | (with_reducible refine ImpB.mk fun hb => ?_) | (with_reducible refine ImpK.mk fun hK => ?_) | (with_reducible refine ImpF.mk fun hF => ?_) | (with_reducible refine AllK.mk fun K => ?_))))); repeat' (with_reducible refine And.intro ?_ ?_))
          all_goals first | exact Int.natCast_nonneg _ | omega | skip
          · rw [ckV_nF hi (by rw [Bool.not_eq_true'] at hb; exact hb)]
            (focus (refine ⟨_, _, Gh.refl, [], rfl, ?_⟩; (refine ⟨?_, ?_, ?_⟩ <;> simp only [go_sem, List.range, List.range.loop, List.nodup_cons, List.nodup_nil, List.mem_cons, List.not_mem_nil, or_false, or_self, Int.reduceToNat, Nat.min_eq_left, Nat.min_eq_right, Int.reducePow, Nat.reducePow, Int.reduceLE, Int.reduceLT, Int.reduceMul, Int.reduceAdd, Int.reduceSub, Int.reduceNeg, Bool.not_true, Bool.not_false, Bool.not_not, ↓reduceIte, Nat.reduceAdd, Nat.reduceSub, Nat.reduceMul, Nat.reduceEqDiff, reduceCtorEq, Nat.reduceLT, Nat.reduceLeDiff, Nat.reduceGT]); (try any_goals (refine ⟨?_, ?_⟩)); (try any_goals (with_reducible rfl))))
          · rw [ckV_nD hi (of_decide_eq_true hb)]
            (focus (refine ⟨_, _, Gh.refl, [], rfl, ?_⟩; (refine ⟨?_, ?_, ?_⟩ <;> simp only [go_sem, List.range, List.range.loop, List.nodup_cons, List.nodup_nil, List.mem_cons, List.not_mem_nil, or_false, or_self, Int.reduceToNat, Nat.min_eq_left, Nat.min_eq_right, Int.reducePow, Nat.reducePow, Int.reduceLE, Int.reduceLT, Int.reduceMul, Int.reduceAdd, Int.reduceSub, Int.reduceNeg, Bool.not_true, Bool.not_false, Bool.not_not, ↓reduceIte, Nat.reduceAdd, Nat.reduceSub, Nat.reduceMul, Nat.reduceEqDiff, reduceCtorEq, Nat.reduceLT, Nat.reduceLeDiff, Nat.reduceGT]); (try any_goals (refine ⟨?_, ?_⟩)); (try any_goals (with_reducible rfl))))
          · have hf : fidB (c.done.getD i Fid.zero) = true := by rename_i q; rw [Bool.not_eq_false'] at q; exact q
            refine ⟨i + 1, ⟨⟨by first | omega | (dsimp only; omega), fids_next hi hx.2.1 hf, nodup_next hi hx.2.2 (of_decide_eq_false hb)⟩, by first | omega | (dsimp only; omega)⟩, ?m3⟩
            (focus (refine ⟨_, _, Gh.refl, [0], rfl, ?_⟩; (refine ⟨?_, ?_, ?_⟩ <;> simp only [go_sem, List.range, List.range.loop, List.nodup_cons, List.nodup_nil, List.mem_cons, List.not_mem_nil, or_false, or_self, Int.reduceToNat, Nat.min_eq_left, Nat.min_eq_right, Int.reducePow, Nat.reducePow, Int.reduceLE, Int.reduceLT, Int.reduceMul, Int.reduceAdd, Int.reduceSub, Int.reduceNeg, Bool.not_true, Bool.not_false, Bool.not_not, ↓reduceIte, Nat.reduceAdd, Nat.reduceSub, Nat.reduceMul, Nat.reduceEqDiff, reduceCtorEq, Nat.reduceLT, Nat.reduceLeDiff, Nat.reduceGT]); (try any_goals (refine ⟨?_, ?_⟩)); (try any_goals (with_reducible rfl))))
            all_goals first | (first | with_reducible rfl | omega | ((simp (disch := omega) only [wrap_i64]); first | done | omega) | (simp only [List.append_assoc, List.cons_append, List.nil_append]; done)) | skip
          · rw [List.length_take]; omega
        · have hid : decide ((i : Int) < c.done.length) = false := decide_eq_false (by omega)
          obtain ⟨_, hF, hN⟩ := hx
          rw [List.take_of_length_le (by omega)] at hF hN
          cases hL : ledV c.led
          · have hLd : decide ((if ledV c.led = true then (0 : Int) else 4) = 0) = false := by rw [hL]; decide
            by_cases hc : chkE c.ents 256 = 0
            · (have zx1 := @hid; have zx2 := @hLd; have zx3 := @hc; all_goals (try ((first | (with_reducible refine wp_id ?_) | (with_reducible refine does_id ?_)); refine walk ?_; (repeat' (first | exact trivial | with_reducible refine And.intro ?_ ?_)); all_goals (repeat (first | (with_reducible refine ImpB.mk fun hb => ?_) | (with_reducible refine ImpK.mk fun hK => ?_) | (with_reducible refine ImpF.mk fun hF => ?_) | (with_reducible refine AllK.mk fun K => ?_))))); repeat' (with_reducible refine And.intro ?_ ?_))
              rw [ckV_nL hL]
              (focus (refine ⟨_, _, Gh.refl, [], rfl, ?_⟩; (refine ⟨?_, ?_, ?_⟩ <;> simp only [go_sem, List.range, List.range.loop, List.nodup_cons, List.nodup_nil, List.mem_cons, List.not_mem_nil, or_false, or_self, Int.reduceToNat, Nat.min_eq_left, Nat.min_eq_right, Int.reducePow, Nat.reducePow, Int.reduceLE, Int.reduceLT, Int.reduceMul, Int.reduceAdd, Int.reduceSub, Int.reduceNeg, Bool.not_true, Bool.not_false, Bool.not_not, ↓reduceIte, Nat.reduceAdd, Nat.reduceSub, Nat.reduceMul, Nat.reduceEqDiff, reduceCtorEq, Nat.reduceLT, Nat.reduceLeDiff, Nat.reduceGT]); (try any_goals (refine ⟨?_, ?_⟩)); (try any_goals (with_reducible rfl))))
            · (have zx1 := @hid; have zx2 := @hLd; all_goals (try ((first | (with_reducible refine wp_id ?_) | (with_reducible refine does_id ?_)); refine walk ?_; (repeat' (first | exact trivial | with_reducible refine And.intro ?_ ?_)); all_goals (repeat (first | (with_reducible refine ImpB.mk fun hb => ?_) | (with_reducible refine ImpK.mk fun hK => ?_) | (with_reducible refine ImpF.mk fun hF => ?_) | (with_reducible refine AllK.mk fun K => ?_))))); repeat' (with_reducible refine And.intro ?_ ?_))
              rw [ckV_nL hL]
              (focus (refine ⟨_, _, Gh.refl, [], rfl, ?_⟩; (refine ⟨?_, ?_, ?_⟩ <;> simp only [go_sem, List.range, List.range.loop, List.nodup_cons, List.nodup_nil, List.mem_cons, List.not_mem_nil, or_false, or_self, Int.reduceToNat, Nat.min_eq_left, Nat.min_eq_right, Int.reducePow, Nat.reducePow, Int.reduceLE, Int.reduceLT, Int.reduceMul, Int.reduceAdd, Int.reduceSub, Int.reduceNeg, Bool.not_true, Bool.not_false, Bool.not_not, ↓reduceIte, Nat.reduceAdd, Nat.reduceSub, Nat.reduceMul, Nat.reduceEqDiff, reduceCtorEq, Nat.reduceLT, Nat.reduceLeDiff, Nat.reduceGT]); (try any_goals (refine ⟨?_, ?_⟩)); (try any_goals (with_reducible rfl))))
          · have hLd : decide ((if ledV c.led = true then (0 : Int) else 4) = 0) = true := by rw [hL]; decide
            by_cases hc : chkE c.ents 256 = 0
            · (have zx1 := @hid; have zx2 := @hLd; have zx3 := @hc; have zx4 := @decide_true; all_goals (try ((first | (with_reducible refine wp_id ?_) | (with_reducible refine does_id ?_)); refine walk ?_; (repeat' (first | exact trivial | with_reducible refine And.intro ?_ ?_)); all_goals (repeat (first | (with_reducible refine ImpB.mk fun hb => ?_) | (with_reducible refine ImpK.mk fun hK => ?_) | (with_reducible refine ImpF.mk fun hF => ?_) | (with_reducible refine AllK.mk fun K => ?_))))); repeat' (with_reducible refine And.intro ?_ ?_))
              rw [(ckV_iff c).2 ⟨hB, hS, hF, hN, hL, hc⟩]
              (focus (refine ⟨_, _, Gh.refl, [], rfl, ?_⟩; (refine ⟨?_, ?_, ?_⟩ <;> simp only [go_sem, List.range, List.range.loop, List.nodup_cons, List.nodup_nil, List.mem_cons, List.not_mem_nil, or_false, or_self, Int.reduceToNat, Nat.min_eq_left, Nat.min_eq_right, Int.reducePow, Nat.reducePow, Int.reduceLE, Int.reduceLT, Int.reduceMul, Int.reduceAdd, Int.reduceSub, Int.reduceNeg, Bool.not_true, Bool.not_false, Bool.not_not, ↓reduceIte, Nat.reduceAdd, Nat.reduceSub, Nat.reduceMul, Nat.reduceEqDiff, reduceCtorEq, Nat.reduceLT, Nat.reduceLeDiff, Nat.reduceGT]); (try any_goals (refine ⟨?_, ?_⟩)); (try any_goals (with_reducible rfl))))
            · have hcd : decide (chkE c.ents 256 = 0) = false := decide_eq_false hc
              (have zx1 := @hid; have zx2 := @hLd; have zx3 := @hcd; all_goals (try ((first | (with_reducible refine wp_id ?_) | (with_reducible refine does_id ?_)); refine walk ?_; (repeat' (first | exact trivial | with_reducible refine And.intro ?_ ?_)); all_goals (repeat (first | (with_reducible refine ImpB.mk fun hb => ?_) | (with_reducible refine ImpK.mk fun hK => ?_) | (with_reducible refine ImpF.mk fun hF => ?_) | (with_reducible refine AllK.mk fun K => ?_))))); repeat' (with_reducible refine And.intro ?_ ?_))
              rw [ckV_nE hc]
              (focus (refine ⟨_, _, Gh.refl, [], rfl, ?_⟩; (refine ⟨?_, ?_, ?_⟩ <;> simp only [go_sem, List.range, List.range.loop, List.nodup_cons, List.nodup_nil, List.mem_cons, List.not_mem_nil, or_false, or_self, Int.reduceToNat, Nat.min_eq_left, Nat.min_eq_right, Int.reducePow, Nat.reducePow, Int.reduceLE, Int.reduceLT, Int.reduceMul, Int.reduceAdd, Int.reduceSub, Int.reduceNeg, Bool.not_true, Bool.not_false, Bool.not_not, ↓reduceIte, Nat.reduceAdd, Nat.reduceSub, Nat.reduceMul, Nat.reduceEqDiff, reduceCtorEq, Nat.reduceLT, Nat.reduceLeDiff, Nat.reduceGT]); (try any_goals (refine ⟨?_, ?_⟩)); (try any_goals (with_reducible rfl))))
theorem br_ck {h : List Ch} (c : Ck) {d1 d2 d3 d4 : AV} (b1 : brA [] h (.ro .byte c.led) d1) (b2 : brA [] h (.ro .ent c.ents) d2) (b3 : brA [] h (.ro .int c.sides) d3) (b4 : brA [] h (.ro .fid c.done) d4) : brL [] h [.agg (ckL c)] [.agg [.int .i64 c.boots, .int .i64 c.mode, .int .i64 c.time, d1, d2, d3, d4, .int .i64 c.next]] :=
  br_cons (br_agg (br_cons br_int (br_cons br_int (br_cons br_int (br_cons b1 (br_cons b2 (br_cons b3 (br_cons b4 (br_cons br_int br_nil))))))))) br_nil
theorem c_cvalid {h : List Ch} {K : KT} {n1 n2 n3 n4 : Int} {led : List UInt8} {ents : List Ent} {sides : List Int} {done : List Fid} {d1 d2 d3 d4 : AV} (H : K (.bool (ckV ⟨n1, n2, n3, led, ents, sides, done, n4⟩)) h) (b1 : brA [] h (.ro .byte led) d1) (b2 : brA [] h (.ro .ent ents) d2) (b3 : brA [] h (.ro .int sides) d3) (b4 : brA [] h (.ro .fid done) d4) (s1 : CkS ⟨n1, n2, n3, led, ents, sides, done, n4⟩) : Does Try.prog 11 [.agg [.int .i64 n1, .int .i64 n2, .int .i64 n3, d1, d2, d3, d4, .int .i64 n4]] h K :=
  frame_pure (b_cvalid ⟨n1, n2, n3, led, ents, sides, done, n4⟩ s1) (br_ck ⟨n1, n2, n3, led, ents, sides, done, n4⟩ b1 b2 b3 b4) (.inr rfl) (fun _ => rfl) H
abbrev i_cvalid := Ctr.mk (i := 0) (g := 11) @c_cvalid
attribute [instance] i_cvalid
end Go.V
