/-
  MonitorRepeats.
  From the arguments of a given statement to abstract values: what is read as data lies for good.
  The arguments of the statements of chapter 36 as abstract values.
-/
import Derived.Test.YtifighagbpjogaaPart14
import Derived.ChangeArms
import Derived.ChangeShapes
import Derived.ChangeReads
import Derived.DataReads
import Derived.Below
import Derived.OpenShut
import Derived.RowKit
import Derived.Carry
set_option linter.unusedVariables false
set_option linter.unusedSimpArgs false
set_option maxRecDepth 100000
set_option maxHeartbeats 8000000
namespace Go.V
open Go.Proofs
attribute [-go_sem] SL PL
/-- what a limit's monitor keeps after k values -/
def rpK (n lo hi : Int) (l : List Int) (k : Nat) : Int × Int × Int := (l.take k).foldl (fun a v => (fdR n a.1 a.2.1 a.2.2 (rsL lo hi v)).2) (0, 0, 0)
def rpS (n lo hi : Int) (l : List Int) (k : Nat) : Int := (rpK n lo hi l k).1
def rpL (n lo hi : Int) (l : List Int) (k : Nat) : Int := (rpK n lo hi l k).2.1
def rpU (n lo hi : Int) (l : List Int) (k : Nat) : Int := (rpK n lo hi l k).2.2
def rpV (l : List Int) (k : Nat) : Int := if k = 0 then 0 else l.getD (k - 1) 0
def rpN (k : Nat) : Int := ((k - 1 : Nat) : Int)
theorem rp_now (k : Nat) : nowQ (rpN k) (k : Int) = if k ≤ 1099511627776 then (k : Int) else rpN k := by
  unfold nowQ rpN
  by_cases h : k ≤ 1099511627776
  · rw [if_pos (by omega), if_pos h]; omega
  · rw [if_neg (by omega), if_neg h]
theorem rp_now1 {k : Nat} (h : k ≤ 100) : nowQ (rpN k) (k : Int) = rpN (k + 1) := by
  rw [rp_now, if_pos (by omega)]; unfold rpN; omega
theorem rpK_succ (n lo hi : Int) (l : List Int) {k : Nat} (h : k < l.length) : rpK n lo hi l (k + 1) = (fdR n (rpS n lo hi l k) (rpL n lo hi l k) (rpU n lo hi l k) (rsL lo hi (l.getD k 0))).2 := by
  have e : l.take (k + 1) = l.take k ++ [l.getD k 0] := by
    rw [List.take_add_one, List.getD_eq_getElem?_getD, List.getElem?_eq_getElem h]; rfl
  unfold rpK
  rw [e, List.foldl_append]
  rfl
theorem rpU_le (n lo hi : Int) (l : List Int) (k : Nat) : 0 ≤ rpU n lo hi l k ∧ rpU n lo hi l k ≤ k := by
  induction k with
  | zero => simp [rpU, rpK]
  | succ k ih =>
    by_cases h : k < l.length
    · unfold rpU
      rw [rpK_succ n lo hi l h]
      unfold fdR
      split <;> split <;> (dsimp only; omega)
    · have e : rpK n lo hi l (k + 1) = rpK n lo hi l k := by
        unfold rpK
        rw [List.take_of_length_le (by omega), List.take_of_length_le (by omega)]
      have : rpU n lo hi l (k + 1) = rpU n lo hi l k := by unfold rpU; rw [e]
      omega
theorem b_repeats (lo hi rp : Int) (l : List Int) (q1 : -32768 ≤ lo ∧ lo ≤ 32767) (q2 : -32768 ≤ hi ∧ hi ≤ 32767) (q3 : 0 ≤ rp ∧ rp ≤ 255) (q4 : ∀ x ∈ l, -32768 ≤ x ∧ x ≤ 32767) (hln : l.length ≤ 9223372036854775807) :
    DoesK Try.prog 0 3 [.int .i16 lo, .int .i16 hi, .int .u8 rp, .ro .i16 l] [] (EndF 0 (.bool true) []) := by
  refine DoesK.close ?_
  refine w_body (rs := [.tmp 8]) (tm := [.int .i16 lo, .int .i16 hi, .int .u8 rp, .ro .i16 l, .any, .any, .any, .any, .any, .any, .any, .any, .any, .any, .any, .any, .any, .any, .any, .any, .any, .any, .any, .any, .any, .any, .any, .any, .any, .any, .any, .any, .any, .any, .any, .any, .any, .any, .any, .any, .any, .any, .any, .any, .any, .any, .any, .any, .any, .any, .any, .any, .any, .any, .any, .any, .any, .any, .any, .any, .any, .any, .any, .any, .any, .any, .any, .any, .any, .any, .any, .any, .any, .any, .any, .any, .any, .any, .any, .any, .any, .any, .any, .any, .any, .any, .any, .any, .any, .any, .any, .any, .any, .any, .any, .any, .any, .any, .any, .any, .any, .any, .any, .any, .any, .any, .any, .any, .any, .any, .any, .any, .any, .any, .any, .any, .any, .any, .any, .any, .any]) fn_3 rfl rfl rfl rfl fun R hR => ?_
  have hro : RoLit := .mk
  by_cases c1 : 100 < l.length
  · have d1 : decide ((100 : Int) < (l.length : Int)) = true := decide_eq_true (by omega)
    (have zx1 := @d1; all_goals (try ((first | (with_reducible refine wp_id ?_) | (with_reducible refine does_id ?_) | (with_reducible refine ops_id ?_)); refine walk ?_; (repeat' (first | exact trivial | with_reducible refine And.intro ?_ ?_)); all_goals (repeat (first | (with_reducible refine ImpB.mk fun hb => ?_) | (with_reducible refine ImpK.mk fun hK => ?_) | (with_reducible refine ImpF.mk fun hF => ?_) | (with_reducible refine ImpQ.mk fun hp => ?_) | (with_reducible refine AllE.mk fun p => ?_) | (with_reducible refine AllR.mk fun rest => ?_) | (with_reducible refine AllK.mk fun K => ?_))))); repeat' (with_reducible refine And.intro ?_ ?_))
    (focus (refine ⟨_, _, Gh.refl, [], rfl, ?_⟩; (refine fitq ?_ ?_ ?_ <;> try exact trivial); (try any_goals (refine ⟨?_, ?_⟩)); (try any_goals (with_reducible rfl))))
    all_goals (repeat' (first | (refine And.intro ?_ ?_) | rfl))
  have d1 : decide ((100 : Int) < (l.length : Int)) = false := decide_eq_false (by omega)
  by_cases c2 : hi < lo
  · have d2 : decide (hi < lo) = true := decide_eq_true c2
    (have zx1 := @d1; have zx2 := @d2; all_goals (try ((first | (with_reducible refine wp_id ?_) | (with_reducible refine does_id ?_) | (with_reducible refine ops_id ?_)); refine walk ?_; (repeat' (first | exact trivial | with_reducible refine And.intro ?_ ?_)); all_goals (repeat (first | (with_reducible refine ImpB.mk fun hb => ?_) | (with_reducible refine ImpK.mk fun hK => ?_) | (with_reducible refine ImpF.mk fun hF => ?_) | (with_reducible refine ImpQ.mk fun hp => ?_) | (with_reducible refine AllE.mk fun p => ?_) | (with_reducible refine AllR.mk fun rest => ?_) | (with_reducible refine AllK.mk fun K => ?_))))); repeat' (with_reducible refine And.intro ?_ ?_))
    (focus (refine ⟨_, _, Gh.refl, [], rfl, ?_⟩; (refine fitq ?_ ?_ ?_ <;> try exact trivial); (try any_goals (refine ⟨?_, ?_⟩)); (try any_goals (with_reducible rfl))))
    all_goals (repeat' (first | (refine And.intro ?_ ?_) | rfl))
  have d2 : decide (hi < lo) = false := decide_eq_false c2
  obtain ⟨n, hn⟩ : ∃ n : Int, rp % 5 + 1 = n := ⟨_, rfl⟩
  have hw1 : IntKind.i64.wrap lo = lo := wrap_i64 _ (by omega) (by omega)
  have hw2 : IntKind.i64.wrap hi = hi := wrap_i64 _ (by omega) (by omega)
  have hw3 : IntKind.i64.wrap ((IntKind.i64.wrap rp).tmod 5 + 1) = n := by
    rw [wrap_i64 rp (by omega) (by omega), Int.tmod_eq_emod_of_nonneg q3.1, wrap_i64 _ (by omega) (by omega), hn]
  have hn1 : 1 ≤ n ∧ n ≤ 5 := by omega
  have e1 : isLim ⟨1, 1, 1, lo, hi, n, 7, 2⟩ := ⟨rfl, by unfold inW; simp; omega, by unfold inW; simp; omega, by show lo ≤ hi; omega⟩
  have e2 : isMon ⟨1, 1, 1, lo, hi, n, 7, 2⟩ := ⟨rfl, rfl, rfl, by show 1 ≤ n ∧ n ≤ 256; omega, by show (1 : Int) ≤ 2 ∧ (2 : Int) ≤ 4; omega⟩
  (have zx1 := @d1; have zx2 := @d2; have zx3 := @hw1; have zx4 := @hw2; have zx5 := @hw3; all_goals (try ((first | (with_reducible refine wp_id ?_) | (with_reducible refine does_id ?_) | (with_reducible refine ops_id ?_)); refine walk ?_; (repeat' (first | exact trivial | with_reducible refine And.intro ?_ ?_)); all_goals (repeat (first | (with_reducible refine ImpB.mk fun hb => ?_) | (with_reducible refine ImpK.mk fun hK => ?_) | (with_reducible refine ImpF.mk fun hF => ?_) | (with_reducible refine ImpQ.mk fun hp => ?_) | (with_reducible refine AllE.mk fun p => ?_) | (with_reducible refine AllR.mk fun rest => ?_) | (with_reducible refine AllK.mk fun K => ?_))))); repeat' (with_reducible refine And.intro ?_ ?_))
  all_goals first | (exfalso; omega) | skip
  any_goals ((try (refine w_seq fun K hK => ?_)); (try (refine w_block ?_)); refine w_loop (A := Nat) (fun k => k ≤ l.length) (fun k => l.length - k) (fun k => [(14, .int .i64 (rpS n lo hi l k)), (15, .int .i64 (rpU n lo hi l k)), (16, .int .i64 (rpL n lo hi l k)), (17, .int .i64 k)]) (fun k => [(0, .pack (SL (rpN k) ⟨1, 1, 1, lo, hi, n, 7, 2⟩ false (rpS n lo hi l k) (rpL n lo hi l k) (rpU n lo hi l k))), (1, .pack (PO 0 (rpV l k)))]) (0) (ws := ?ws1) (tk := ?tk1) ?hw1 ?ht1 ?hi ?h0 ?LH1; (case hw1 => simp only [go_sem, decide_true, decide_false, Int.reduceToNat, Nat.min_eq_left, Nat.min_eq_right, Int.reducePow, Nat.reducePow, Int.reduceLE, Int.reduceLT, Int.reduceMul, Int.reduceAdd, Int.reduceSub, Int.reduceNeg, Bool.not_true, Bool.not_false, Bool.not_not, ↓reduceIte, Nat.reduceAdd, Nat.reduceSub, Nat.reduceMul, Nat.reduceEqDiff, reduceCtorEq, Nat.reduceLT, Nat.reduceLeDiff, Nat.reduceGT]; exact rfl); (case ht1 => simp only [go_sem, decide_true, decide_false, Int.reduceToNat, Nat.min_eq_left, Nat.min_eq_right, Int.reducePow, Nat.reducePow, Int.reduceLE, Int.reduceLT, Int.reduceMul, Int.reduceAdd, Int.reduceSub, Int.reduceNeg, Bool.not_true, Bool.not_false, Bool.not_not, ↓reduceIte, Nat.reduceAdd, Nat.reduceSub, Nat.reduceMul, Nat.reduceEqDiff, reduceCtorEq, Nat.reduceLT, Nat.reduceLeDiff, Nat.reduceGT]; exact rfl); (case' LH1 => rintro k E t hx hE ht; simp only [go_sem] at ht; subst ht; simp only [go_sem]; try dsimp only at hx))
  case hi => exact Nat.zero_le _
  case h0 =>
    (focus (refine ⟨_, _, Gh.refl, [0, 1, 2], rfl, ?_⟩; (refine fitq ?_ ?_ ?_ <;> try exact trivial); (try any_goals (refine ⟨?_, ?_⟩)); (try any_goals (with_reducible rfl))))
    all_goals (repeat' (first | (refine And.intro ?_ ?_) | rfl))
  case LH1 =>
    have hk0 : k ≤ l.length := hx
    by_cases hk : k < l.length
    · have hkd : decide ((k : Int) < (l.length : Int)) = true := decide_eq_true (by omega)
      have hkl : (k : Int) < (l.length : Int) := by omega
      have hw : IntKind.i64.wrap ((k : Int) + 1) = ((k + 1 : Nat) : Int) := by rw [wrap_i64 _ (by omega) (by omega)]; omega
      have hnw : nowQ (rpN k) (k : Int) = rpN (k + 1) := rp_now1 (by omega)
      have hnv : (k : Int) = rpN (k + 1) := by unfold rpN; omega
      have hpv : rpV l (k + 1) = l.getD k 0 := by unfold rpV; simp
      have hUl := rpU_le n lo hi l k
      have hs := rpK_succ n lo hi l hk
      have hv1 : -32768 ≤ l.getD k 0 ∧ l.getD k 0 ≤ 32767 := by
        rw [List.getD_eq_getElem?_getD, List.getElem?_eq_getElem hk]; exact q4 _ (List.getElem_mem hk)
      have hS0 : rpS n lo hi l (k + 1) = (rpK n lo hi l (k + 1)).1 := rfl
      have hL0 : rpL n lo hi l (k + 1) = (rpK n lo hi l (k + 1)).2.1 := rfl
      have hU0 : rpU n lo hi l (k + 1) = (rpK n lo hi l (k + 1)).2.2 := rfl
      rw [hs] at hS0 hL0 hU0
      generalize rpS n lo hi l k = S at *
      generalize rpL n lo hi l k = L at *
      generalize rpU n lo hi l k = U at *
      obtain ⟨v, hv⟩ : ∃ v : Int, l.getD k 0 = v := ⟨_, rfl⟩
      rw [hv] at hv1 hpv hS0 hL0 hU0
      have hvi : inS v = true := by unfold inS; simp; omega
      have hwv : IntKind.i64.wrap v = v := wrap_i64 _ (by omega) (by omega)
      have hwu : IntKind.i64.wrap (U + 1) = U + 1 := wrap_i64 _ (by omega) (by omega)
      have hrn : 0 ≤ U ∧ U ≤ 1000000 := by omega
      by_cases c3 : v < lo
      · have d3 : decide (v < lo) = true := decide_eq_true c3
        have d4 : decide (hi < v) = false := decide_eq_false (by omega)
        have hx : rsL lo hi v = 2 := by unfold rsL; rw [if_pos c3]
        by_cases a1 : (2 : Int) = L
        · have d5 : decide ((2 : Int) = L) = true := decide_eq_true a1
          by_cases a2 : (U + 1) < n
          · have d6 : decide (n ≤ (U + 1)) = false := decide_eq_false (by omega)
            have f1 : fdR n S L U (rsL lo hi v) = (false, S, 2, (U + 1)) := by rw [hx]; unfold fdR; rw [if_pos a1]; exact if_pos (.inl a2)
            rw [f1] at hS0 hL0 hU0
            dsimp only at hS0 hL0 hU0
            (have zx1 := @hkd; have zx2 := @hw; have zx3 := @hv; have zx4 := @hwv; have zx5 := @hwu; have zx6 := @hnw; have zx7 := @d3; have zx8 := @d4; have zx9 := @d5; have zx10 := @d6; all_goals (try ((first | (with_reducible refine wp_id ?_) | (with_reducible refine does_id ?_) | (with_reducible refine ops_id ?_)); refine walk ?_; (repeat' (first | exact trivial | with_reducible refine And.intro ?_ ?_)); all_goals (repeat (first | (with_reducible refine ImpB.mk fun hb => ?_) | (with_reducible refine ImpK.mk fun hK => ?_) | (with_reducible refine ImpF.mk fun hF => ?_) | (with_reducible refine ImpQ.mk fun hp => ?_) | (with_reducible refine AllE.mk fun p => ?_) | (with_reducible refine AllR.mk fun rest => ?_) | (with_reducible refine AllK.mk fun K => ?_))))); repeat' (with_reducible refine And.intro ?_ ?_))
            any_goals first | exact Int.natCast_nonneg _ | exact hkl
            subst a1
            refine ⟨k + 1, ⟨(by omega : k + 1 ≤ l.length), (by omega : l.length - (k + 1) < l.length - k)⟩, ?_⟩
            dsimp only
            rw [hS0, hL0, hU0, hpv]
            (focus (refine ⟨_, _, Gh.refl, [0, 1, 2], rfl, ?_⟩; (refine fitq ?_ ?_ ?_ <;> try exact trivial); (try any_goals (refine ⟨?_, ?_⟩)); (try any_goals (with_reducible rfl))))
            all_goals (repeat' (first | (refine And.intro ?_ ?_) | rfl))
          · have d6 : decide (n ≤ (U + 1)) = true := decide_eq_true (by omega)
            by_cases a3 : S = 2
            · have d7 : decide (¬ (2 : Int) = S) = false := decide_eq_false (by omega)
              have f1 : fdR n S L U (rsL lo hi v) = (false, S, 2, (U + 1)) := by rw [hx]; unfold fdR; rw [if_pos a1]; exact if_pos (.inr a3)
              rw [f1] at hS0 hL0 hU0
              dsimp only at hS0 hL0 hU0
              (have zx1 := @hkd; have zx2 := @hw; have zx3 := @hv; have zx4 := @hwv; have zx5 := @hwu; have zx6 := @hnw; have zx7 := @d3; have zx8 := @d4; have zx9 := @d5; have zx10 := @d6; have zx11 := @d7; all_goals (try ((first | (with_reducible refine wp_id ?_) | (with_reducible refine does_id ?_) | (with_reducible refine ops_id ?_)); refine walk ?_; (repeat' (first | exact trivial | with_reducible refine And.intro ?_ ?_)); all_goals (repeat (first | (with_reducible refine ImpB.mk fun hb => ?_) | (with_reducible refine ImpK.mk fun hK => ?_) | (with_reducible refine ImpF.mk fun hF => ?_) | (with_reducible refine ImpQ.mk fun hp => ?_) | (with_reducible refine AllE.mk fun p => ?_) | (with_reducible refine AllR.mk fun rest => ?_) | (with_reducible refine AllK.mk fun K => ?_))))); repeat' (with_reducible refine And.intro ?_ ?_))
              any_goals first | exact Int.natCast_nonneg _ | exact hkl
              subst a1
              refine ⟨k + 1, ⟨(by omega : k + 1 ≤ l.length), (by omega : l.length - (k + 1) < l.length - k)⟩, ?_⟩
              dsimp only
              rw [hS0, hL0, hU0, hpv]
              (focus (refine ⟨_, _, Gh.refl, [0, 1, 2], rfl, ?_⟩; (refine fitq ?_ ?_ ?_ <;> try exact trivial); (try any_goals (refine ⟨?_, ?_⟩)); (try any_goals (with_reducible rfl))))
              all_goals (repeat' (first | (refine And.intro ?_ ?_) | rfl))
            · have d7 : decide (¬ (2 : Int) = S) = true := decide_eq_true (by omega)
              have f1 : fdR n S L U (rsL lo hi v) = (true, 2, 2, (U + 1)) := by rw [hx]; unfold fdR; rw [if_pos a1]; exact if_neg (by omega)
              have hT : (!(decide ((([⟨rpN (k + 1), 1, S, 2, v⟩] : List Tra).getD 0 Tra.zero).time = (k : Int)) && (decide ((([⟨rpN (k + 1), 1, S, 2, v⟩] : List Tra).getD 0 Tra.zero).mon = 1) && (decide ((([⟨rpN (k + 1), 1, S, 2, v⟩] : List Tra).getD 0 Tra.zero).fr = S) && (decide ((([⟨rpN (k + 1), 1, S, 2, v⟩] : List Tra).getD 0 Tra.zero).tt = 2) && (decide ((([⟨rpN (k + 1), 1, S, 2, v⟩] : List Tra).getD 0 Tra.zero).val = v) && true)))))) = false := by
                show (!(decide (rpN (k + 1) = (k : Int)) && (decide ((1 : Int) = 1) && (decide (S = S) && (decide ((2 : Int) = 2) && (decide (v = v) && true)))))) = false
                simp [hnv.symm]
              rw [f1] at hS0 hL0 hU0
              dsimp only at hS0 hL0 hU0
              (have zx1 := @hkd; have zx2 := @hw; have zx3 := @hv; have zx4 := @hwv; have zx5 := @hwu; have zx6 := @hnw; have zx7 := @d3; have zx8 := @d4; have zx9 := @d5; have zx10 := @d6; have zx11 := @d7; have zx12 := @hT; all_goals (try ((first | (with_reducible refine wp_id ?_) | (with_reducible refine does_id ?_) | (with_reducible refine ops_id ?_)); refine walk ?_; (repeat' (first | exact trivial | with_reducible refine And.intro ?_ ?_)); all_goals (repeat (first | (with_reducible refine ImpB.mk fun hb => ?_) | (with_reducible refine ImpK.mk fun hK => ?_) | (with_reducible refine ImpF.mk fun hF => ?_) | (with_reducible refine ImpQ.mk fun hp => ?_) | (with_reducible refine AllE.mk fun p => ?_) | (with_reducible refine AllR.mk fun rest => ?_) | (with_reducible refine AllK.mk fun K => ?_))))); repeat' (with_reducible refine And.intro ?_ ?_))
              any_goals first | exact Int.natCast_nonneg _ | exact hkl
              subst a1
              refine ⟨k + 1, ⟨(by omega : k + 1 ≤ l.length), (by omega : l.length - (k + 1) < l.length - k)⟩, ?_⟩
              dsimp only
              rw [hS0, hL0, hU0, hpv]
              (focus (refine ⟨_, _, Gh.refl, [0, 1, 2], rfl, ?_⟩; (refine fitq ?_ ?_ ?_ <;> try exact trivial); (try any_goals (refine ⟨?_, ?_⟩)); (try any_goals (with_reducible rfl))))
              all_goals (repeat' (first | (refine And.intro ?_ ?_) | rfl))
        · have d5 : decide ((2 : Int) = L) = false := decide_eq_false a1
          by_cases a2 : (1 : Int) < n
          · have d6 : decide (n ≤ (1 : Int)) = false := decide_eq_false (by omega)
            have f1 : fdR n S L U (rsL lo hi v) = (false, S, 2, 1) := by rw [hx]; unfold fdR; rw [if_neg a1]; exact if_pos (.inl a2)
            rw [f1] at hS0 hL0 hU0
            dsimp only at hS0 hL0 hU0
            (have zx1 := @hkd; have zx2 := @hw; have zx3 := @hv; have zx4 := @hwv; have zx5 := @hwu; have zx6 := @hnw; have zx7 := @d3; have zx8 := @d4; have zx9 := @d5; have zx10 := @d6; all_goals (try ((first | (with_reducible refine wp_id ?_) | (with_reducible refine does_id ?_) | (with_reducible refine ops_id ?_)); refine walk ?_; (repeat' (first | exact trivial | with_reducible refine And.intro ?_ ?_)); all_goals (repeat (first | (with_reducible refine ImpB.mk fun hb => ?_) | (with_reducible refine ImpK.mk fun hK => ?_) | (with_reducible refine ImpF.mk fun hF => ?_) | (with_reducible refine ImpQ.mk fun hp => ?_) | (with_reducible refine AllE.mk fun p => ?_) | (with_reducible refine AllR.mk fun rest => ?_) | (with_reducible refine AllK.mk fun K => ?_))))); repeat' (with_reducible refine And.intro ?_ ?_))
            any_goals first | exact Int.natCast_nonneg _ | exact hkl
            refine ⟨k + 1, ⟨(by omega : k + 1 ≤ l.length), (by omega : l.length - (k + 1) < l.length - k)⟩, ?_⟩
            dsimp only
            rw [hS0, hL0, hU0, hpv]
            (focus (refine ⟨_, _, Gh.refl, [0, 1, 2], rfl, ?_⟩; (refine fitq ?_ ?_ ?_ <;> try exact trivial); (try any_goals (refine ⟨?_, ?_⟩)); (try any_goals (with_reducible rfl))))
            all_goals (repeat' (first | (refine And.intro ?_ ?_) | rfl))
          · have d6 : decide (n ≤ (1 : Int)) = true := decide_eq_true (by omega)
            by_cases a3 : S = 2
            · have d7 : decide (¬ (2 : Int) = S) = false := decide_eq_false (by omega)
              have f1 : fdR n S L U (rsL lo hi v) = (false, S, 2, 1) := by rw [hx]; unfold fdR; rw [if_neg a1]; exact if_pos (.inr a3)
              rw [f1] at hS0 hL0 hU0
              dsimp only at hS0 hL0 hU0
              (have zx1 := @hkd; have zx2 := @hw; have zx3 := @hv; have zx4 := @hwv; have zx5 := @hwu; have zx6 := @hnw; have zx7 := @d3; have zx8 := @d4; have zx9 := @d5; have zx10 := @d6; have zx11 := @d7; all_goals (try ((first | (with_reducible refine wp_id ?_) | (with_reducible refine does_id ?_) | (with_reducible refine ops_id ?_)); refine walk ?_; (repeat' (first | exact trivial | with_reducible refine And.intro ?_ ?_)); all_goals (repeat (first | (with_reducible refine ImpB.mk fun hb => ?_) | (with_reducible refine ImpK.mk fun hK => ?_) | (with_reducible refine ImpF.mk fun hF => ?_) | (with_reducible refine ImpQ.mk fun hp => ?_) | (with_reducible refine AllE.mk fun p => ?_) | (with_reducible refine AllR.mk fun rest => ?_) | (with_reducible refine AllK.mk fun K => ?_))))); repeat' (with_reducible refine And.intro ?_ ?_))
              any_goals first | exact Int.natCast_nonneg _ | exact hkl
              refine ⟨k + 1, ⟨(by omega : k + 1 ≤ l.length), (by omega : l.length - (k + 1) < l.length - k)⟩, ?_⟩
              dsimp only
              rw [hS0, hL0, hU0, hpv]
              (focus (refine ⟨_, _, Gh.refl, [0, 1, 2], rfl, ?_⟩; (refine fitq ?_ ?_ ?_ <;> try exact trivial); (try any_goals (refine ⟨?_, ?_⟩)); (try any_goals (with_reducible rfl))))
              all_goals (repeat' (first | (refine And.intro ?_ ?_) | rfl))
            · have d7 : decide (¬ (2 : Int) = S) = true := decide_eq_true (by omega)
              have f1 : fdR n S L U (rsL lo hi v) = (true, 2, 2, 1) := by rw [hx]; unfold fdR; rw [if_neg a1]; exact if_neg (by omega)
              have hT : (!(decide ((([⟨rpN (k + 1), 1, S, 2, v⟩] : List Tra).getD 0 Tra.zero).time = (k : Int)) && (decide ((([⟨rpN (k + 1), 1, S, 2, v⟩] : List Tra).getD 0 Tra.zero).mon = 1) && (decide ((([⟨rpN (k + 1), 1, S, 2, v⟩] : List Tra).getD 0 Tra.zero).fr = S) && (decide ((([⟨rpN (k + 1), 1, S, 2, v⟩] : List Tra).getD 0 Tra.zero).tt = 2) && (decide ((([⟨rpN (k + 1), 1, S, 2, v⟩] : List Tra).getD 0 Tra.zero).val = v) && true)))))) = false := by
                show (!(decide (rpN (k + 1) = (k : Int)) && (decide ((1 : Int) = 1) && (decide (S = S) && (decide ((2 : Int) = 2) && (decide (v = v) && true)))))) = false
                simp [hnv.symm]
              rw [f1] at hS0 hL0 hU0
              dsimp only at hS0 hL0 hU0
              (have zx1 := @hkd; have zx2 := @hw; have zx3 := @hv; have zx4 := @hwv; have zx5 := @hwu; have zx6 := @hnw; have zx7 := @d3; have zx8 := @d4; have zx9 := @d5; have zx10 := @d6; have zx11 := @d7; have zx12 := @hT; all_goals (try ((first | (with_reducible refine wp_id ?_) | (with_reducible refine does_id ?_) | (with_reducible refine ops_id ?_)); refine walk ?_; (repeat' (first | exact trivial | with_reducible refine And.intro ?_ ?_)); all_goals (repeat (first | (with_reducible refine ImpB.mk fun hb => ?_) | (with_reducible refine ImpK.mk fun hK => ?_) | (with_reducible refine ImpF.mk fun hF => ?_) | (with_reducible refine ImpQ.mk fun hp => ?_) | (with_reducible refine AllE.mk fun p => ?_) | (with_reducible refine AllR.mk fun rest => ?_) | (with_reducible refine AllK.mk fun K => ?_))))); repeat' (with_reducible refine And.intro ?_ ?_))
              any_goals first | exact Int.natCast_nonneg _ | exact hkl
              refine ⟨k + 1, ⟨(by omega : k + 1 ≤ l.length), (by omega : l.length - (k + 1) < l.length - k)⟩, ?_⟩
              dsimp only
              rw [hS0, hL0, hU0, hpv]
              (focus (refine ⟨_, _, Gh.refl, [0, 1, 2], rfl, ?_⟩; (refine fitq ?_ ?_ ?_ <;> try exact trivial); (try any_goals (refine ⟨?_, ?_⟩)); (try any_goals (with_reducible rfl))))
              all_goals (repeat' (first | (refine And.intro ?_ ?_) | rfl))
      · have d3 : decide (v < lo) = false := decide_eq_false c3
        by_cases c4 : hi < v
        · have d4 : decide (hi < v) = true := decide_eq_true c4
          have hx : rsL lo hi v = 3 := by unfold rsL; rw [if_neg c3, if_pos c4]
          by_cases a1 : (3 : Int) = L
          · have d5 : decide ((3 : Int) = L) = true := decide_eq_true a1
            by_cases a2 : (U + 1) < n
            · have d6 : decide (n ≤ (U + 1)) = false := decide_eq_false (by omega)
              have f1 : fdR n S L U (rsL lo hi v) = (false, S, 3, (U + 1)) := by rw [hx]; unfold fdR; rw [if_pos a1]; exact if_pos (.inl a2)
              rw [f1] at hS0 hL0 hU0
              dsimp only at hS0 hL0 hU0
              (have zx1 := @hkd; have zx2 := @hw; have zx3 := @hv; have zx4 := @hwv; have zx5 := @hwu; have zx6 := @hnw; have zx7 := @d3; have zx8 := @d4; have zx9 := @d5; have zx10 := @d6; all_goals (try ((first | (with_reducible refine wp_id ?_) | (with_reducible refine does_id ?_) | (with_reducible refine ops_id ?_)); refine walk ?_; (repeat' (first | exact trivial | with_reducible refine And.intro ?_ ?_)); all_goals (repeat (first | (with_reducible refine ImpB.mk fun hb => ?_) | (with_reducible refine ImpK.mk fun hK => ?_) | (with_reducible refine ImpF.mk fun hF => ?_) | (with_reducible refine ImpQ.mk fun hp => ?_) | (with_reducible refine AllE.mk fun p => ?_) | (with_reducible refine AllR.mk fun rest => ?_) | (with_reducible refine AllK.mk fun K => ?_))))); repeat' (with_reducible refine And.intro ?_ ?_))
              any_goals first | exact Int.natCast_nonneg _ | exact hkl
              subst a1
              refine ⟨k + 1, ⟨(by omega : k + 1 ≤ l.length), (by omega : l.length - (k + 1) < l.length - k)⟩, ?_⟩
              dsimp only
              rw [hS0, hL0, hU0, hpv]
              (focus (refine ⟨_, _, Gh.refl, [0, 1, 2], rfl, ?_⟩; (refine fitq ?_ ?_ ?_ <;> try exact trivial); (try any_goals (refine ⟨?_, ?_⟩)); (try any_goals (with_reducible rfl))))
              all_goals (repeat' (first | (refine And.intro ?_ ?_) | rfl))
            · have d6 : decide (n ≤ (U + 1)) = true := decide_eq_true (by omega)
              by_cases a3 : S = 3
              · have d7 : decide (¬ (3 : Int) = S) = false := decide_eq_false (by omega)
                have f1 : fdR n S L U (rsL lo hi v) = (false, S, 3, (U + 1)) := by rw [hx]; unfold fdR; rw [if_pos a1]; exact if_pos (.inr a3)
                rw [f1] at hS0 hL0 hU0
                dsimp only at hS0 hL0 hU0
                (have zx1 := @hkd; have zx2 := @hw; have zx3 := @hv; have zx4 := @hwv; have zx5 := @hwu; have zx6 := @hnw; have zx7 := @d3; have zx8 := @d4; have zx9 := @d5; have zx10 := @d6; have zx11 := @d7; all_goals (try ((first | (with_reducible refine wp_id ?_) | (with_reducible refine does_id ?_) | (with_reducible refine ops_id ?_)); refine walk ?_; (repeat' (first | exact trivial | with_reducible refine And.intro ?_ ?_)); all_goals (repeat (first | (with_reducible refine ImpB.mk fun hb => ?_) | (with_reducible refine ImpK.mk fun hK => ?_) | (with_reducible refine ImpF.mk fun hF => ?_) | (with_reducible refine ImpQ.mk fun hp => ?_) | (with_reducible refine AllE.mk fun p => ?_) | (with_reducible refine AllR.mk fun rest => ?_) | (with_reducible refine AllK.mk fun K => ?_))))); repeat' (with_reducible refine And.intro ?_ ?_))
                any_goals first | exact Int.natCast_nonneg _ | exact hkl
                subst a1
                refine ⟨k + 1, ⟨(by omega : k + 1 ≤ l.length), (by omega : l.length - (k + 1) < l.length - k)⟩, ?_⟩
                dsimp only
                rw [hS0, hL0, hU0, hpv]
                (focus (refine ⟨_, _, Gh.refl, [0, 1, 2], rfl, ?_⟩; (refine fitq ?_ ?_ ?_ <;> try exact trivial); (try any_goals (refine ⟨?_, ?_⟩)); (try any_goals (with_reducible rfl))))
                all_goals (repeat' (first | (refine And.intro ?_ ?_) | rfl))
              · have d7 : decide (¬ (3 : Int) = S) = true := decide_eq_true (by omega)
                have f1 : fdR n S L U (rsL lo hi v) = (true, 3, 3, (U + 1)) := by rw [hx]; unfold fdR; rw [if_pos a1]; exact if_neg (by omega)
                have hT : (!(decide ((([⟨rpN (k + 1), 1, S, 3, v⟩] : List Tra).getD 0 Tra.zero).time = (k : Int)) && (decide ((([⟨rpN (k + 1), 1, S, 3, v⟩] : List Tra).getD 0 Tra.zero).mon = 1) && (decide ((([⟨rpN (k + 1), 1, S, 3, v⟩] : List Tra).getD 0 Tra.zero).fr = S) && (decide ((([⟨rpN (k + 1), 1, S, 3, v⟩] : List Tra).getD 0 Tra.zero).tt = 3) && (decide ((([⟨rpN (k + 1), 1, S, 3, v⟩] : List Tra).getD 0 Tra.zero).val = v) && true)))))) = false := by
                  show (!(decide (rpN (k + 1) = (k : Int)) && (decide ((1 : Int) = 1) && (decide (S = S) && (decide ((3 : Int) = 3) && (decide (v = v) && true)))))) = false
                  simp [hnv.symm]
                rw [f1] at hS0 hL0 hU0
                dsimp only at hS0 hL0 hU0
                (have zx1 := @hkd; have zx2 := @hw; have zx3 := @hv; have zx4 := @hwv; have zx5 := @hwu; have zx6 := @hnw; have zx7 := @d3; have zx8 := @d4; have zx9 := @d5; have zx10 := @d6; have zx11 := @d7; have zx12 := @hT; all_goals (try ((first | (with_reducible refine wp_id ?_) | (with_reducible refine does_id ?_) | (with_reducible refine ops_id ?_)); refine walk ?_; (repeat' (first | exact trivial | with_reducible refine And.intro ?_ ?_)); all_goals (repeat (first | (with_reducible refine ImpB.mk fun hb => ?_) | (with_reducible refine ImpK.mk fun hK => ?_) | (with_reducible refine ImpF.mk fun hF => ?_) | (with_reducible refine ImpQ.mk fun hp => ?_) | (with_reducible refine AllE.mk fun p => ?_) | (with_reducible refine AllR.mk fun rest => ?_) | (with_reducible refine AllK.mk fun K => ?_))))); repeat' (with_reducible refine And.intro ?_ ?_))
                any_goals first | exact Int.natCast_nonneg _ | exact hkl
                subst a1
                refine ⟨k + 1, ⟨(by omega : k + 1 ≤ l.length), (by omega : l.length - (k + 1) < l.length - k)⟩, ?_⟩
                dsimp only
                rw [hS0, hL0, hU0, hpv]
                (focus (refine ⟨_, _, Gh.refl, [0, 1, 2], rfl, ?_⟩; (refine fitq ?_ ?_ ?_ <;> try exact trivial); (try any_goals (refine ⟨?_, ?_⟩)); (try any_goals (with_reducible rfl))))
                all_goals (repeat' (first | (refine And.intro ?_ ?_) | rfl))
          · have d5 : decide ((3 : Int) = L) = false := decide_eq_false a1
            by_cases a2 : (1 : Int) < n
            · have d6 : decide (n ≤ (1 : Int)) = false := decide_eq_false (by omega)
              have f1 : fdR n S L U (rsL lo hi v) = (false, S, 3, 1) := by rw [hx]; unfold fdR; rw [if_neg a1]; exact if_pos (.inl a2)
              rw [f1] at hS0 hL0 hU0
              dsimp only at hS0 hL0 hU0
              (have zx1 := @hkd; have zx2 := @hw; have zx3 := @hv; have zx4 := @hwv; have zx5 := @hwu; have zx6 := @hnw; have zx7 := @d3; have zx8 := @d4; have zx9 := @d5; have zx10 := @d6; all_goals (try ((first | (with_reducible refine wp_id ?_) | (with_reducible refine does_id ?_) | (with_reducible refine ops_id ?_)); refine walk ?_; (repeat' (first | exact trivial | with_reducible refine And.intro ?_ ?_)); all_goals (repeat (first | (with_reducible refine ImpB.mk fun hb => ?_) | (with_reducible refine ImpK.mk fun hK => ?_) | (with_reducible refine ImpF.mk fun hF => ?_) | (with_reducible refine ImpQ.mk fun hp => ?_) | (with_reducible refine AllE.mk fun p => ?_) | (with_reducible refine AllR.mk fun rest => ?_) | (with_reducible refine AllK.mk fun K => ?_))))); repeat' (with_reducible refine And.intro ?_ ?_))
              any_goals first | exact Int.natCast_nonneg _ | exact hkl
              refine ⟨k + 1, ⟨(by omega : k + 1 ≤ l.length), (by omega : l.length - (k + 1) < l.length - k)⟩, ?_⟩
              dsimp only
              rw [hS0, hL0, hU0, hpv]
              (focus (refine ⟨_, _, Gh.refl, [0, 1, 2], rfl, ?_⟩; (refine fitq ?_ ?_ ?_ <;> try exact trivial); (try any_goals (refine ⟨?_, ?_⟩)); (try any_goals (with_reducible rfl))))
              all_goals (repeat' (first | (refine And.intro ?_ ?_) | rfl))
            · have d6 : decide (n ≤ (1 : Int)) = true := decide_eq_true (by omega)
              by_cases a3 : S = 3
              · have d7 : decide (¬ (3 : Int) = S) = false := decide_eq_false (by omega)
                have f1 : fdR n S L U (rsL lo hi v) = (false, S, 3, 1) := by rw [hx]; unfold fdR; rw [if_neg a1]; exact if_pos (.inr a3)
                rw [f1] at hS0 hL0 hU0
                dsimp only at hS0 hL0 hU0
                (have zx1 := @hkd; have zx2 := @hw; have zx3 := @hv; have zx4 := @hwv; have zx5 := @hwu; have zx6 := @hnw; have zx7 := @d3; have zx8 := @d4; have zx9 := @d5; have zx10 := @d6; have zx11 := @d7; all_goals (try ((first | (with_reducible refine wp_id ?_) | (with_reducible refine does_id ?_) | (with_reducible refine ops_id ?_)); refine walk ?_; (repeat' (first | exact trivial | with_reducible refine And.intro ?_ ?_)); all_goals (repeat (first | (with_reducible refine ImpB.mk fun hb => ?_) | (with_reducible refine ImpK.mk fun hK => ?_) | (with_reducible refine ImpF.mk fun hF => ?_) | (with_reducible refine ImpQ.mk fun hp => ?_) | (with_reducible refine AllE.mk fun p => ?_) | (with_reducible refine AllR.mk fun rest => ?_) | (with_reducible refine AllK.mk fun K => ?_))))); repeat' (with_reducible refine And.intro ?_ ?_))
                any_goals first | exact Int.natCast_nonneg _ | exact hkl
                refine ⟨k + 1, ⟨(by omega : k + 1 ≤ l.length), (by omega : l.length - (k + 1) < l.length - k)⟩, ?_⟩
                dsimp only
                rw [hS0, hL0, hU0, hpv]
                (focus (refine ⟨_, _, Gh.refl, [0, 1, 2], rfl, ?_⟩; (refine fitq ?_ ?_ ?_ <;> try exact trivial); (try any_goals (refine ⟨?_, ?_⟩)); (try any_goals (with_reducible rfl))))
                all_goals (repeat' (first | (refine And.intro ?_ ?_) | rfl))
              · have d7 : decide (¬ (3 : Int) = S) = true := decide_eq_true (by omega)
                have f1 : fdR n S L U (rsL lo hi v) = (true, 3, 3, 1) := by rw [hx]; unfold fdR; rw [if_neg a1]; exact if_neg (by omega)
                have hT : (!(decide ((([⟨rpN (k + 1), 1, S, 3, v⟩] : List Tra).getD 0 Tra.zero).time = (k : Int)) && (decide ((([⟨rpN (k + 1), 1, S, 3, v⟩] : List Tra).getD 0 Tra.zero).mon = 1) && (decide ((([⟨rpN (k + 1), 1, S, 3, v⟩] : List Tra).getD 0 Tra.zero).fr = S) && (decide ((([⟨rpN (k + 1), 1, S, 3, v⟩] : List Tra).getD 0 Tra.zero).tt = 3) && (decide ((([⟨rpN (k + 1), 1, S, 3, v⟩] : List Tra).getD 0 Tra.zero).val = v) && true)))))) = false := by
                  show (!(decide (rpN (k + 1) = (k : Int)) && (decide ((1 : Int) = 1) && (decide (S = S) && (decide ((3 : Int) = 3) && (decide (v = v) && true)))))) = false
                  simp [hnv.symm]
                rw [f1] at hS0 hL0 hU0
                dsimp only at hS0 hL0 hU0
                (have zx1 := @hkd; have zx2 := @hw; have zx3 := @hv; have zx4 := @hwv; have zx5 := @hwu; have zx6 := @hnw; have zx7 := @d3; have zx8 := @d4; have zx9 := @d5; have zx10 := @d6; have zx11 := @d7; have zx12 := @hT; all_goals (try ((first | (with_reducible refine wp_id ?_) | (with_reducible refine does_id ?_) | (with_reducible refine ops_id ?_)); refine walk ?_; (repeat' (first | exact trivial | with_reducible refine And.intro ?_ ?_)); all_goals (repeat (first | (with_reducible refine ImpB.mk fun hb => ?_) | (with_reducible refine ImpK.mk fun hK => ?_) | (with_reducible refine ImpF.mk fun hF => ?_) | (with_reducible refine ImpQ.mk fun hp => ?_) | (with_reducible refine AllE.mk fun p => ?_) | (with_reducible refine AllR.mk fun rest => ?_) | (with_reducible refine AllK.mk fun K => ?_))))); repeat' (with_reducible refine And.intro ?_ ?_))
                any_goals first | exact Int.natCast_nonneg _ | exact hkl
                refine ⟨k + 1, ⟨(by omega : k + 1 ≤ l.length), (by omega : l.length - (k + 1) < l.length - k)⟩, ?_⟩
                dsimp only
                rw [hS0, hL0, hU0, hpv]
                (focus (refine ⟨_, _, Gh.refl, [0, 1, 2], rfl, ?_⟩; (refine fitq ?_ ?_ ?_ <;> try exact trivial); (try any_goals (refine ⟨?_, ?_⟩)); (try any_goals (with_reducible rfl))))
                all_goals (repeat' (first | (refine And.intro ?_ ?_) | rfl))
        · have d4 : decide (hi < v) = false := decide_eq_false c4
          have hx : rsL lo hi v = 1 := by unfold rsL; rw [if_neg c3, if_neg c4]
          by_cases a1 : (1 : Int) = L
          · have d5 : decide ((1 : Int) = L) = true := decide_eq_true a1
            by_cases a2 : (U + 1) < n
            · have d6 : decide (n ≤ (U + 1)) = false := decide_eq_false (by omega)
              have f1 : fdR n S L U (rsL lo hi v) = (false, S, 1, (U + 1)) := by rw [hx]; unfold fdR; rw [if_pos a1]; exact if_pos (.inl a2)
              rw [f1] at hS0 hL0 hU0
              dsimp only at hS0 hL0 hU0
              (have zx1 := @hkd; have zx2 := @hw; have zx3 := @hv; have zx4 := @hwv; have zx5 := @hwu; have zx6 := @hnw; have zx7 := @d3; have zx8 := @d4; have zx9 := @d5; have zx10 := @d6; all_goals (try ((first | (with_reducible refine wp_id ?_) | (with_reducible refine does_id ?_) | (with_reducible refine ops_id ?_)); refine walk ?_; (repeat' (first | exact trivial | with_reducible refine And.intro ?_ ?_)); all_goals (repeat (first | (with_reducible refine ImpB.mk fun hb => ?_) | (with_reducible refine ImpK.mk fun hK => ?_) | (with_reducible refine ImpF.mk fun hF => ?_) | (with_reducible refine ImpQ.mk fun hp => ?_) | (with_reducible refine AllE.mk fun p => ?_) | (with_reducible refine AllR.mk fun rest => ?_) | (with_reducible refine AllK.mk fun K => ?_))))); repeat' (with_reducible refine And.intro ?_ ?_))
              any_goals first | exact Int.natCast_nonneg _ | exact hkl
              subst a1
              refine ⟨k + 1, ⟨(by omega : k + 1 ≤ l.length), (by omega : l.length - (k + 1) < l.length - k)⟩, ?_⟩
              dsimp only
              rw [hS0, hL0, hU0, hpv]
              (focus (refine ⟨_, _, Gh.refl, [0, 1, 2], rfl, ?_⟩; (refine fitq ?_ ?_ ?_ <;> try exact trivial); (try any_goals (refine ⟨?_, ?_⟩)); (try any_goals (with_reducible rfl))))
              all_goals (repeat' (first | (refine And.intro ?_ ?_) | rfl))
            · have d6 : decide (n ≤ (U + 1)) = true := decide_eq_true (by omega)
              by_cases a3 : S = 1
              · have d7 : decide (¬ (1 : Int) = S) = false := decide_eq_false (by omega)
                have f1 : fdR n S L U (rsL lo hi v) = (false, S, 1, (U + 1)) := by rw [hx]; unfold fdR; rw [if_pos a1]; exact if_pos (.inr a3)
                rw [f1] at hS0 hL0 hU0
                dsimp only at hS0 hL0 hU0
                (have zx1 := @hkd; have zx2 := @hw; have zx3 := @hv; have zx4 := @hwv; have zx5 := @hwu; have zx6 := @hnw; have zx7 := @d3; have zx8 := @d4; have zx9 := @d5; have zx10 := @d6; have zx11 := @d7; all_goals (try ((first | (with_reducible refine wp_id ?_) | (with_reducible refine does_id ?_) | (with_reducible refine ops_id ?_)); refine walk ?_; (repeat' (first | exact trivial | with_reducible refine And.intro ?_ ?_)); all_goals (repeat (first | (with_reducible refine ImpB.mk fun hb => ?_) | (with_reducible refine ImpK.mk fun hK => ?_) | (with_reducible refine ImpF.mk fun hF => ?_) | (with_reducible refine ImpQ.mk fun hp => ?_) | (with_reducible refine AllE.mk fun p => ?_) | (with_reducible refine AllR.mk fun rest => ?_) | (with_reducible refine AllK.mk fun K => ?_))))); repeat' (with_reducible refine And.intro ?_ ?_))
                any_goals first | exact Int.natCast_nonneg _ | exact hkl
                subst a1
                refine ⟨k + 1, ⟨(by omega : k + 1 ≤ l.length), (by omega : l.length - (k + 1) < l.length - k)⟩, ?_⟩
                dsimp only
                rw [hS0, hL0, hU0, hpv]
                (focus (refine ⟨_, _, Gh.refl, [0, 1, 2], rfl, ?_⟩; (refine fitq ?_ ?_ ?_ <;> try exact trivial); (try any_goals (refine ⟨?_, ?_⟩)); (try any_goals (with_reducible rfl))))
                all_goals (repeat' (first | (refine And.intro ?_ ?_) | rfl))
              · have d7 : decide (¬ (1 : Int) = S) = true := decide_eq_true (by omega)
                have f1 : fdR n S L U (rsL lo hi v) = (true, 1, 1, (U + 1)) := by rw [hx]; unfold fdR; rw [if_pos a1]; exact if_neg (by omega)
                have hT : (!(decide ((([⟨rpN (k + 1), 1, S, 1, v⟩] : List Tra).getD 0 Tra.zero).time = (k : Int)) && (decide ((([⟨rpN (k + 1), 1, S, 1, v⟩] : List Tra).getD 0 Tra.zero).mon = 1) && (decide ((([⟨rpN (k + 1), 1, S, 1, v⟩] : List Tra).getD 0 Tra.zero).fr = S) && (decide ((([⟨rpN (k + 1), 1, S, 1, v⟩] : List Tra).getD 0 Tra.zero).tt = 1) && (decide ((([⟨rpN (k + 1), 1, S, 1, v⟩] : List Tra).getD 0 Tra.zero).val = v) && true)))))) = false := by
                  show (!(decide (rpN (k + 1) = (k : Int)) && (decide ((1 : Int) = 1) && (decide (S = S) && (decide ((1 : Int) = 1) && (decide (v = v) && true)))))) = false
                  simp [hnv.symm]
                rw [f1] at hS0 hL0 hU0
                dsimp only at hS0 hL0 hU0
                (have zx1 := @hkd; have zx2 := @hw; have zx3 := @hv; have zx4 := @hwv; have zx5 := @hwu; have zx6 := @hnw; have zx7 := @d3; have zx8 := @d4; have zx9 := @d5; have zx10 := @d6; have zx11 := @d7; have zx12 := @hT; all_goals (try ((first | (with_reducible refine wp_id ?_) | (with_reducible refine does_id ?_) | (with_reducible refine ops_id ?_)); refine walk ?_; (repeat' (first | exact trivial | with_reducible refine And.intro ?_ ?_)); all_goals (repeat (first | (with_reducible refine ImpB.mk fun hb => ?_) | (with_reducible refine ImpK.mk fun hK => ?_) | (with_reducible refine ImpF.mk fun hF => ?_) | (with_reducible refine ImpQ.mk fun hp => ?_) | (with_reducible refine AllE.mk fun p => ?_) | (with_reducible refine AllR.mk fun rest => ?_) | (with_reducible refine AllK.mk fun K => ?_))))); repeat' (with_reducible refine And.intro ?_ ?_))
                any_goals first | exact Int.natCast_nonneg _ | exact hkl
                subst a1
                refine ⟨k + 1, ⟨(by omega : k + 1 ≤ l.length), (by omega : l.length - (k + 1) < l.length - k)⟩, ?_⟩
                dsimp only
                rw [hS0, hL0, hU0, hpv]
                (focus (refine ⟨_, _, Gh.refl, [0, 1, 2], rfl, ?_⟩; (refine fitq ?_ ?_ ?_ <;> try exact trivial); (try any_goals (refine ⟨?_, ?_⟩)); (try any_goals (with_reducible rfl))))
                all_goals (repeat' (first | (refine And.intro ?_ ?_) | rfl))
          · have d5 : decide ((1 : Int) = L) = false := decide_eq_false a1
            by_cases a2 : (1 : Int) < n
            · have d6 : decide (n ≤ (1 : Int)) = false := decide_eq_false (by omega)
              have f1 : fdR n S L U (rsL lo hi v) = (false, S, 1, 1) := by rw [hx]; unfold fdR; rw [if_neg a1]; exact if_pos (.inl a2)
              rw [f1] at hS0 hL0 hU0
              dsimp only at hS0 hL0 hU0
              (have zx1 := @hkd; have zx2 := @hw; have zx3 := @hv; have zx4 := @hwv; have zx5 := @hwu; have zx6 := @hnw; have zx7 := @d3; have zx8 := @d4; have zx9 := @d5; have zx10 := @d6; all_goals (try ((first | (with_reducible refine wp_id ?_) | (with_reducible refine does_id ?_) | (with_reducible refine ops_id ?_)); refine walk ?_; (repeat' (first | exact trivial | with_reducible refine And.intro ?_ ?_)); all_goals (repeat (first | (with_reducible refine ImpB.mk fun hb => ?_) | (with_reducible refine ImpK.mk fun hK => ?_) | (with_reducible refine ImpF.mk fun hF => ?_) | (with_reducible refine ImpQ.mk fun hp => ?_) | (with_reducible refine AllE.mk fun p => ?_) | (with_reducible refine AllR.mk fun rest => ?_) | (with_reducible refine AllK.mk fun K => ?_))))); repeat' (with_reducible refine And.intro ?_ ?_))
              any_goals first | exact Int.natCast_nonneg _ | exact hkl
              refine ⟨k + 1, ⟨(by omega : k + 1 ≤ l.length), (by omega : l.length - (k + 1) < l.length - k)⟩, ?_⟩
              dsimp only
              rw [hS0, hL0, hU0, hpv]
              (focus (refine ⟨_, _, Gh.refl, [0, 1, 2], rfl, ?_⟩; (refine fitq ?_ ?_ ?_ <;> try exact trivial); (try any_goals (refine ⟨?_, ?_⟩)); (try any_goals (with_reducible rfl))))
              all_goals (repeat' (first | (refine And.intro ?_ ?_) | rfl))
            · have d6 : decide (n ≤ (1 : Int)) = true := decide_eq_true (by omega)
              by_cases a3 : S = 1
              · have d7 : decide (¬ (1 : Int) = S) = false := decide_eq_false (by omega)
                have f1 : fdR n S L U (rsL lo hi v) = (false, S, 1, 1) := by rw [hx]; unfold fdR; rw [if_neg a1]; exact if_pos (.inr a3)
                rw [f1] at hS0 hL0 hU0
                dsimp only at hS0 hL0 hU0
                (have zx1 := @hkd; have zx2 := @hw; have zx3 := @hv; have zx4 := @hwv; have zx5 := @hwu; have zx6 := @hnw; have zx7 := @d3; have zx8 := @d4; have zx9 := @d5; have zx10 := @d6; have zx11 := @d7; all_goals (try ((first | (with_reducible refine wp_id ?_) | (with_reducible refine does_id ?_) | (with_reducible refine ops_id ?_)); refine walk ?_; (repeat' (first | exact trivial | with_reducible refine And.intro ?_ ?_)); all_goals (repeat (first | (with_reducible refine ImpB.mk fun hb => ?_) | (with_reducible refine ImpK.mk fun hK => ?_) | (with_reducible refine ImpF.mk fun hF => ?_) | (with_reducible refine ImpQ.mk fun hp => ?_) | (with_reducible refine AllE.mk fun p => ?_) | (with_reducible refine AllR.mk fun rest => ?_) | (with_reducible refine AllK.mk fun K => ?_))))); repeat' (with_reducible refine And.intro ?_ ?_))
                any_goals first | exact Int.natCast_nonneg _ | exact hkl
                refine ⟨k + 1, ⟨(by omega : k + 1 ≤ l.length), (by omega : l.length - (k + 1) < l.length - k)⟩, ?_⟩
                dsimp only
                rw [hS0, hL0, hU0, hpv]
                (focus (refine ⟨_, _, Gh.refl, [0, 1, 2], rfl, ?_⟩; (refine fitq ?_ ?_ ?_ <;> try exact trivial); (try any_goals (refine ⟨?_, ?_⟩)); (try any_goals (with_reducible rfl))))
                all_goals (repeat' (first | (refine And.intro ?_ ?_) | rfl))
              · have d7 : decide (¬ (1 : Int) = S) = true := decide_eq_true (by omega)
                have f1 : fdR n S L U (rsL lo hi v) = (true, 1, 1, 1) := by rw [hx]; unfold fdR; rw [if_neg a1]; exact if_neg (by omega)
                have hT : (!(decide ((([⟨rpN (k + 1), 1, S, 1, v⟩] : List Tra).getD 0 Tra.zero).time = (k : Int)) && (decide ((([⟨rpN (k + 1), 1, S, 1, v⟩] : List Tra).getD 0 Tra.zero).mon = 1) && (decide ((([⟨rpN (k + 1), 1, S, 1, v⟩] : List Tra).getD 0 Tra.zero).fr = S) && (decide ((([⟨rpN (k + 1), 1, S, 1, v⟩] : List Tra).getD 0 Tra.zero).tt = 1) && (decide ((([⟨rpN (k + 1), 1, S, 1, v⟩] : List Tra).getD 0 Tra.zero).val = v) && true)))))) = false := by
                  show (!(decide (rpN (k + 1) = (k : Int)) && (decide ((1 : Int) = 1) && (decide (S = S) && (decide ((1 : Int) = 1) && (decide (v = v) && true)))))) = false
                  simp [hnv.symm]
                rw [f1] at hS0 hL0 hU0
                dsimp only at hS0 hL0 hU0
                (have zx1 := @hkd; have zx2 := @hw; have zx3 := @hv; have zx4 := @hwv; have zx5 := @hwu; have zx6 := @hnw; have zx7 := @d3; have zx8 := @d4; have zx9 := @d5; have zx10 := @d6; have zx11 := @d7; have zx12 := @hT; all_goals (try ((first | (with_reducible refine wp_id ?_) | (with_reducible refine does_id ?_) | (with_reducible refine ops_id ?_)); refine walk ?_; (repeat' (first | exact trivial | with_reducible refine And.intro ?_ ?_)); all_goals (repeat (first | (with_reducible refine ImpB.mk fun hb => ?_) | (with_reducible refine ImpK.mk fun hK => ?_) | (with_reducible refine ImpF.mk fun hF => ?_) | (with_reducible refine ImpQ.mk fun hp => ?_) | (with_reducible refine AllE.mk fun p => ?_) | (with_reducible refine AllR.mk fun rest => ?_) | (with_reducible refine AllK.mk fun K => ?_))))); repeat' (with_reducible refine And.intro ?_ ?_))
                any_goals first | exact Int.natCast_nonneg _ | exact hkl
                refine ⟨k + 1, ⟨(by omega : k + 1 ≤ l.length), (by omega : l.length - (k + 1) < l.length - k)⟩, ?_⟩
                dsimp only
                rw [hS0, hL0, hU0, hpv]
                (focus (refine ⟨_, _, Gh.refl, [0, 1, 2], rfl, ?_⟩; (refine fitq ?_ ?_ ?_ <;> try exact trivial); (try any_goals (refine ⟨?_, ?_⟩)); (try any_goals (with_reducible rfl))))
                all_goals (repeat' (first | (refine And.intro ?_ ?_) | rfl))
    · obtain rfl : k = l.length := by omega
      have hkd : decide ((l.length : Int) < (l.length : Int)) = false := decide_eq_false (by omega)
      (have zx1 := @hkd; all_goals (try ((first | (with_reducible refine wp_id ?_) | (with_reducible refine does_id ?_) | (with_reducible refine ops_id ?_)); refine walk ?_; (repeat' (first | exact trivial | with_reducible refine And.intro ?_ ?_)); all_goals (repeat (first | (with_reducible refine ImpB.mk fun hb => ?_) | (with_reducible refine ImpK.mk fun hK => ?_) | (with_reducible refine ImpF.mk fun hF => ?_) | (with_reducible refine ImpQ.mk fun hp => ?_) | (with_reducible refine AllE.mk fun p => ?_) | (with_reducible refine AllR.mk fun rest => ?_) | (with_reducible refine AllK.mk fun K => ?_))))); repeat' (with_reducible refine And.intro ?_ ?_))
      (focus (refine ⟨_, _, Gh.refl, [], rfl, ?_⟩; (refine fitq ?_ ?_ ?_ <;> try exact trivial); (try any_goals (refine ⟨?_, ?_⟩)); (try any_goals (with_reducible rfl))))
      all_goals (repeat' (first | (refine And.intro ?_ ?_) | rfl))
end Go.V

namespace Go.V
/-- all that lies in the memory at the start lies for good -/
def oldR (w : World) : RO := fun b => w.heap[b]?
theorem old_ok (w : World) : HOk (oldR w) [] [] w := ⟨trivial, by simp [ownH], fun b hb => by simp [ownH] at hb, fun _ _ h => h⟩
theorem cell_of {w : World} {a : Addr} {v : Value} (h : w.cell? a = some v) : a.spot = none ∧ ∃ arr ty fr, w.heap[a.block]? = some (.cells arr ty fr) ∧ arr[a.off]? = some v := by
  unfold World.cell? at h
  split at h
  · rename_i c ty fr hc
    split at h
    · simp at h
    · rename_i hs
      exact ⟨by simpa using hs, c, ty, fr, hc, h⟩
  · simp at h
theorem add_block (a : Addr) (i : Nat) : (a.add i).block = a.block := by
  unfold Addr.add
  split <;> rfl
theorem add_off (a : Addr) (i : Nat) : (a.add i).off = a.off + i := by
  unfold Addr.add
  split
  · simp_all
  · rfl
/-- some cells in a row -/
theorem cells_of {w : World} {base : Nat} {a : Addr} {n : Nat} {cs : List Value} (h : w.cells? base a n = some cs) (hn : 0 < n) : a.spot = none ∧ ∃ arr ty fr, w.heap[a.block]? = some (.cells arr ty fr) ∧ (arr.toList.drop a.off).take n = cs := by
  obtain ⟨_, hl, hg⟩ := World.cells?_some h
  have h0 := hg 0 hn
  rw [List.getElem?_eq_getElem (by omega)] at h0
  obtain ⟨hs, arr, ty, fr, hb, _⟩ := cell_of h0
  rw [add_block] at hb
  refine ⟨by simpa [Addr.add] using hs, arr, ty, fr, hb, ?_⟩
  apply List.ext_getElem?
  intro i
  by_cases hi : i < n
  · have h1 := hg i hi
    rw [List.getElem?_eq_getElem (show i < cs.length by omega)] at h1
    obtain ⟨_, arr', ty', fr', hb', h2⟩ := cell_of h1
    rw [add_block, hb] at hb'
    cases hb'
    rw [add_off] at h2
    rw [List.getElem?_take_of_lt hi, List.getElem?_drop, List.getElem?_eq_getElem (show i < cs.length by omega)]
    simpa using h2
  · rw [List.getElem?_eq_none (by simp; omega), List.getElem?_eq_none (by omega)]
/-- a type: what reads as data of it lies as one of these lists of abstract values -/
def Opens (P : Program) (w : World) (t : TypeId) (S : List AV → Prop) : Prop :=
  ∀ (H : Type) (enc : TypeId × Value → H) (base : Nat) (spare : Nat → Bool) (held : Bool) (fuel : Nat) (cs : List Value) (x : DataW H × List MemPlace), DataW.trod enc P w base spare held fuel t cs = some x → ∃ l, S l ∧ LRel (oldR w) [] l cs
section
variable {P : Program} {w : World}
theorem Opens.mono {t : TypeId} {S S' : List AV → Prop} (h : Opens P w t S) (hs : ∀ l, S l → S' l) : Opens P w t S' := fun H enc base spare held fuel cs x hx => by
  obtain ⟨l, h1, h2⟩ := h H enc base spare held fuel cs x hx
  exact ⟨l, hs l h1, h2⟩
theorem Opens.int {t : TypeId} {k : IntKind} (ht : P.underlying t = some (.int k)) : Opens P w t fun l => ∃ n, k.has n ∧ l = [.int k n] := fun H enc base spare held fuel cs x hx => by
  cases fuel with
  | zero => simp [DataW.trod] at hx
  | succ fuel =>
    unfold DataW.trod at hx
    simp only [ht] at hx
    split at hx
    all_goals first | (rename_i h1 _; cases h1; done) | skip
    all_goals simp_all
    rename_i k' n h1
    subst h1
    obtain ⟨⟨rfl, h2⟩, _⟩ := hx
    exact ⟨_, ⟨n, by simpa [Lit.wf, IntKind.has] using h2, rfl⟩, .cons .int .nil⟩
def OpL (P : Program) (w : World) : List Field → List (List AV → Prop) → Prop
  | [], [] => True
  | f :: fs, S :: Ss => Opens P w f.type S ∧ OpL P w fs Ss
  | _, _ => False
theorem OpL.len : ∀ {fs : List Field} {Ss : List (List AV → Prop)}, OpL P w fs Ss → fs.length = Ss.length
  | [], [], _ => rfl
  | _ :: _, _ :: _, h => by simp [OpL.len h.2]
  | [], _ :: _, h => h.elim
  | _ :: _, [], h => h.elim
theorem OpL.get : ∀ {fs : List Field} {Ss : List (List AV → Prop)} (i : Nat) {f : Field} {S : List AV → Prop}, OpL P w fs Ss → fs[i]? = some f → Ss[i]? = some S → Opens P w f.type S
  | _ :: _, _ :: _, 0, _, _, h, e1, e2 => by simp at e1 e2; subst e1; subst e2; exact h.1
  | _ :: _, _ :: _, i + 1, _, _, h, e1, e2 => OpL.get i h.2 (by simpa using e1) (by simpa using e2)
  | [], [], _, _, _, _, e1, _ => by simp at e1
  | [], _ :: _, _, _, _, h, _, _ => h.elim
  | _ :: _, [], _, _, _, h, _, _ => h.elim
/-- slices: of the kind of elements e, each as `ok` says -/
theorem Opens.slice {t te : TypeId} {e : Ety} {S : List AV → Prop} {ok : e.T → Prop} (ht : P.underlying t = some (.slice te)) (hsz : P.cellsOf te = e.sz) (he : Opens P w te S) (hok : ∀ l, S l → ∃ x : e.T, e.enc x = l ∧ ok x) :
    Opens P w t fun l => ∃ xs : List e.T, xs.length ≤ maxLen ∧ (∀ x ∈ xs, ok x) ∧ l = [.ro e xs] := fun H enc base spare held fuel cs x hx => by
  rcases DataW.trod_slice ht hx with ⟨rfl, _⟩ | ⟨a, len, cap, elems, rest, n, _, rfl, _, _, hlc, hcm, hel, hg, _⟩
  · exact ⟨[.ro e []], ⟨[], by simp, by simp, rfl⟩, .cons (.ro0 (Nat.zero_le _)) .nil⟩
  · by_cases h0 : len = 0
    · subst h0
      exact ⟨[.ro e []], ⟨[], by simp, by simp, rfl⟩, .cons (.ro0 hcm) .nil⟩
    · have hz := e.sz_pos
      have each : ∀ i, i < len → ∃ (m : e.T) (cs' : List Value), ok m ∧ LRel (oldR w) [] (e.enc m) cs' ∧ w.cells? base (a.add (i * e.sz)) e.sz = some cs' := by
        intro i hi
        have h1 := hg i hi
        rw [List.getElem?_eq_getElem (by omega), hsz] at h1
        obtain ⟨cs', h2, h3⟩ := Option.bind_eq_some_iff.1 h1
        obtain ⟨l, h4, h5⟩ := he H enc base spare held n _ _ h3
        obtain ⟨m, rfl, h6⟩ := hok l h4
        exact ⟨m, cs', h6, h5, h2⟩
      obtain ⟨_, _, _, _, hc0⟩ := each 0 (by omega)
      obtain ⟨hs, arr, ty, fr, hb, _⟩ := cells_of hc0 hz
      have hs0 : a.spot = none := by
        rw [Nat.zero_mul] at hs
        simpa [Addr.add] using hs
      rw [add_block] at hb
      have key : ∀ k, k ≤ len → ∃ xs : List e.T, xs.length = k ∧ (∀ x ∈ xs, ok x) ∧ LRel (oldR w) [] (xs.flatMap e.enc) ((arr.toList.drop a.off).take (k * e.sz)) := by
        intro k
        induction k with
        | zero => intro _; exact ⟨[], rfl, by simp, by simp; exact .nil⟩
        | succ k ih =>
          intro hk
          obtain ⟨xs, h1, h2, h3⟩ := ih (by omega)
          obtain ⟨m, cs', h4, h5, h6⟩ := each k (by omega)
          obtain ⟨_, arr', ty', fr', hb', h7⟩ := cells_of h6 hz
          rw [add_block, hb] at hb'
          cases hb'
          rw [add_off] at h7
          refine ⟨xs ++ [m], by simp [h1], fun x hx => ?_, ?_⟩
          · rcases List.mem_append.1 hx with hx | hx
            · exact h2 x hx
            · rw [List.mem_singleton] at hx
              subst hx
              exact h4
          · rw [List.flatMap_append, List.flatMap_singleton, Nat.succ_mul, List.take_add, List.drop_drop, h7]
            exact h3.app h5
      obtain ⟨xs, h1, h2, h3⟩ := key len (Nat.le_refl _)
      refine ⟨[.ro e xs], ⟨xs, by omega, h2, rfl⟩, .cons ?_ .nil⟩
      obtain ⟨ab, ao, sp⟩ := a
      simp only at hs0
      subst hs0
      rw [← h1]
      exact .ro hb (by rw [h1]; exact h3) (by omega) hcm
/-! ### Arguments -/
def OpensV (P : Program) (w : World) (t : TypeId) (S : AV → Prop) : Prop :=
  ∀ (H : Type) (enc : TypeId × Value → H) (r : Reach) (b0 : Nat) (v : Value) (d : DataW H) (p : List MemPlace), Value.okWide P w r b0 t v → DataW.Trod enc P w 0 (fun _ => true) true t v d p → ∃ a, S a ∧ Rel (oldR w) [] a v
theorem Opens.arg1 {t : TypeId} {S : List AV → Prop} (h : Opens P w t S) (ht : ∀ v r b0, Value.okWide P w r b0 t v → v.cells = #[v]) : OpensV P w t fun a => S [a] := fun H enc r b0 v d p hv hd => by
  obtain ⟨fuel, hd⟩ := hd
  obtain ⟨l, h1, h2⟩ := h H enc _ _ _ fuel _ _ hd
  rw [ht v r b0 hv] at h2
  cases h2 with
  | cons h3 h4 =>
    cases h4
    exact ⟨_, h1, h3⟩
theorem one_of {t : TypeId} {u : TypeDesc} (ht : P.underlying t = some u) (hu : (match u with | .bool | .int _ | .string | .slice _ => true | _ => false) = true) (v : Value) (r : Reach) (b0 : Nat) (hv : Value.okWide P w r b0 t v) : v.cells = #[v] := by
  unfold Value.okWide at hv
  cases u <;> simp at hu <;> simp only [ht] at hv <;> unfold Cell.okWide Cell.ok at hv <;> simp only [ht] at hv <;> cases v <;> first | rfl | (simp at hv; done)
end
/-- a call over nothing but what lies for good leaves what lay there as it is -/
theorem does_calls {P : Program} {g : FuncId} {xs : List AV} {S : AV → Prop} {vs : List Value} {w : World} (H : Does P g xs [] fun a _ => S a) (hr : LRel (oldR w) [] xs vs) : Calls P g vs.toArray w fun e w' => (∃ v a R μ, e = .returned v ∧ S a ∧ Rel R μ a v) ∧ Go.RowKit.Below w.heap.size w w' :=
  (H.run (oldR w) [] w vs hr (old_ok w)).mono fun e w' hx => by
    obtain ⟨v, R', μ', h', av, rfl, h1, h2, _, _, h3⟩ := hx
    exact ⟨⟨v, av, R', μ', rfl, h1, h2⟩, h3.os, h3.tape, h3.output, h3.size, fun k hk => h3.out k hk (by simp [ownH])⟩
theorem does_true {P : Program} {g : FuncId} {xs : List AV} {vs : List Value} {w : World} (H : Does P g xs [] fun a _ => a = .bool true) (hr : LRel (oldR w) [] xs vs) : Calls P g vs.toArray w fun e w' => e = .returned (.bool true) ∧ Go.RowKit.Below w.heap.size w w' :=
  (does_calls H hr).mono fun e w' hx => by
    obtain ⟨⟨v, a, R, μ, rfl, rfl, h2⟩, hb⟩ := hx
    cases h2
    exact ⟨rfl, hb⟩
end Go.V

set_option maxRecDepth 100000
namespace Go.V
open Go.Proofs
theorem byte_enc {n : Int} (h : IntKind.u8.has n) : Ety.enc .byte (UInt8.ofNat n.toNat) = [.int .u8 n] := by
  have h1 : 0 ≤ n ∧ n ≤ 255 := h
  have : ((UInt8.ofNat n.toNat).toNat : Int) = n := by simp; omega
  show [AV.int .u8 ((UInt8.ofNat n.toNat).toNat : Int)] = _
  rw [this]
theorem op_T22 (w : World) : Opens Try.prog w 22 fun l => ∃ n, IntKind.i16.has n ∧ l = [.int .i16 n] := Opens.int Try.underlying22
theorem arg_T22 (w : World) : OpensV Try.prog w 22 fun a => ∃ n, IntKind.i16.has n ∧ a = .int .i16 n := fun H enc r b0 v d p hv hd => by
  obtain ⟨a, ⟨n, h1, e⟩, h⟩ := (op_T22 w).arg1 (one_of Try.underlying22 rfl) H enc r b0 v d p hv hd
  cases e
  exact ⟨_, ⟨n, h1, rfl⟩, h⟩
theorem op_T5 (w : World) : Opens Try.prog w 5 fun l => ∃ n, IntKind.u8.has n ∧ l = [.int .u8 n] := Opens.int Try.underlying5
theorem arg_T5 (w : World) : OpensV Try.prog w 5 fun a => ∃ n, IntKind.u8.has n ∧ a = .int .u8 n := fun H enc r b0 v d p hv hd => by
  obtain ⟨a, ⟨n, h1, e⟩, h⟩ := (op_T5 w).arg1 (one_of Try.underlying5 rfl) H enc r b0 v d p hv hd
  cases e
  exact ⟨_, ⟨n, h1, rfl⟩, h⟩
def okE_i16 (x : Ety.T .i16) : Prop := IntKind.i16.has x
theorem op_T23 (w : World) : Opens Try.prog w 23 fun l => ∃ xs : List (Ety.T .i16), xs.length ≤ maxLen ∧ (∀ x ∈ xs, okE_i16 x) ∧ l = [.ro .i16 xs] :=
  Opens.slice (e := .i16) (ok := okE_i16) Try.underlying23 (by kernel_rfl) (op_T22 w) fun l ⟨n, h, e⟩ => ⟨n, e.symm, h⟩
theorem arg_T23 (w : World) : OpensV Try.prog w 23 fun a => ∃ xs : List (Ety.T .i16), xs.length ≤ maxLen ∧ (∀ x ∈ xs, okE_i16 x) ∧ a = .ro .i16 xs := fun H enc r b0 v d p hv hd => by
  obtain ⟨a, ⟨n, h1, h2, e⟩, h⟩ := (op_T23 w).arg1 (one_of Try.underlying23 rfl) H enc r b0 v d p hv hd
  cases e
  exact ⟨_, ⟨n, h1, h2, rfl⟩, h⟩
/-- a law that was walked -/
theorem law_true {g : FuncId} {la : List AV} {vs : List Value} {w : World} (H : DoesK Try.prog 0 g la [] (EndF 0 (.bool true) [])) (hb : brL [] [] la la) (hr : LRel (oldR w) [] la vs) : Calls Try.prog g vs.toArray w fun e w' => e = .returned (.bool true) ∧ Go.RowKit.Below w.heap.size w w' :=
  does_true (frame_pure H hb (.inr rfl) (fun _ => rfl) rfl) hr
end Go.V
