/-
  The reference's link: lost.
  The reference's link: Receive, Same.
  The reference's link: Send.
-/
import Derived.Test.YtnlndokgejiafaaPart15
set_option linter.unusedVariables false
set_option linter.unusedSimpArgs false
set_option maxRecDepth 100000
set_option maxHeartbeats 8000000
namespace Go.V
open Go.Proofs
theorem b_lost (dl now sent : Int) (out : List Rng) (lost : List Int) (flips : List Flp) (L : List Arr) (h1 : out.length ≤ 1000000) (h2 : lost.length ≤ 1000000) : DoesK Try.prog 0 35 [.agg [.int .i64 dl, .ro .rng out, .ro .int lost, .ro .flp flips, .int .i64 now, .int .i64 sent, .ro .arr L]] [] (EndF 0 (.bool (lostB ⟨dl, out, lost, flips⟩ now sent)) []) := by
  refine DoesK.close ?_
  unfold lostB
  dsimp only
  refine w_body (rs := [.tmp 2]) (tm := [.agg [.int .i64 dl, .ro .rng out, .ro .int lost, .ro .flp flips, .int .i64 now, .int .i64 sent, .ro .arr L], .any, .any, .any, .any, .any, .any, .any, .any, .any, .any, .any, .any, .any, .any, .any, .any, .any, .any, .any, .any, .any, .any, .any, .any, .any, .any, .any, .any, .any, .any, .any, .any, .any, .any, .any, .any, .any, .any, .any, .any, .any, .any, .any, .any, .any, .any, .any, .any, .any, .any, .any]) fn_35 rfl rfl rfl rfl fun R hR => ?_
  (all_goals (try ((first | (with_reducible refine wp_id ?_) | (with_reducible refine does_id ?_) | (with_reducible refine ops_id ?_)); refine walk ?_; (repeat' (first | exact trivial | with_reducible refine And.intro ?_ ?_)); all_goals (repeat (first | (with_reducible refine ImpB.mk fun hb => ?_) | (with_reducible refine ImpK.mk fun hK => ?_) | (with_reducible refine ImpF.mk fun hF => ?_) | (with_reducible refine ImpQ.mk fun hp => ?_) | (with_reducible refine AllE.mk fun p => ?_) | (with_reducible refine AllR.mk fun rest => ?_) | (with_reducible refine AllK.mk fun K => ?_))))); repeat' (with_reducible refine And.intro ?_ ?_))
  any_goals ((try (refine w_seq fun K hK => ?_)); (try (refine w_block ?_)); refine w_loop (A := Nat) (fun k => k ≤ out.length ∧ ∀ i, i < k → ¬ ((out.getD i Rng.zero).from_ ≤ now ∧ now < (out.getD i Rng.zero).to_)) (fun k => out.length - k) (fun k => [(3, .int .i64 k)]) (fun _ => []) (0) (ws := ?ws1) (tk := ?tk1) ?hw1 ?ht1 ?hi ?h0 ?LH1; (case hw1 => simp only [go_sem, decide_true, decide_false, Int.reduceToNat, Nat.min_eq_left, Nat.min_eq_right, Int.reducePow, Nat.reducePow, Int.reduceLE, Int.reduceLT, Int.reduceMul, Int.reduceAdd, Int.reduceSub, Int.reduceNeg, Bool.not_true, Bool.not_false, Bool.not_not, ↓reduceIte, Nat.reduceAdd, Nat.reduceSub, Nat.reduceMul, Nat.reduceEqDiff, reduceCtorEq, Nat.reduceLT, Nat.reduceLeDiff, Nat.reduceGT]; exact rfl); (case ht1 => simp only [go_sem, decide_true, decide_false, Int.reduceToNat, Nat.min_eq_left, Nat.min_eq_right, Int.reducePow, Nat.reducePow, Int.reduceLE, Int.reduceLT, Int.reduceMul, Int.reduceAdd, Int.reduceSub, Int.reduceNeg, Bool.not_true, Bool.not_false, Bool.not_not, ↓reduceIte, Nat.reduceAdd, Nat.reduceSub, Nat.reduceMul, Nat.reduceEqDiff, reduceCtorEq, Nat.reduceLT, Nat.reduceLeDiff, Nat.reduceGT]; exact rfl); (case' LH1 => rintro k E t hx hE ht; simp only [go_sem] at ht; subst ht; simp only [go_sem]; try dsimp only at hx))
  case hi => exact ⟨Nat.zero_le _, fun i hi => absurd hi (by omega)⟩
  case h0 => (focus (refine ⟨_, _, Gh.refl, [0], rfl, ?_⟩; (refine ⟨?_, ?_, ?_⟩ <;> simp only [go_sem, List.range, List.range.loop, List.nodup_cons, List.nodup_nil, List.mem_cons, List.not_mem_nil, or_false, or_self, decide_true, decide_false, Int.reduceToNat, Nat.min_eq_left, Nat.min_eq_right, Int.reducePow, Nat.reducePow, Int.reduceLE, Int.reduceLT, Int.reduceMul, Int.reduceAdd, Int.reduceSub, Int.reduceNeg, Bool.not_true, Bool.not_false, Bool.not_not, ↓reduceIte, Nat.reduceAdd, Nat.reduceSub, Nat.reduceMul, Nat.reduceEqDiff, reduceCtorEq, Nat.reduceLT, Nat.reduceLeDiff, Nat.reduceGT]); (try any_goals (refine ⟨?_, ?_⟩)); (try any_goals (with_reducible rfl))))
  case LH1 =>
    obtain ⟨hk0, hno⟩ := hx
    have hw : IntKind.i64.wrap ((k : Int) + 1) = ((k + 1 : Nat) : Int) := by rw [wrap_i64 _ (by omega) (by omega)]; omega
    by_cases hk : k < out.length
    · have hkd : decide ((k : Int) < out.length) = true := decide_eq_true (by omega)
      by_cases c1 : (out.getD k Rng.zero).from_ ≤ now
      · have d1 : decide ((out.getD k Rng.zero).from_ ≤ now) = true := decide_eq_true c1
        by_cases c2 : now < (out.getD k Rng.zero).to_
        · have d2 : decide (now < (out.getD k Rng.zero).to_) = true := decide_eq_true c2
          have hh : hasB out now = true := List.any_eq_true.2 ⟨_, getM (z := Rng.zero) hk, by rw [d1, d2]; rfl⟩
          (have zx1 := @hkd; have zx2 := @hw; have zx3 := @d1; have zx4 := @d2; all_goals (try ((first | (with_reducible refine wp_id ?_) | (with_reducible refine does_id ?_) | (with_reducible refine ops_id ?_)); refine walk ?_; (repeat' (first | exact trivial | with_reducible refine And.intro ?_ ?_)); all_goals (repeat (first | (with_reducible refine ImpB.mk fun hb => ?_) | (with_reducible refine ImpK.mk fun hK => ?_) | (with_reducible refine ImpF.mk fun hF => ?_) | (with_reducible refine ImpQ.mk fun hp => ?_) | (with_reducible refine AllE.mk fun p => ?_) | (with_reducible refine AllR.mk fun rest => ?_) | (with_reducible refine AllK.mk fun K => ?_))))); repeat' (with_reducible refine And.intro ?_ ?_))
          all_goals first | exact Int.natCast_nonneg _ | omega | skip
          rw [hh, Bool.true_or]
          (focus (refine ⟨_, _, Gh.refl, [], rfl, ?_⟩; (refine ⟨?_, ?_, ?_⟩ <;> simp only [go_sem, List.range, List.range.loop, List.nodup_cons, List.nodup_nil, List.mem_cons, List.not_mem_nil, or_false, or_self, decide_true, decide_false, Int.reduceToNat, Nat.min_eq_left, Nat.min_eq_right, Int.reducePow, Nat.reducePow, Int.reduceLE, Int.reduceLT, Int.reduceMul, Int.reduceAdd, Int.reduceSub, Int.reduceNeg, Bool.not_true, Bool.not_false, Bool.not_not, ↓reduceIte, Nat.reduceAdd, Nat.reduceSub, Nat.reduceMul, Nat.reduceEqDiff, reduceCtorEq, Nat.reduceLT, Nat.reduceLeDiff, Nat.reduceGT]); (try any_goals (refine ⟨?_, ?_⟩)); (try any_goals (with_reducible rfl))))
        · have d2 : decide (now < (out.getD k Rng.zero).to_) = false := decide_eq_false c2
          (have zx1 := @hkd; have zx2 := @hw; have zx3 := @d1; have zx4 := @d2; all_goals (try ((first | (with_reducible refine wp_id ?_) | (with_reducible refine does_id ?_) | (with_reducible refine ops_id ?_)); refine walk ?_; (repeat' (first | exact trivial | with_reducible refine And.intro ?_ ?_)); all_goals (repeat (first | (with_reducible refine ImpB.mk fun hb => ?_) | (with_reducible refine ImpK.mk fun hK => ?_) | (with_reducible refine ImpF.mk fun hF => ?_) | (with_reducible refine ImpQ.mk fun hp => ?_) | (with_reducible refine AllE.mk fun p => ?_) | (with_reducible refine AllR.mk fun rest => ?_) | (with_reducible refine AllK.mk fun K => ?_))))); repeat' (with_reducible refine And.intro ?_ ?_))
          all_goals first | exact Int.natCast_nonneg _ | omega | skip
          refine ⟨k + 1, ⟨⟨by first | omega | (dsimp only; omega), fun i hi => ?_⟩, by first | omega | (dsimp only; omega)⟩, ?_⟩
          · by_cases e : i = k
            · rw [e]; exact fun q => c2 q.2
            · exact hno i (by omega)
          (focus (refine ⟨_, _, Gh.refl, [0], rfl, ?_⟩; (refine ⟨?_, ?_, ?_⟩ <;> simp only [go_sem, List.range, List.range.loop, List.nodup_cons, List.nodup_nil, List.mem_cons, List.not_mem_nil, or_false, or_self, decide_true, decide_false, Int.reduceToNat, Nat.min_eq_left, Nat.min_eq_right, Int.reducePow, Nat.reducePow, Int.reduceLE, Int.reduceLT, Int.reduceMul, Int.reduceAdd, Int.reduceSub, Int.reduceNeg, Bool.not_true, Bool.not_false, Bool.not_not, ↓reduceIte, Nat.reduceAdd, Nat.reduceSub, Nat.reduceMul, Nat.reduceEqDiff, reduceCtorEq, Nat.reduceLT, Nat.reduceLeDiff, Nat.reduceGT]); (try any_goals (refine ⟨?_, ?_⟩)); (try any_goals (with_reducible rfl))))
      · have d1 : decide ((out.getD k Rng.zero).from_ ≤ now) = false := decide_eq_false c1
        (have zx1 := @hkd; have zx2 := @hw; have zx3 := @d1; all_goals (try ((first | (with_reducible refine wp_id ?_) | (with_reducible refine does_id ?_) | (with_reducible refine ops_id ?_)); refine walk ?_; (repeat' (first | exact trivial | with_reducible refine And.intro ?_ ?_)); all_goals (repeat (first | (with_reducible refine ImpB.mk fun hb => ?_) | (with_reducible refine ImpK.mk fun hK => ?_) | (with_reducible refine ImpF.mk fun hF => ?_) | (with_reducible refine ImpQ.mk fun hp => ?_) | (with_reducible refine AllE.mk fun p => ?_) | (with_reducible refine AllR.mk fun rest => ?_) | (with_reducible refine AllK.mk fun K => ?_))))); repeat' (with_reducible refine And.intro ?_ ?_))
        all_goals first | exact Int.natCast_nonneg _ | omega | skip
        refine ⟨k + 1, ⟨⟨by first | omega | (dsimp only; omega), fun i hi => ?_⟩, by first | omega | (dsimp only; omega)⟩, ?_⟩
        · by_cases e : i = k
          · rw [e]; exact fun q => c1 q.1
          · exact hno i (by omega)
        (focus (refine ⟨_, _, Gh.refl, [0], rfl, ?_⟩; (refine ⟨?_, ?_, ?_⟩ <;> simp only [go_sem, List.range, List.range.loop, List.nodup_cons, List.nodup_nil, List.mem_cons, List.not_mem_nil, or_false, or_self, decide_true, decide_false, Int.reduceToNat, Nat.min_eq_left, Nat.min_eq_right, Int.reducePow, Nat.reducePow, Int.reduceLE, Int.reduceLT, Int.reduceMul, Int.reduceAdd, Int.reduceSub, Int.reduceNeg, Bool.not_true, Bool.not_false, Bool.not_not, ↓reduceIte, Nat.reduceAdd, Nat.reduceSub, Nat.reduceMul, Nat.reduceEqDiff, reduceCtorEq, Nat.reduceLT, Nat.reduceLeDiff, Nat.reduceGT]); (try any_goals (refine ⟨?_, ?_⟩)); (try any_goals (with_reducible rfl))))
    · have hkd : decide ((k : Int) < out.length) = false := decide_eq_false (by omega)
      have hh : hasB out now = false := List.any_eq_false.2 fun r hr => by
        obtain ⟨i, hi, rfl⟩ := List.getElem_of_mem hr
        have := hno i (by omega)
        rw [getEq hi] at this
        simpa using this
      (have zx1 := @hkd; all_goals (try ((first | (with_reducible refine wp_id ?_) | (with_reducible refine does_id ?_) | (with_reducible refine ops_id ?_)); refine walk ?_; (repeat' (first | exact trivial | with_reducible refine And.intro ?_ ?_)); all_goals (repeat (first | (with_reducible refine ImpB.mk fun hb => ?_) | (with_reducible refine ImpK.mk fun hK => ?_) | (with_reducible refine ImpF.mk fun hF => ?_) | (with_reducible refine ImpQ.mk fun hp => ?_) | (with_reducible refine AllE.mk fun p => ?_) | (with_reducible refine AllR.mk fun rest => ?_) | (with_reducible refine AllK.mk fun K => ?_))))); repeat' (with_reducible refine And.intro ?_ ?_))
      any_goals ((try (refine w_seq fun K hK => ?_)); (try (refine w_block ?_)); refine w_loop (A := Nat) (fun k => k ≤ lost.length ∧ ∀ i, i < k → ¬ lost.getD i 0 = sent) (fun k => lost.length - k) (fun k => [(4, .int .i64 k)]) (fun _ => []) (0) (ws := ?ws2) (tk := ?tk2) ?hw2 ?ht2 ?hi_1 ?h0_1 ?LH2; (case hw2 => simp only [go_sem, decide_true, decide_false, Int.reduceToNat, Nat.min_eq_left, Nat.min_eq_right, Int.reducePow, Nat.reducePow, Int.reduceLE, Int.reduceLT, Int.reduceMul, Int.reduceAdd, Int.reduceSub, Int.reduceNeg, Bool.not_true, Bool.not_false, Bool.not_not, ↓reduceIte, Nat.reduceAdd, Nat.reduceSub, Nat.reduceMul, Nat.reduceEqDiff, reduceCtorEq, Nat.reduceLT, Nat.reduceLeDiff, Nat.reduceGT]; exact rfl); (case ht2 => simp only [go_sem, decide_true, decide_false, Int.reduceToNat, Nat.min_eq_left, Nat.min_eq_right, Int.reducePow, Nat.reducePow, Int.reduceLE, Int.reduceLT, Int.reduceMul, Int.reduceAdd, Int.reduceSub, Int.reduceNeg, Bool.not_true, Bool.not_false, Bool.not_not, ↓reduceIte, Nat.reduceAdd, Nat.reduceSub, Nat.reduceMul, Nat.reduceEqDiff, reduceCtorEq, Nat.reduceLT, Nat.reduceLeDiff, Nat.reduceGT]; exact rfl); (case' LH2 => rintro k E t hx hE ht; simp only [go_sem] at ht; subst ht; simp only [go_sem]; try dsimp only at hx))
      case hi_1 => exact ⟨Nat.zero_le _, fun i hi => absurd hi (by omega)⟩
      case h0_1 => (focus (refine ⟨_, _, Gh.refl, [0], rfl, ?_⟩; (refine ⟨?_, ?_, ?_⟩ <;> simp only [go_sem, List.range, List.range.loop, List.nodup_cons, List.nodup_nil, List.mem_cons, List.not_mem_nil, or_false, or_self, decide_true, decide_false, Int.reduceToNat, Nat.min_eq_left, Nat.min_eq_right, Int.reducePow, Nat.reducePow, Int.reduceLE, Int.reduceLT, Int.reduceMul, Int.reduceAdd, Int.reduceSub, Int.reduceNeg, Bool.not_true, Bool.not_false, Bool.not_not, ↓reduceIte, Nat.reduceAdd, Nat.reduceSub, Nat.reduceMul, Nat.reduceEqDiff, reduceCtorEq, Nat.reduceLT, Nat.reduceLeDiff, Nat.reduceGT]); (try any_goals (refine ⟨?_, ?_⟩)); (try any_goals (with_reducible rfl))))
      case LH2 =>
        obtain ⟨hk0, hno2⟩ := hx
        have hw : IntKind.i64.wrap ((k : Int) + 1) = ((k + 1 : Nat) : Int) := by rw [wrap_i64 _ (by omega) (by omega)]; omega
        by_cases hk : k < lost.length
        · have hkd : decide ((k : Int) < lost.length) = true := decide_eq_true (by omega)
          by_cases c : lost.getD k 0 = sent
          · have d1 : decide (lost.getD k 0 = sent) = true := decide_eq_true c
            have hc : lost.contains sent = true := List.contains_iff_mem.2 (c ▸ getM (z := (0 : Int)) hk)
            (have zx1 := @hkd; have zx2 := @hw; have zx3 := @d1; all_goals (try ((first | (with_reducible refine wp_id ?_) | (with_reducible refine does_id ?_) | (with_reducible refine ops_id ?_)); refine walk ?_; (repeat' (first | exact trivial | with_reducible refine And.intro ?_ ?_)); all_goals (repeat (first | (with_reducible refine ImpB.mk fun hb => ?_) | (with_reducible refine ImpK.mk fun hK => ?_) | (with_reducible refine ImpF.mk fun hF => ?_) | (with_reducible refine ImpQ.mk fun hp => ?_) | (with_reducible refine AllE.mk fun p => ?_) | (with_reducible refine AllR.mk fun rest => ?_) | (with_reducible refine AllK.mk fun K => ?_))))); repeat' (with_reducible refine And.intro ?_ ?_))
            all_goals first | exact Int.natCast_nonneg _ | omega | skip
            rw [hc, Bool.or_true]
            (focus (refine ⟨_, _, Gh.refl, [], rfl, ?_⟩; (refine ⟨?_, ?_, ?_⟩ <;> simp only [go_sem, List.range, List.range.loop, List.nodup_cons, List.nodup_nil, List.mem_cons, List.not_mem_nil, or_false, or_self, decide_true, decide_false, Int.reduceToNat, Nat.min_eq_left, Nat.min_eq_right, Int.reducePow, Nat.reducePow, Int.reduceLE, Int.reduceLT, Int.reduceMul, Int.reduceAdd, Int.reduceSub, Int.reduceNeg, Bool.not_true, Bool.not_false, Bool.not_not, ↓reduceIte, Nat.reduceAdd, Nat.reduceSub, Nat.reduceMul, Nat.reduceEqDiff, reduceCtorEq, Nat.reduceLT, Nat.reduceLeDiff, Nat.reduceGT]); (try any_goals (refine ⟨?_, ?_⟩)); (try any_goals (with_reducible rfl))))
          · have d1 : decide (lost.getD k 0 = sent) = false := decide_eq_false c
            (have zx1 := @hkd; have zx2 := @hw; have zx3 := @d1; all_goals (try ((first | (with_reducible refine wp_id ?_) | (with_reducible refine does_id ?_) | (with_reducible refine ops_id ?_)); refine walk ?_; (repeat' (first | exact trivial | with_reducible refine And.intro ?_ ?_)); all_goals (repeat (first | (with_reducible refine ImpB.mk fun hb => ?_) | (with_reducible refine ImpK.mk fun hK => ?_) | (with_reducible refine ImpF.mk fun hF => ?_) | (with_reducible refine ImpQ.mk fun hp => ?_) | (with_reducible refine AllE.mk fun p => ?_) | (with_reducible refine AllR.mk fun rest => ?_) | (with_reducible refine AllK.mk fun K => ?_))))); repeat' (with_reducible refine And.intro ?_ ?_))
            all_goals first | exact Int.natCast_nonneg _ | omega | skip
            refine ⟨k + 1, ⟨⟨by first | omega | (dsimp only; omega), fun i hi => ?_⟩, by first | omega | (dsimp only; omega)⟩, ?_⟩
            · by_cases e : i = k
              · rw [e]; exact c
              · exact hno2 i (by omega)
            (focus (refine ⟨_, _, Gh.refl, [0], rfl, ?_⟩; (refine ⟨?_, ?_, ?_⟩ <;> simp only [go_sem, List.range, List.range.loop, List.nodup_cons, List.nodup_nil, List.mem_cons, List.not_mem_nil, or_false, or_self, decide_true, decide_false, Int.reduceToNat, Nat.min_eq_left, Nat.min_eq_right, Int.reducePow, Nat.reducePow, Int.reduceLE, Int.reduceLT, Int.reduceMul, Int.reduceAdd, Int.reduceSub, Int.reduceNeg, Bool.not_true, Bool.not_false, Bool.not_not, ↓reduceIte, Nat.reduceAdd, Nat.reduceSub, Nat.reduceMul, Nat.reduceEqDiff, reduceCtorEq, Nat.reduceLT, Nat.reduceLeDiff, Nat.reduceGT]); (try any_goals (refine ⟨?_, ?_⟩)); (try any_goals (with_reducible rfl))))
        · have hkd : decide ((k : Int) < lost.length) = false := decide_eq_false (by omega)
          have hc : lost.contains sent = false := by
            rw [Bool.eq_false_iff]
            intro q
            obtain ⟨i, hi, e⟩ := List.getElem_of_mem (List.contains_iff_mem.1 q)
            exact hno2 i (by omega) (by rw [getEq hi]; exact e)
          (have zx1 := @hkd; all_goals (try ((first | (with_reducible refine wp_id ?_) | (with_reducible refine does_id ?_) | (with_reducible refine ops_id ?_)); refine walk ?_; (repeat' (first | exact trivial | with_reducible refine And.intro ?_ ?_)); all_goals (repeat (first | (with_reducible refine ImpB.mk fun hb => ?_) | (with_reducible refine ImpK.mk fun hK => ?_) | (with_reducible refine ImpF.mk fun hF => ?_) | (with_reducible refine ImpQ.mk fun hp => ?_) | (with_reducible refine AllE.mk fun p => ?_) | (with_reducible refine AllR.mk fun rest => ?_) | (with_reducible refine AllK.mk fun K => ?_))))); repeat' (with_reducible refine And.intro ?_ ?_))
          rw [hh, hc]
          (focus (refine ⟨_, _, Gh.refl, [], rfl, ?_⟩; (refine ⟨?_, ?_, ?_⟩ <;> simp only [go_sem, List.range, List.range.loop, List.nodup_cons, List.nodup_nil, List.mem_cons, List.not_mem_nil, or_false, or_self, decide_true, decide_false, Int.reduceToNat, Nat.min_eq_left, Nat.min_eq_right, Int.reducePow, Nat.reducePow, Int.reduceLE, Int.reduceLT, Int.reduceMul, Int.reduceAdd, Int.reduceSub, Int.reduceNeg, Bool.not_true, Bool.not_false, Bool.not_not, ↓reduceIte, Nat.reduceAdd, Nat.reduceSub, Nat.reduceMul, Nat.reduceEqDiff, reduceCtorEq, Nat.reduceLT, Nat.reduceLeDiff, Nat.reduceGT]); (try any_goals (refine ⟨?_, ?_⟩)); (try any_goals (with_reducible rfl))))
          all_goals rfl
theorem c_lost {h : List Ch} {K : KT} {dl now sent : Int} {out : List Rng} {lost : List Int} {flips : List Flp} {L : List Arr} {a1 a2 a3 a4 : AV} (H : K (.bool (lostB ⟨dl, out, lost, flips⟩ now sent)) h) (q1 : isRO .rng out a1) (q2 : isRO .int lost a2) (q3 : isRO .flp flips a3) (q4 : isRO .arr L a4) (s1 : out.length ≤ 1000000) (s2 : lost.length ≤ 1000000) : Does Try.prog 35 [.agg [.int .i64 dl, a1, a2, a3, .int .i64 now, .int .i64 sent, a4]] h K :=
  frame_pure (b_lost dl now sent out lost flips L s1 s2) (br_cons (br_agg (br_cons br_int (br_cons q1.br (br_cons q2.br (br_cons q3.br (br_cons br_int (br_cons br_int (br_cons q4.br br_nil)))))))) br_nil) (.inl (by have t1 := q1.brT; have t2 := q2.brT; have t3 := q3.brT; have t4 := q4.brT; simp [brTL, brT] at t1 t2 t3 t4 ⊢; exact ⟨t1, t2, t3, t4⟩)) (fun _ => rfl) H
abbrev i_lost := Ctr.mk (i := 0) (g := 35) @c_lost
attribute [instance] i_lost
end Go.V

set_option maxRecDepth 100000
set_option maxHeartbeats 8000000
namespace Go.V
open Go.Proofs
def dueA (N : Int) (a : Arr) : Bool := decide (a.time ≤ N)
theorem tw_all {α : Type} {p : α → Bool} : ∀ {B C : List α}, B.all p = true → (∀ x, C.head? = some x → p x = false) → (B ++ C).takeWhile p = B ∧ (B ++ C).dropWhile p = C
  | [], [], _, _ => ⟨rfl, rfl⟩
  | [], x :: C, _, h => by
    have := h x rfl
    rw [List.nil_append, List.takeWhile_cons, List.dropWhile_cons, this]
    exact ⟨rfl, rfl⟩
  | b :: B, C, h, h2 => by
    rw [List.all_cons, Bool.and_eq_true] at h
    have := tw_all h.2 h2
    rw [List.cons_append, List.takeWhile_cons, List.dropWhile_cons, h.1, if_pos rfl, if_pos rfl, this.1, this.2]
    exact ⟨rfl, rfl⟩
theorem b_rrecv (dl now sent : Int) (out : List Rng) (lost : List Int) (flips : List Flp) (L : List Arr) (n : Int) (hL : L.length ≤ 1000000) : DoesK Try.prog 0 17 [.agg [.int .i64 dl, .ro .rng out, .ro .int lost, .ro .flp flips, .int .i64 now, .int .i64 sent, .ro .arr L], .int .i64 n] [] (EndF 0 (.tup [.agg [.int .i64 dl, .ro .rng out, .ro .int lost, .ro .flp flips, .int .i64 (atL now n), .int .i64 sent, .ro .arr (L.dropWhile (dueA (atL now n)))], .ro .bytes ((L.takeWhile (dueA (atL now n))).map Arr.data)]) []) := by
  refine DoesK.close ?_
  obtain ⟨N, hN⟩ : ∃ N, atL now n = N := ⟨_, rfl⟩
  rw [hN]
  refine w_body (rs := [.cell 4 49, .tmp 5]) (tm := [.agg [.int .i64 dl, .ro .rng out, .ro .int lost, .ro .flp flips, .int .i64 now, .int .i64 sent, .ro .arr L], .int .i64 n, .any, .any, .any, .any, .any, .any, .any, .any, .any, .any, .any, .any, .any, .any, .any, .any, .any, .any, .any, .any, .any, .any, .any, .any, .any, .any, .any, .any, .any, .any, .any, .any, .any, .any, .any, .any]) fn_17 rfl rfl rfl rfl fun R hR => ?_
  (have zx1 := @hN; all_goals (try ((first | (with_reducible refine wp_id ?_) | (with_reducible refine does_id ?_) | (with_reducible refine ops_id ?_)); refine walk ?_; (repeat' (first | exact trivial | with_reducible refine And.intro ?_ ?_)); all_goals (repeat (first | (with_reducible refine ImpB.mk fun hb => ?_) | (with_reducible refine ImpK.mk fun hK => ?_) | (with_reducible refine ImpF.mk fun hF => ?_) | (with_reducible refine ImpQ.mk fun hp => ?_) | (with_reducible refine AllE.mk fun p => ?_) | (with_reducible refine AllR.mk fun rest => ?_) | (with_reducible refine AllK.mk fun K => ?_))))); repeat' (with_reducible refine And.intro ?_ ?_))
  all_goals first | exact .inl rfl | omega | skip
  refine Wp.ghost (gh_adopt (s := 6) .bytes trivial) ?_
  simp only [go_sem, decide_true, decide_false, Int.reduceToNat, Nat.min_eq_left, Nat.min_eq_right, Int.reducePow, Nat.reducePow, Int.reduceLE, Int.reduceLT, Int.reduceMul, Int.reduceAdd, Int.reduceSub, Int.reduceNeg, Bool.not_true, Bool.not_false, Bool.not_not, ↓reduceIte, Nat.reduceAdd, Nat.reduceSub, Nat.reduceMul, Nat.reduceEqDiff, reduceCtorEq, Nat.reduceLT, Nat.reduceLeDiff, Nat.reduceGT]
  any_goals ((try (refine w_seq fun K hK => ?_)); (try (refine w_block ?_)); refine w_loop (A := List Arr × List Arr) (fun p => p.1 ++ p.2 = L ∧ p.1.all (dueA N) = true) (fun p => p.2.length) (fun p => [(6, .sl 2 .bytes 0 p.1.length)]) (fun p => [(0, .cells [.int .i64 dl, .ro .rng out, .ro .int lost, .ro .flp flips, .int .i64 N, .int .i64 sent, .ro .arr p.2]), (2, .rows .bytes (p.1.map Arr.data))]) (([], L)) (ws := ?ws1) (tk := ?tk1) ?hw1 ?ht1 ?hi ?h0 ?LH1; (case hw1 => simp only [go_sem, decide_true, decide_false, Int.reduceToNat, Nat.min_eq_left, Nat.min_eq_right, Int.reducePow, Nat.reducePow, Int.reduceLE, Int.reduceLT, Int.reduceMul, Int.reduceAdd, Int.reduceSub, Int.reduceNeg, Bool.not_true, Bool.not_false, Bool.not_not, ↓reduceIte, Nat.reduceAdd, Nat.reduceSub, Nat.reduceMul, Nat.reduceEqDiff, reduceCtorEq, Nat.reduceLT, Nat.reduceLeDiff, Nat.reduceGT]; exact rfl); (case ht1 => simp only [go_sem, decide_true, decide_false, Int.reduceToNat, Nat.min_eq_left, Nat.min_eq_right, Int.reducePow, Nat.reducePow, Int.reduceLE, Int.reduceLT, Int.reduceMul, Int.reduceAdd, Int.reduceSub, Int.reduceNeg, Bool.not_true, Bool.not_false, Bool.not_not, ↓reduceIte, Nat.reduceAdd, Nat.reduceSub, Nat.reduceMul, Nat.reduceEqDiff, reduceCtorEq, Nat.reduceLT, Nat.reduceLeDiff, Nat.reduceGT]; exact rfl); (case' LH1 => rintro ⟨B, C⟩ E t hx hE ht; simp only [go_sem] at ht; subst ht; simp only [go_sem]; try dsimp only at hx))
  case hi => exact ⟨rfl, rfl⟩
  case h0 => (focus (refine ⟨_, _, Gh.refl, [0, 1, 2], rfl, ?_⟩; (refine ⟨?_, ?_, ?_⟩ <;> simp only [go_sem, List.range, List.range.loop, List.nodup_cons, List.nodup_nil, List.mem_cons, List.not_mem_nil, or_false, or_self, decide_true, decide_false, Int.reduceToNat, Nat.min_eq_left, Nat.min_eq_right, Int.reducePow, Nat.reducePow, Int.reduceLE, Int.reduceLT, Int.reduceMul, Int.reduceAdd, Int.reduceSub, Int.reduceNeg, Bool.not_true, Bool.not_false, Bool.not_not, ↓reduceIte, Nat.reduceAdd, Nat.reduceSub, Nat.reduceMul, Nat.reduceEqDiff, reduceCtorEq, Nat.reduceLT, Nat.reduceLeDiff, Nat.reduceGT]); (try any_goals (refine ⟨?_, ?_⟩)); (try any_goals (with_reducible rfl)))); (all_goals first | rfl | trace_state)
  case LH1 =>
    obtain ⟨h1, h2⟩ := hx
    (try dsimp only at h1 h2)
    have hBC : B.length + C.length ≤ 1000000 := by rw [← List.length_append, h1]; exact hL
    have hml : (B.map Arr.data).length = B.length := List.length_map _
    rcases C with _ | ⟨c, C⟩
    · have hf := tw_all (C := []) h2 (fun x h => by cases h)
      rw [h1] at hf
      (all_goals (try ((first | (with_reducible refine wp_id ?_) | (with_reducible refine does_id ?_) | (with_reducible refine ops_id ?_)); refine walk ?_; (repeat' (first | exact trivial | with_reducible refine And.intro ?_ ?_)); all_goals (repeat (first | (with_reducible refine ImpB.mk fun hb => ?_) | (with_reducible refine ImpK.mk fun hK => ?_) | (with_reducible refine ImpF.mk fun hF => ?_) | (with_reducible refine ImpQ.mk fun hp => ?_) | (with_reducible refine AllE.mk fun p => ?_) | (with_reducible refine AllR.mk fun rest => ?_) | (with_reducible refine AllK.mk fun K => ?_))))); repeat' (with_reducible refine And.intro ?_ ?_))
      rw [hf.1, hf.2, ← hml]
      refine ⟨_, _, gh_frz (t := 2) (e := .bytes) (xs := B.map Arr.data) rfl ?f1 ?f2, [], rfl, ?ft⟩
      case' ft => (refine ⟨?_, ?_, ?_⟩ <;> simp only [go_sem, List.range, List.range.loop, List.nodup_cons, List.nodup_nil, List.mem_cons, List.not_mem_nil, or_false, or_self, decide_true, decide_false, Int.reduceToNat, Nat.min_eq_left, Nat.min_eq_right, Int.reducePow, Nat.reducePow, Int.reduceLE, Int.reduceLT, Int.reduceMul, Int.reduceAdd, Int.reduceSub, Int.reduceNeg, Bool.not_true, Bool.not_false, Bool.not_not, ↓reduceIte, Nat.reduceAdd, Nat.reduceSub, Nat.reduceMul, Nat.reduceEqDiff, reduceCtorEq, Nat.reduceLT, Nat.reduceLeDiff, Nat.reduceGT])
      case' f1 => simp only [go_sem, decide_true, decide_false, Int.reduceToNat, Nat.min_eq_left, Nat.min_eq_right, Int.reducePow, Nat.reducePow, Int.reduceLE, Int.reduceLT, Int.reduceMul, Int.reduceAdd, Int.reduceSub, Int.reduceNeg, Bool.not_true, Bool.not_false, Bool.not_not, ↓reduceIte, Nat.reduceAdd, Nat.reduceSub, Nat.reduceMul, Nat.reduceEqDiff, reduceCtorEq, Nat.reduceLT, Nat.reduceLeDiff, Nat.reduceGT]
      case' f2 => simp only [go_sem, decide_true, decide_false, Int.reduceToNat, Nat.min_eq_left, Nat.min_eq_right, Int.reducePow, Nat.reducePow, Int.reduceLE, Int.reduceLT, Int.reduceMul, Int.reduceAdd, Int.reduceSub, Int.reduceNeg, Bool.not_true, Bool.not_false, Bool.not_not, ↓reduceIte, Nat.reduceAdd, Nat.reduceSub, Nat.reduceMul, Nat.reduceEqDiff, reduceCtorEq, Nat.reduceLT, Nat.reduceLeDiff, Nat.reduceGT]
      all_goals first | exact Nat.le_refl _ | exact ⟨Nat.le_refl _, False.elim⟩ | rfl | trace_state
    · have e0 : (c :: C).getD 0 Arr.zero = c := rfl
      have d1 : decide ((0 : Int) < ((C.length + 1 : Nat) : Int)) = true := decide_eq_true (by omega)
      by_cases q : c.time ≤ N
      · have d2 : decide (c.time ≤ N) = true := decide_eq_true q
        (have zx1 := @d1; have zx2 := @d2; have zx3 := @e0; have zx4 := @hml; all_goals (try ((first | (with_reducible refine wp_id ?_) | (with_reducible refine does_id ?_) | (with_reducible refine ops_id ?_)); refine walk ?_; (repeat' (first | exact trivial | with_reducible refine And.intro ?_ ?_)); all_goals (repeat (first | (with_reducible refine ImpB.mk fun hb => ?_) | (with_reducible refine ImpK.mk fun hK => ?_) | (with_reducible refine ImpF.mk fun hF => ?_) | (with_reducible refine ImpQ.mk fun hp => ?_) | (with_reducible refine AllE.mk fun p => ?_) | (with_reducible refine AllR.mk fun rest => ?_) | (with_reducible refine AllK.mk fun K => ?_))))); repeat' (with_reducible refine And.intro ?_ ?_))
        all_goals first | omega | skip
        have hBl : (B ++ [c]).length = B.length + 1 := by rw [List.length_append]; rfl
        refine ⟨(B ++ [c], C), ⟨⟨by dsimp only; rw [← h1, List.append_assoc]; rfl, by dsimp only; rw [List.all_append, h2]; simpa [dueA] using q⟩, by dsimp only; simp⟩, ?_⟩
        dsimp only
        rw [List.map_append]
        (focus (refine ⟨_, _, Gh.refl, [0, 1, 4], rfl, ?_⟩; (refine ⟨?_, ?_, ?_⟩ <;> simp only [go_sem, List.range, List.range.loop, List.nodup_cons, List.nodup_nil, List.mem_cons, List.not_mem_nil, or_false, or_self, decide_true, decide_false, Int.reduceToNat, Nat.min_eq_left, Nat.min_eq_right, Int.reducePow, Nat.reducePow, Int.reduceLE, Int.reduceLT, Int.reduceMul, Int.reduceAdd, Int.reduceSub, Int.reduceNeg, Bool.not_true, Bool.not_false, Bool.not_not, ↓reduceIte, Nat.reduceAdd, Nat.reduceSub, Nat.reduceMul, Nat.reduceEqDiff, reduceCtorEq, Nat.reduceLT, Nat.reduceLeDiff, Nat.reduceGT]); (try any_goals (refine ⟨?_, ?_⟩)); (try any_goals (with_reducible rfl))))
        all_goals first | rfl | (rw [hBl]; rfl) | trace_state
      · have d2 : decide (c.time ≤ N) = false := decide_eq_false q
        have hf := tw_all (C := c :: C) h2 (fun x h => by cases h; exact d2)
        rw [h1] at hf
        (have zx1 := @d1; have zx2 := @d2; have zx3 := @e0; all_goals (try ((first | (with_reducible refine wp_id ?_) | (with_reducible refine does_id ?_) | (with_reducible refine ops_id ?_)); refine walk ?_; (repeat' (first | exact trivial | with_reducible refine And.intro ?_ ?_)); all_goals (repeat (first | (with_reducible refine ImpB.mk fun hb => ?_) | (with_reducible refine ImpK.mk fun hK => ?_) | (with_reducible refine ImpF.mk fun hF => ?_) | (with_reducible refine ImpQ.mk fun hp => ?_) | (with_reducible refine AllE.mk fun p => ?_) | (with_reducible refine AllR.mk fun rest => ?_) | (with_reducible refine AllK.mk fun K => ?_))))); repeat' (with_reducible refine And.intro ?_ ?_))
        all_goals first | omega | skip
        rw [hf.1, hf.2, ← hml]
        refine ⟨_, _, gh_frz (t := 2) (e := .bytes) (xs := B.map Arr.data) rfl ?g1 ?g2, [], rfl, ?gt⟩
        case' gt => (refine ⟨?_, ?_, ?_⟩ <;> simp only [go_sem, List.range, List.range.loop, List.nodup_cons, List.nodup_nil, List.mem_cons, List.not_mem_nil, or_false, or_self, decide_true, decide_false, Int.reduceToNat, Nat.min_eq_left, Nat.min_eq_right, Int.reducePow, Nat.reducePow, Int.reduceLE, Int.reduceLT, Int.reduceMul, Int.reduceAdd, Int.reduceSub, Int.reduceNeg, Bool.not_true, Bool.not_false, Bool.not_not, ↓reduceIte, Nat.reduceAdd, Nat.reduceSub, Nat.reduceMul, Nat.reduceEqDiff, reduceCtorEq, Nat.reduceLT, Nat.reduceLeDiff, Nat.reduceGT])
        case' g1 => simp only [go_sem, decide_true, decide_false, Int.reduceToNat, Nat.min_eq_left, Nat.min_eq_right, Int.reducePow, Nat.reducePow, Int.reduceLE, Int.reduceLT, Int.reduceMul, Int.reduceAdd, Int.reduceSub, Int.reduceNeg, Bool.not_true, Bool.not_false, Bool.not_not, ↓reduceIte, Nat.reduceAdd, Nat.reduceSub, Nat.reduceMul, Nat.reduceEqDiff, reduceCtorEq, Nat.reduceLT, Nat.reduceLeDiff, Nat.reduceGT]
        case' g2 => simp only [go_sem, decide_true, decide_false, Int.reduceToNat, Nat.min_eq_left, Nat.min_eq_right, Int.reducePow, Nat.reducePow, Int.reduceLE, Int.reduceLT, Int.reduceMul, Int.reduceAdd, Int.reduceSub, Int.reduceNeg, Bool.not_true, Bool.not_false, Bool.not_not, ↓reduceIte, Nat.reduceAdd, Nat.reduceSub, Nat.reduceMul, Nat.reduceEqDiff, reduceCtorEq, Nat.reduceLT, Nat.reduceLeDiff, Nat.reduceGT]
        all_goals first | exact Nat.le_refl _ | exact ⟨Nat.le_refl _, False.elim⟩ | rfl | trace_state
theorem c_rrecv {h : List Ch} {K : KT} {dl now sent : Int} {out : List Rng} {lost : List Int} {flips : List Flp} {L : List Arr} {n : Int} {a1 a2 a3 a4 : AV} (H : K (.tup [.agg [.int .i64 dl, .ro .rng out, .ro .int lost, .ro .flp flips, .int .i64 (atL now n), .int .i64 sent, .ro .arr (L.dropWhile (dueA (atL now n)))], .ro .bytes ((L.takeWhile (dueA (atL now n))).map Arr.data)]) h) (q1 : isRO .rng out a1) (q2 : isRO .int lost a2) (q3 : isRO .flp flips a3) (q4 : isRO .arr L a4) (s1 : L.length ≤ 1000000) : Does Try.prog 17 [.agg [.int .i64 dl, a1, a2, a3, .int .i64 now, .int .i64 sent, a4], .int .i64 n] h K :=
  frame_pure (b_rrecv dl now sent out lost flips L n s1) (br_cons (br_agg (br_cons br_int (br_cons q1.br (br_cons q2.br (br_cons q3.br (br_cons br_int (br_cons br_int (br_cons q4.br br_nil)))))))) (br_cons br_int br_nil)) (.inl (by have t1 := q1.brT; have t2 := q2.brT; have t3 := q3.brT; have t4 := q4.brT; simp [brTL, brT] at t1 t2 t3 t4 ⊢; exact ⟨t1, t2, t3, t4⟩)) (fun _ => rfl) H
abbrev i_rrecv := Ctr.mk (i := 0) (g := 17) @c_rrecv
attribute [instance] i_rrecv
theorem b_rsame (a b : List (List UInt8)) (ha : a.length ≤ 1099511627776) (hb : b.length ≤ 1099511627776) : DoesK Try.prog 0 11 [.ro .bytes a, .ro .bytes b] [] (EndF 0 (.bool (decide (a = b))) []) := by
  refine DoesK.close ?_
  by_cases hl : a.length = b.length
  · have d0 : decide (¬ (a.length : Int) = (b.length : Int)) = false := decide_eq_false (by omega)
    refine w_body (rs := [.tmp 4]) (tm := [.ro .bytes a, .ro .bytes b, .any, .any, .any, .any, .any, .any, .any, .any, .any, .any, .any, .any, .any, .any, .any, .any, .any, .any, .any, .any, .any, .any, .any, .any, .any, .any]) fn_11 rfl rfl rfl rfl fun R hR => ?_
    (have zx1 := @d0; all_goals (try ((first | (with_reducible refine wp_id ?_) | (with_reducible refine does_id ?_) | (with_reducible refine ops_id ?_)); refine walk ?_; (repeat' (first | exact trivial | with_reducible refine And.intro ?_ ?_)); all_goals (repeat (first | (with_reducible refine ImpB.mk fun hb => ?_) | (with_reducible refine ImpK.mk fun hK => ?_) | (with_reducible refine ImpF.mk fun hF => ?_) | (with_reducible refine ImpQ.mk fun hp => ?_) | (with_reducible refine AllE.mk fun p => ?_) | (with_reducible refine AllR.mk fun rest => ?_) | (with_reducible refine AllK.mk fun K => ?_))))); repeat' (with_reducible refine And.intro ?_ ?_))
    any_goals ((try (refine w_seq fun K hK => ?_)); (try (refine w_block ?_)); refine w_loop (A := Nat) (fun k => k ≤ a.length ∧ a.take k = b.take k) (fun k => a.length - k) (fun k => [(5, .int .i64 k)]) (fun _ => []) (0) (ws := ?ws2) (tk := ?tk2) ?hw2 ?ht2 ?hi ?h0 ?LH2; (case hw2 => simp only [go_sem, decide_true, decide_false, Int.reduceToNat, Nat.min_eq_left, Nat.min_eq_right, Int.reducePow, Nat.reducePow, Int.reduceLE, Int.reduceLT, Int.reduceMul, Int.reduceAdd, Int.reduceSub, Int.reduceNeg, Bool.not_true, Bool.not_false, Bool.not_not, ↓reduceIte, Nat.reduceAdd, Nat.reduceSub, Nat.reduceMul, Nat.reduceEqDiff, reduceCtorEq, Nat.reduceLT, Nat.reduceLeDiff, Nat.reduceGT]; exact rfl); (case ht2 => simp only [go_sem, decide_true, decide_false, Int.reduceToNat, Nat.min_eq_left, Nat.min_eq_right, Int.reducePow, Nat.reducePow, Int.reduceLE, Int.reduceLT, Int.reduceMul, Int.reduceAdd, Int.reduceSub, Int.reduceNeg, Bool.not_true, Bool.not_false, Bool.not_not, ↓reduceIte, Nat.reduceAdd, Nat.reduceSub, Nat.reduceMul, Nat.reduceEqDiff, reduceCtorEq, Nat.reduceLT, Nat.reduceLeDiff, Nat.reduceGT]; exact rfl); (case' LH2 => rintro k E t hx hE ht; simp only [go_sem] at ht; subst ht; simp only [go_sem]; try dsimp only at hx))
    case hi => exact ⟨Nat.zero_le _, rfl⟩
    case h0 => (focus (refine ⟨_, _, Gh.refl, [], rfl, ?_⟩; (refine ⟨?_, ?_, ?_⟩ <;> simp only [go_sem, List.range, List.range.loop, List.nodup_cons, List.nodup_nil, List.mem_cons, List.not_mem_nil, or_false, or_self, decide_true, decide_false, Int.reduceToNat, Nat.min_eq_left, Nat.min_eq_right, Int.reducePow, Nat.reducePow, Int.reduceLE, Int.reduceLT, Int.reduceMul, Int.reduceAdd, Int.reduceSub, Int.reduceNeg, Bool.not_true, Bool.not_false, Bool.not_not, ↓reduceIte, Nat.reduceAdd, Nat.reduceSub, Nat.reduceMul, Nat.reduceEqDiff, reduceCtorEq, Nat.reduceLT, Nat.reduceLeDiff, Nat.reduceGT]); (try any_goals (refine ⟨?_, ?_⟩)); (try any_goals (with_reducible rfl))))
    case LH2 =>
      obtain ⟨hk0, he⟩ := hx
      have hw : IntKind.i64.wrap ((k : Int) + 1) = ((k + 1 : Nat) : Int) := by rw [wrap_i64 _ (by omega) (by omega)]; omega
      by_cases hk : k < a.length
      · have hkd : decide ((k : Int) < a.length) = true := decide_eq_true (by omega)
        by_cases c : a.getD k [] = b.getD k []
        · have d1 : decide (¬ a.getD k [] = b.getD k []) = false := decide_eq_false (fun q => q c)
          (have zx1 := @hkd; have zx2 := @hw; have zx3 := @d1; all_goals (try ((first | (with_reducible refine wp_id ?_) | (with_reducible refine does_id ?_) | (with_reducible refine ops_id ?_)); refine walk ?_; (repeat' (first | exact trivial | with_reducible refine And.intro ?_ ?_)); all_goals (repeat (first | (with_reducible refine ImpB.mk fun hb => ?_) | (with_reducible refine ImpK.mk fun hK => ?_) | (with_reducible refine ImpF.mk fun hF => ?_) | (with_reducible refine ImpQ.mk fun hp => ?_) | (with_reducible refine AllE.mk fun p => ?_) | (with_reducible refine AllR.mk fun rest => ?_) | (with_reducible refine AllK.mk fun K => ?_))))); repeat' (with_reducible refine And.intro ?_ ?_))
          all_goals first | exact Int.natCast_nonneg _ | omega | skip
          refine ⟨k + 1, ⟨⟨by first | omega | (dsimp only; omega), ?_⟩, by first | omega | (dsimp only; omega)⟩, ?_⟩
          · rw [getT (z := []) hk, getT (z := []) (show k < b.length by omega), he, c]
          (focus (refine ⟨_, _, Gh.refl, [], rfl, ?_⟩; (refine ⟨?_, ?_, ?_⟩ <;> simp only [go_sem, List.range, List.range.loop, List.nodup_cons, List.nodup_nil, List.mem_cons, List.not_mem_nil, or_false, or_self, decide_true, decide_false, Int.reduceToNat, Nat.min_eq_left, Nat.min_eq_right, Int.reducePow, Nat.reducePow, Int.reduceLE, Int.reduceLT, Int.reduceMul, Int.reduceAdd, Int.reduceSub, Int.reduceNeg, Bool.not_true, Bool.not_false, Bool.not_not, ↓reduceIte, Nat.reduceAdd, Nat.reduceSub, Nat.reduceMul, Nat.reduceEqDiff, reduceCtorEq, Nat.reduceLT, Nat.reduceLeDiff, Nat.reduceGT]); (try any_goals (refine ⟨?_, ?_⟩)); (try any_goals (with_reducible rfl))))
        · have d1 : decide (¬ a.getD k [] = b.getD k []) = true := decide_eq_true c
          (have zx1 := @hkd; have zx2 := @hw; have zx3 := @d1; all_goals (try ((first | (with_reducible refine wp_id ?_) | (with_reducible refine does_id ?_) | (with_reducible refine ops_id ?_)); refine walk ?_; (repeat' (first | exact trivial | with_reducible refine And.intro ?_ ?_)); all_goals (repeat (first | (with_reducible refine ImpB.mk fun hb => ?_) | (with_reducible refine ImpK.mk fun hK => ?_) | (with_reducible refine ImpF.mk fun hF => ?_) | (with_reducible refine ImpQ.mk fun hp => ?_) | (with_reducible refine AllE.mk fun p => ?_) | (with_reducible refine AllR.mk fun rest => ?_) | (with_reducible refine AllK.mk fun K => ?_))))); repeat' (with_reducible refine And.intro ?_ ?_))
          all_goals first | exact Int.natCast_nonneg _ | omega | skip
          rw [decide_eq_false (fun q : a = b => c (by rw [q]))]
          (focus (refine ⟨_, _, Gh.refl, [], rfl, ?_⟩; (refine ⟨?_, ?_, ?_⟩ <;> simp only [go_sem, List.range, List.range.loop, List.nodup_cons, List.nodup_nil, List.mem_cons, List.not_mem_nil, or_false, or_self, decide_true, decide_false, Int.reduceToNat, Nat.min_eq_left, Nat.min_eq_right, Int.reducePow, Nat.reducePow, Int.reduceLE, Int.reduceLT, Int.reduceMul, Int.reduceAdd, Int.reduceSub, Int.reduceNeg, Bool.not_true, Bool.not_false, Bool.not_not, ↓reduceIte, Nat.reduceAdd, Nat.reduceSub, Nat.reduceMul, Nat.reduceEqDiff, reduceCtorEq, Nat.reduceLT, Nat.reduceLeDiff, Nat.reduceGT]); (try any_goals (refine ⟨?_, ?_⟩)); (try any_goals (with_reducible rfl))))
      · have hkd : decide ((k : Int) < a.length) = false := decide_eq_false (by omega)
        rw [List.take_of_length_le (by omega), List.take_of_length_le (by omega)] at he
        (have zx1 := @hkd; all_goals (try ((first | (with_reducible refine wp_id ?_) | (with_reducible refine does_id ?_) | (with_reducible refine ops_id ?_)); refine walk ?_; (repeat' (first | exact trivial | with_reducible refine And.intro ?_ ?_)); all_goals (repeat (first | (with_reducible refine ImpB.mk fun hb => ?_) | (with_reducible refine ImpK.mk fun hK => ?_) | (with_reducible refine ImpF.mk fun hF => ?_) | (with_reducible refine ImpQ.mk fun hp => ?_) | (with_reducible refine AllE.mk fun p => ?_) | (with_reducible refine AllR.mk fun rest => ?_) | (with_reducible refine AllK.mk fun K => ?_))))); repeat' (with_reducible refine And.intro ?_ ?_))
        rw [decide_eq_true he]
        (focus (refine ⟨_, _, Gh.refl, [], rfl, ?_⟩; (refine ⟨?_, ?_, ?_⟩ <;> simp only [go_sem, List.range, List.range.loop, List.nodup_cons, List.nodup_nil, List.mem_cons, List.not_mem_nil, or_false, or_self, decide_true, decide_false, Int.reduceToNat, Nat.min_eq_left, Nat.min_eq_right, Int.reducePow, Nat.reducePow, Int.reduceLE, Int.reduceLT, Int.reduceMul, Int.reduceAdd, Int.reduceSub, Int.reduceNeg, Bool.not_true, Bool.not_false, Bool.not_not, ↓reduceIte, Nat.reduceAdd, Nat.reduceSub, Nat.reduceMul, Nat.reduceEqDiff, reduceCtorEq, Nat.reduceLT, Nat.reduceLeDiff, Nat.reduceGT]); (try any_goals (refine ⟨?_, ?_⟩)); (try any_goals (with_reducible rfl))))
  · have d0 : decide (¬ (a.length : Int) = (b.length : Int)) = true := decide_eq_true (by omega)
    rw [decide_eq_false (fun q : a = b => hl (by rw [q]))]
    refine w_body (rs := [.tmp 4]) (tm := [.ro .bytes a, .ro .bytes b, .any, .any, .any, .any, .any, .any, .any, .any, .any, .any, .any, .any, .any, .any, .any, .any, .any, .any, .any, .any, .any, .any, .any, .any, .any, .any]) fn_11 rfl rfl rfl rfl fun R hR => ?_
    (have zx1 := @d0; all_goals (try ((first | (with_reducible refine wp_id ?_) | (with_reducible refine does_id ?_) | (with_reducible refine ops_id ?_)); refine walk ?_; (repeat' (first | exact trivial | with_reducible refine And.intro ?_ ?_)); all_goals (repeat (first | (with_reducible refine ImpB.mk fun hb => ?_) | (with_reducible refine ImpK.mk fun hK => ?_) | (with_reducible refine ImpF.mk fun hF => ?_) | (with_reducible refine ImpQ.mk fun hp => ?_) | (with_reducible refine AllE.mk fun p => ?_) | (with_reducible refine AllR.mk fun rest => ?_) | (with_reducible refine AllK.mk fun K => ?_))))); repeat' (with_reducible refine And.intro ?_ ?_))
    (focus (refine ⟨_, _, Gh.refl, [], rfl, ?_⟩; (refine ⟨?_, ?_, ?_⟩ <;> simp only [go_sem, List.range, List.range.loop, List.nodup_cons, List.nodup_nil, List.mem_cons, List.not_mem_nil, or_false, or_self, decide_true, decide_false, Int.reduceToNat, Nat.min_eq_left, Nat.min_eq_right, Int.reducePow, Nat.reducePow, Int.reduceLE, Int.reduceLT, Int.reduceMul, Int.reduceAdd, Int.reduceSub, Int.reduceNeg, Bool.not_true, Bool.not_false, Bool.not_not, ↓reduceIte, Nat.reduceAdd, Nat.reduceSub, Nat.reduceMul, Nat.reduceEqDiff, reduceCtorEq, Nat.reduceLT, Nat.reduceLeDiff, Nat.reduceGT]); (try any_goals (refine ⟨?_, ?_⟩)); (try any_goals (with_reducible rfl))))
theorem c_rsame {h : List Ch} {K : KT} {a b : List (List UInt8)} {x y : AV} (H : K (.bool (decide (a = b))) h) (b1 : brA [] h (.ro .bytes a) x) (b2 : brA [] h (.ro .bytes b) y) (s1 : a.length ≤ 1099511627776) (s2 : b.length ≤ 1099511627776) : Does Try.prog 11 [x, y] h K :=
  frame_pure (b_rsame a b s1 s2) (br_cons b1 (br_cons b2 br_nil)) (.inr rfl) (fun _ => rfl) H
abbrev i_rsame := Ctr.mk (i := 0) (g := 11) @c_rsame
attribute [instance] i_rsame
end Go.V

set_option maxRecDepth 100000
set_option maxHeartbeats 8000000
namespace Go.V
open Go.Proofs
theorem xor8s (x : UInt8) (j : Nat) (hj : j < 8) : bitsI .xor .u8 (x.toNat : Int) (IntKind.u8.wrap (1 * 2 ^ min (7 - j) 8)) = ((x ^^^ (128 >>> UInt8.ofNat j)).toNat : Int) := by
  have key : ∀ j : Fin 8, IntKind.u8.wrap (1 * 2 ^ min (7 - j.val) 8) = ((128 >>> UInt8.ofNat j.val : UInt8).toNat : Int) := by decide
  rw [key ⟨j, hj⟩]
  exact xor8' _ _
theorem b_rsend (dl now sent : Int) (out : List Rng) (lost : List Int) (flips : List Flp) (L : List Arr) (n : Int) (b : List UInt8) (fl : ∀ f ∈ flips, 0 ≤ f.idx ∧ 0 ≤ f.bit) (h1 : out.length ≤ 1000000) (h2 : lost.length ≤ 1000000) (h3 : flips.length ≤ 1000000) (hbd : b.length ≤ 1000000) (hL : L.length ≤ 1000000) (hse : 0 ≤ sent ∧ sent ≤ 1000000) (nw : 0 ≤ now ∧ now ≤ 1099511627776) (hdl : 0 ≤ dl ∧ dl ≤ 1099511627776) : DoesK Try.prog 0 16 [.agg [.int .i64 dl, .ro .rng out, .ro .int lost, .ro .flp flips, .int .i64 now, .int .i64 sent, .ro .arr L], .int .i64 n, .ro .byte b] [] (EndF 0 (.agg [.int .i64 dl, .ro .rng out, .ro .int lost, .ro .flp flips, .int .i64 (atL now n), .int .i64 (sent + 1), .ro .arr (if lostB ⟨dl, out, lost, flips⟩ (atL now n) sent then L else L ++ [⟨atL now n + dl, flpS flips sent b⟩])]) []) := by
  refine DoesK.close ?_
  obtain ⟨N, hN⟩ : ∃ N, atL now n = N := ⟨_, rfl⟩
  have hNb := atL_bd (n := n) nw
  rw [hN] at hNb ⊢
  have w0 : IntKind.i64.wrap (sent + 1) = sent + 1 := wrap_i64 _ (by omega) (by omega)
  refine w_body (rs := [.cell 6 49]) (tm := [.agg [.int .i64 dl, .ro .rng out, .ro .int lost, .ro .flp flips, .int .i64 now, .int .i64 sent, .ro .arr L], .int .i64 n, .ro .byte b, .any, .any, .any, .any, .any, .any, .any, .any, .any, .any, .any, .any, .any, .any, .any, .any, .any, .any, .any, .any, .any, .any, .any, .any, .any, .any, .any, .any, .any, .any, .any, .any, .any, .any, .any, .any, .any, .any, .any, .any, .any, .any, .any, .any, .any, .any, .any, .any, .any, .any, .any, .any, .any, .any, .any, .any, .any, .any, .any, .any, .any, .any, .any, .any, .any, .any, .any, .any, .any, .any, .any, .any, .any, .any, .any, .any, .any, .any, .any, .any, .any, .any, .any, .any]) fn_16 rfl rfl rfl rfl fun R hR => ?_
  (have zx1 := @hN; all_goals (try ((first | (with_reducible refine wp_id ?_) | (with_reducible refine does_id ?_) | (with_reducible refine ops_id ?_)); refine walk ?_; (repeat' (first | exact trivial | with_reducible refine And.intro ?_ ?_)); all_goals (repeat (first | (with_reducible refine ImpB.mk fun hb => ?_) | (with_reducible refine ImpK.mk fun hK => ?_) | (with_reducible refine ImpF.mk fun hF => ?_) | (with_reducible refine ImpQ.mk fun hp => ?_) | (with_reducible refine AllE.mk fun p => ?_) | (with_reducible refine AllR.mk fun rest => ?_) | (with_reducible refine AllK.mk fun K => ?_))))); repeat' (with_reducible refine And.intro ?_ ?_))
  all_goals first | exact .inl rfl | omega | skip
  any_goals ((try (refine w_seq fun K hK => ?_)); (try (refine w_block ?_)); refine w_loop (A := Nat) (fun k => k ≤ flips.length) (fun k => flips.length - k) (fun k => [(7, .sl 3 .byte 0 b.length), (8, .int .i64 k)]) (fun k => [(3, .rows .byte (flpS (flips.take k) sent b))]) (0) (ws := ?ws1) (tk := ?tk1) ?hw1 ?ht1 ?hi ?h0 ?LH1; (case hw1 => simp only [go_sem, decide_true, decide_false, Int.reduceToNat, Nat.min_eq_left, Nat.min_eq_right, Int.reducePow, Nat.reducePow, Int.reduceLE, Int.reduceLT, Int.reduceMul, Int.reduceAdd, Int.reduceSub, Int.reduceNeg, Bool.not_true, Bool.not_false, Bool.not_not, ↓reduceIte, Nat.reduceAdd, Nat.reduceSub, Nat.reduceMul, Nat.reduceEqDiff, reduceCtorEq, Nat.reduceLT, Nat.reduceLeDiff, Nat.reduceGT]; exact rfl); (case ht1 => simp only [go_sem, decide_true, decide_false, Int.reduceToNat, Nat.min_eq_left, Nat.min_eq_right, Int.reducePow, Nat.reducePow, Int.reduceLE, Int.reduceLT, Int.reduceMul, Int.reduceAdd, Int.reduceSub, Int.reduceNeg, Bool.not_true, Bool.not_false, Bool.not_not, ↓reduceIte, Nat.reduceAdd, Nat.reduceSub, Nat.reduceMul, Nat.reduceEqDiff, reduceCtorEq, Nat.reduceLT, Nat.reduceLeDiff, Nat.reduceGT]; exact rfl); (case' LH1 => rintro k E t hx hE ht; simp only [go_sem] at ht; subst ht; simp only [go_sem]; try dsimp only at hx))
  case hi => exact Nat.zero_le _
  case h0 => (focus (refine ⟨_, _, Gh.refl, [0, 1, 2, 3], rfl, ?_⟩; (refine ⟨?_, ?_, ?_⟩ <;> simp only [go_sem, List.range, List.range.loop, List.nodup_cons, List.nodup_nil, List.mem_cons, List.not_mem_nil, or_false, or_self, decide_true, decide_false, Int.reduceToNat, Nat.min_eq_left, Nat.min_eq_right, Int.reducePow, Nat.reducePow, Int.reduceLE, Int.reduceLT, Int.reduceMul, Int.reduceAdd, Int.reduceSub, Int.reduceNeg, Bool.not_true, Bool.not_false, Bool.not_not, ↓reduceIte, Nat.reduceAdd, Nat.reduceSub, Nat.reduceMul, Nat.reduceEqDiff, reduceCtorEq, Nat.reduceLT, Nat.reduceLeDiff, Nat.reduceGT]); (try any_goals (refine ⟨?_, ?_⟩)); (try any_goals (with_reducible rfl)))); (all_goals exact rfl)
  case LH1 =>
    have hk0 : k ≤ flips.length := hx
    have hfl := flpS_len (n := sent) (F := flips.take k) (xs := b)
    obtain ⟨xs, hxs⟩ : ∃ xs, flpS (flips.take k) sent b = xs := ⟨_, rfl⟩
    rw [hxs] at hfl ⊢
    have hw1 : IntKind.i64.wrap ((k : Int) + 1) = ((k + 1 : Nat) : Int) := by rw [wrap_i64 _ (by omega) (by omega)]; omega
    by_cases hgo : k < flips.length ∧ b ≠ []
    · obtain ⟨hk, c0⟩ := hgo
      have hkd : decide ((k : Int) < (flips.length : Int)) = true := decide_eq_true (by omega)
      have hbl : 0 < b.length := List.length_pos_iff.2 c0
      have b0 : decide ((0 : Int) < (b.length : Int)) = true := decide_eq_true (by omega)
      have hnx := flpS_next (n := sent) (xs := b) hk
      rw [hxs] at hnx
      obtain ⟨f, hf⟩ : ∃ f, flips.getD k Flp.zero = f := ⟨_, rfl⟩
      have hfb := fl _ (getM (z := Flp.zero) hk)
      rw [hf] at hnx hfb
      by_cases c : f.idx = sent
      · have cd : decide (f.idx = sent) = true := decide_eq_true c
        rw [if_pos c] at hnx
        obtain ⟨m, hm⟩ : ∃ m, f.bit.toNat % (8 * b.length) = m := ⟨_, rfl⟩
        have hml : m < 8 * b.length := by rw [← hm]; exact Nat.mod_lt _ (by omega)
        obtain ⟨i, hi⟩ : ∃ i, m / 8 = i := ⟨_, rfl⟩
        obtain ⟨j, hj⟩ : ∃ j, m % 8 = j := ⟨_, rfl⟩
        have hil : i < b.length := by omega
        have hjl : j < 8 := by omega
        have z1 : IntKind.i64.wrap (8 * (b.length : Int)) = ((8 * b.length : Nat) : Int) := by rw [wrap_i64 _ (by omega) (by omega)]; omega
        have z2 : Int.tmod f.bit ((8 * b.length : Nat) : Int) = (m : Int) := by
          have e : f.bit = (f.bit.toNat : Int) := by omega
          rw [e, ← hm]; exact Int.ofNat_tmod _ _
        have z3 : IntKind.i64.wrap (Int.tdiv (m : Int) 8) = (i : Int) := by
          have e : Int.tdiv (m : Int) 8 = (i : Int) := by rw [← hi]; exact Int.ofNat_tdiv m 8
          rw [e]; exact wrap_i64 _ (by omega) (by omega)
        have z4 : Int.tmod (m : Int) 8 = (j : Int) := by rw [← hj]; exact Int.ofNat_tmod m 8
        have z7 : IntKind.i64.wrap (7 - (j : Int)) = ((7 - j : Nat) : Int) := by rw [wrap_i64 _ (by omega) (by omega)]; omega
        have z5 := xor8s (xs.getD i 0) j hjl
        have hfe : flpB xs f.bit = xs.set i (xs.getD i 0 ^^^ (128 >>> UInt8.ofNat j)) := by unfold flpB; rw [hfl, hm, hi, hj]
        have z6 : ¬ ((8 * b.length : Nat) : Int) = 0 := by omega
        (have zx1 := @hkd; have zx2 := @hw1; have zx3 := @hf; have zx4 := @cd; have zx5 := @b0; have zx6 := @hfl; have zx7 := @z1; have zx8 := @z2; have zx9 := @z3; have zx10 := @z4; have zx11 := @z7; have zx12 := @z5; all_goals (try ((first | (with_reducible refine wp_id ?_) | (with_reducible refine does_id ?_) | (with_reducible refine ops_id ?_)); refine walk ?_; (repeat' (first | exact trivial | with_reducible refine And.intro ?_ ?_)); all_goals (repeat (first | (with_reducible refine ImpB.mk fun hb => ?_) | (with_reducible refine ImpK.mk fun hK => ?_) | (with_reducible refine ImpF.mk fun hF => ?_) | (with_reducible refine ImpQ.mk fun hp => ?_) | (with_reducible refine AllE.mk fun p => ?_) | (with_reducible refine AllR.mk fun rest => ?_) | (with_reducible refine AllK.mk fun K => ?_))))); repeat' (with_reducible refine And.intro ?_ ?_))
        all_goals first | exact Int.natCast_nonneg _ | omega | exact absurd hb (by omega) | exact absurd hb (by decide) | exact u8_ltI _ | skip
        refine ⟨k + 1, ⟨by first | omega | (dsimp only; omega), by first | omega | (dsimp only; omega)⟩, ?_⟩
        dsimp only
        rw [hnx, hfe]
        (focus (refine ⟨_, _, Gh.refl, [0, 1, 2, 3], rfl, ?_⟩; (refine ⟨?_, ?_, ?_⟩ <;> simp only [go_sem, List.range, List.range.loop, List.nodup_cons, List.nodup_nil, List.mem_cons, List.not_mem_nil, or_false, or_self, decide_true, decide_false, Int.reduceToNat, Nat.min_eq_left, Nat.min_eq_right, Int.reducePow, Nat.reducePow, Int.reduceLE, Int.reduceLT, Int.reduceMul, Int.reduceAdd, Int.reduceSub, Int.reduceNeg, Bool.not_true, Bool.not_false, Bool.not_not, ↓reduceIte, Nat.reduceAdd, Nat.reduceSub, Nat.reduceMul, Nat.reduceEqDiff, reduceCtorEq, Nat.reduceLT, Nat.reduceLeDiff, Nat.reduceGT]); (try any_goals (refine ⟨?_, ?_⟩)); (try any_goals (with_reducible rfl))))
        all_goals first | exact rfl | (rw [UInt8.ofNat_toNat]) | trace_state
      · have cd : decide (f.idx = sent) = false := decide_eq_false c
        rw [if_neg c] at hnx
        (have zx1 := @hkd; have zx2 := @hw1; have zx3 := @hf; have zx4 := @cd; have zx5 := @b0; all_goals (try ((first | (with_reducible refine wp_id ?_) | (with_reducible refine does_id ?_) | (with_reducible refine ops_id ?_)); refine walk ?_; (repeat' (first | exact trivial | with_reducible refine And.intro ?_ ?_)); all_goals (repeat (first | (with_reducible refine ImpB.mk fun hb => ?_) | (with_reducible refine ImpK.mk fun hK => ?_) | (with_reducible refine ImpF.mk fun hF => ?_) | (with_reducible refine ImpQ.mk fun hp => ?_) | (with_reducible refine AllE.mk fun p => ?_) | (with_reducible refine AllR.mk fun rest => ?_) | (with_reducible refine AllK.mk fun K => ?_))))); repeat' (with_reducible refine And.intro ?_ ?_))
        all_goals first | exact Int.natCast_nonneg _ | omega | skip
        refine ⟨k + 1, ⟨by first | omega | (dsimp only; omega), by first | omega | (dsimp only; omega)⟩, ?_⟩
        dsimp only
        rw [hnx]
        (focus (refine ⟨_, _, Gh.refl, [0, 1, 2, 3], rfl, ?_⟩; (refine ⟨?_, ?_, ?_⟩ <;> simp only [go_sem, List.range, List.range.loop, List.nodup_cons, List.nodup_nil, List.mem_cons, List.not_mem_nil, or_false, or_self, decide_true, decide_false, Int.reduceToNat, Nat.min_eq_left, Nat.min_eq_right, Int.reducePow, Nat.reducePow, Int.reduceLE, Int.reduceLT, Int.reduceMul, Int.reduceAdd, Int.reduceSub, Int.reduceNeg, Bool.not_true, Bool.not_false, Bool.not_not, ↓reduceIte, Nat.reduceAdd, Nat.reduceSub, Nat.reduceMul, Nat.reduceEqDiff, reduceCtorEq, Nat.reduceLT, Nat.reduceLeDiff, Nat.reduceGT]); (try any_goals (refine ⟨?_, ?_⟩)); (try any_goals (with_reducible rfl))))
        all_goals first | exact rfl | trace_state
    · have hfin : flpS flips sent b = xs := by
        by_cases c0 : b = []
        · have e1 : xs = [] := List.eq_nil_of_length_eq_zero (by rw [hfl, c0]; rfl)
          have e2 : flpS flips sent b = [] := List.eq_nil_of_length_eq_zero (by rw [flpS_len, c0]; rfl)
          rw [e1, e2]
        · have : k = flips.length := by
            rcases Nat.lt_or_ge k flips.length with q | q
            · exact absurd ⟨q, c0⟩ hgo
            · omega
          rw [← hxs, this, List.take_of_length_le (Nat.le_refl _)]
      have hgd : (decide ((k : Int) < (flips.length : Int)) = false) ∨ (decide ((k : Int) < (flips.length : Int)) = true ∧ decide ((0 : Int) < (b.length : Int)) = false) := by
        by_cases q : k < flips.length
        · refine .inr ⟨decide_eq_true (by omega), decide_eq_false fun r => hgo ⟨q, fun e => ?_⟩⟩
          rw [e] at r
          exact absurd r (by decide)
        · exact .inl (decide_eq_false (by omega))
      have w2 : IntKind.i64.wrap (N + dl) = N + dl := wrap_i64 _ (by omega) (by omega)
      have htb : xs.take b.length = xs := List.take_of_length_le (by omega)
      rw [← hfl]
      refine Wp.ghost (gh_frz (t := 3) (e := .byte) (xs := xs) rfl ?_ ?_) ?_
      · simp only [go_sem, decide_true, decide_false, Int.reduceToNat, Nat.min_eq_left, Nat.min_eq_right, Int.reducePow, Nat.reducePow, Int.reduceLE, Int.reduceLT, Int.reduceMul, Int.reduceAdd, Int.reduceSub, Int.reduceNeg, Bool.not_true, Bool.not_false, Bool.not_not, ↓reduceIte, Nat.reduceAdd, Nat.reduceSub, Nat.reduceMul, Nat.reduceEqDiff, reduceCtorEq, Nat.reduceLT, Nat.reduceLeDiff, Nat.reduceGT]
        exact ⟨Nat.le_refl _, False.elim, Nat.le_refl _⟩
      · simp only [go_sem, decide_true, decide_false, Int.reduceToNat, Nat.min_eq_left, Nat.min_eq_right, Int.reducePow, Nat.reducePow, Int.reduceLE, Int.reduceLT, Int.reduceMul, Int.reduceAdd, Int.reduceSub, Int.reduceNeg, Bool.not_true, Bool.not_false, Bool.not_not, ↓reduceIte, Nat.reduceAdd, Nat.reduceSub, Nat.reduceMul, Nat.reduceEqDiff, reduceCtorEq, Nat.reduceLT, Nat.reduceLeDiff, Nat.reduceGT]
      simp only [go_sem, decide_true, decide_false, Int.reduceToNat, Nat.min_eq_left, Nat.min_eq_right, Int.reducePow, Nat.reducePow, Int.reduceLE, Int.reduceLT, Int.reduceMul, Int.reduceAdd, Int.reduceSub, Int.reduceNeg, Bool.not_true, Bool.not_false, Bool.not_not, ↓reduceIte, Nat.reduceAdd, Nat.reduceSub, Nat.reduceMul, Nat.reduceEqDiff, reduceCtorEq, Nat.reduceLT, Nat.reduceLeDiff, Nat.reduceGT]
      have hLl : (L ++ [(⟨N + dl, xs⟩ : Arr)]).length = L.length + 1 := by rw [List.length_append]; rfl
      cases hl : lostB ⟨dl, out, lost, flips⟩ N sent
      · rcases hgd with hgd | ⟨hgd, hgb⟩
        · (have zx1 := @hgd; have zx2 := @hl; have zx3 := @w0; have zx4 := @w2; all_goals (try ((first | (with_reducible refine wp_id ?_) | (with_reducible refine does_id ?_) | (with_reducible refine ops_id ?_)); refine walk ?_; (repeat' (first | exact trivial | with_reducible refine And.intro ?_ ?_)); all_goals (repeat (first | (with_reducible refine ImpB.mk fun hb => ?_) | (with_reducible refine ImpK.mk fun hK => ?_) | (with_reducible refine ImpF.mk fun hF => ?_) | (with_reducible refine ImpQ.mk fun hp => ?_) | (with_reducible refine AllE.mk fun p => ?_) | (with_reducible refine AllR.mk fun rest => ?_) | (with_reducible refine AllK.mk fun K => ?_))))); repeat' (with_reducible refine And.intro ?_ ?_))
          all_goals first | exact Int.natCast_nonneg _ | omega | skip
          rw [hfin, ← hLl]
          refine ⟨_, _, gh_frz (t := 6) (e := .arr) (xs := L ++ [⟨N + dl, xs⟩]) rfl ?u1 ?u2, [], rfl, ?ut⟩
          case' ut => (refine ⟨?_, ?_, ?_⟩ <;> simp only [go_sem, List.range, List.range.loop, List.nodup_cons, List.nodup_nil, List.mem_cons, List.not_mem_nil, or_false, or_self, decide_true, decide_false, Int.reduceToNat, Nat.min_eq_left, Nat.min_eq_right, Int.reducePow, Nat.reducePow, Int.reduceLE, Int.reduceLT, Int.reduceMul, Int.reduceAdd, Int.reduceSub, Int.reduceNeg, Bool.not_true, Bool.not_false, Bool.not_not, ↓reduceIte, Nat.reduceAdd, Nat.reduceSub, Nat.reduceMul, Nat.reduceEqDiff, reduceCtorEq, Nat.reduceLT, Nat.reduceLeDiff, Nat.reduceGT])
          case' u1 => simp only [go_sem, decide_true, decide_false, Int.reduceToNat, Nat.min_eq_left, Nat.min_eq_right, Int.reducePow, Nat.reducePow, Int.reduceLE, Int.reduceLT, Int.reduceMul, Int.reduceAdd, Int.reduceSub, Int.reduceNeg, Bool.not_true, Bool.not_false, Bool.not_not, ↓reduceIte, Nat.reduceAdd, Nat.reduceSub, Nat.reduceMul, Nat.reduceEqDiff, reduceCtorEq, Nat.reduceLT, Nat.reduceLeDiff, Nat.reduceGT]
          case' u2 => simp only [go_sem, decide_true, decide_false, Int.reduceToNat, Nat.min_eq_left, Nat.min_eq_right, Int.reducePow, Nat.reducePow, Int.reduceLE, Int.reduceLT, Int.reduceMul, Int.reduceAdd, Int.reduceSub, Int.reduceNeg, Bool.not_true, Bool.not_false, Bool.not_not, ↓reduceIte, Nat.reduceAdd, Nat.reduceSub, Nat.reduceMul, Nat.reduceEqDiff, reduceCtorEq, Nat.reduceLT, Nat.reduceLeDiff, Nat.reduceGT]
          all_goals first | exact Nat.le_refl _ | exact ⟨Nat.le_refl _, False.elim⟩ | exact ⟨Nat.le_refl _, False.elim, Nat.le_refl _⟩ | rfl | exact (List.take_of_length_le (by rw [hLl]; exact Nat.le_refl _)).symm | trace_state
        · (have zx1 := @hgd; have zx2 := @hgb; have zx3 := @hl; have zx4 := @w0; have zx5 := @w2; all_goals (try ((first | (with_reducible refine wp_id ?_) | (with_reducible refine does_id ?_) | (with_reducible refine ops_id ?_)); refine walk ?_; (repeat' (first | exact trivial | with_reducible refine And.intro ?_ ?_)); all_goals (repeat (first | (with_reducible refine ImpB.mk fun hb => ?_) | (with_reducible refine ImpK.mk fun hK => ?_) | (with_reducible refine ImpF.mk fun hF => ?_) | (with_reducible refine ImpQ.mk fun hp => ?_) | (with_reducible refine AllE.mk fun p => ?_) | (with_reducible refine AllR.mk fun rest => ?_) | (with_reducible refine AllK.mk fun K => ?_))))); repeat' (with_reducible refine And.intro ?_ ?_))
          all_goals first | exact Int.natCast_nonneg _ | omega | skip
          rw [hfin, ← hLl]
          refine ⟨_, _, gh_frz (t := 6) (e := .arr) (xs := L ++ [⟨N + dl, xs⟩]) rfl ?v1 ?v2, [], rfl, ?vt⟩
          case' vt => (refine ⟨?_, ?_, ?_⟩ <;> simp only [go_sem, List.range, List.range.loop, List.nodup_cons, List.nodup_nil, List.mem_cons, List.not_mem_nil, or_false, or_self, decide_true, decide_false, Int.reduceToNat, Nat.min_eq_left, Nat.min_eq_right, Int.reducePow, Nat.reducePow, Int.reduceLE, Int.reduceLT, Int.reduceMul, Int.reduceAdd, Int.reduceSub, Int.reduceNeg, Bool.not_true, Bool.not_false, Bool.not_not, ↓reduceIte, Nat.reduceAdd, Nat.reduceSub, Nat.reduceMul, Nat.reduceEqDiff, reduceCtorEq, Nat.reduceLT, Nat.reduceLeDiff, Nat.reduceGT])
          case' v1 => simp only [go_sem, decide_true, decide_false, Int.reduceToNat, Nat.min_eq_left, Nat.min_eq_right, Int.reducePow, Nat.reducePow, Int.reduceLE, Int.reduceLT, Int.reduceMul, Int.reduceAdd, Int.reduceSub, Int.reduceNeg, Bool.not_true, Bool.not_false, Bool.not_not, ↓reduceIte, Nat.reduceAdd, Nat.reduceSub, Nat.reduceMul, Nat.reduceEqDiff, reduceCtorEq, Nat.reduceLT, Nat.reduceLeDiff, Nat.reduceGT]
          case' v2 => simp only [go_sem, decide_true, decide_false, Int.reduceToNat, Nat.min_eq_left, Nat.min_eq_right, Int.reducePow, Nat.reducePow, Int.reduceLE, Int.reduceLT, Int.reduceMul, Int.reduceAdd, Int.reduceSub, Int.reduceNeg, Bool.not_true, Bool.not_false, Bool.not_not, ↓reduceIte, Nat.reduceAdd, Nat.reduceSub, Nat.reduceMul, Nat.reduceEqDiff, reduceCtorEq, Nat.reduceLT, Nat.reduceLeDiff, Nat.reduceGT]
          all_goals first | exact Nat.le_refl _ | exact ⟨Nat.le_refl _, False.elim⟩ | exact ⟨Nat.le_refl _, False.elim, Nat.le_refl _⟩ | rfl | exact (List.take_of_length_le (by rw [hLl]; exact Nat.le_refl _)).symm | trace_state
      · rcases hgd with hgd | ⟨hgd, hgb⟩
        · (have zx1 := @hgd; have zx2 := @hl; have zx3 := @w0; have zx4 := @w2; all_goals (try ((first | (with_reducible refine wp_id ?_) | (with_reducible refine does_id ?_) | (with_reducible refine ops_id ?_)); refine walk ?_; (repeat' (first | exact trivial | with_reducible refine And.intro ?_ ?_)); all_goals (repeat (first | (with_reducible refine ImpB.mk fun hb => ?_) | (with_reducible refine ImpK.mk fun hK => ?_) | (with_reducible refine ImpF.mk fun hF => ?_) | (with_reducible refine ImpQ.mk fun hp => ?_) | (with_reducible refine AllE.mk fun p => ?_) | (with_reducible refine AllR.mk fun rest => ?_) | (with_reducible refine AllK.mk fun K => ?_))))); repeat' (with_reducible refine And.intro ?_ ?_))
          all_goals first | exact Int.natCast_nonneg _ | omega | skip
          (focus (refine ⟨_, _, Gh.refl, [], rfl, ?_⟩; (refine ⟨?_, ?_, ?_⟩ <;> simp only [go_sem, List.range, List.range.loop, List.nodup_cons, List.nodup_nil, List.mem_cons, List.not_mem_nil, or_false, or_self, decide_true, decide_false, Int.reduceToNat, Nat.min_eq_left, Nat.min_eq_right, Int.reducePow, Nat.reducePow, Int.reduceLE, Int.reduceLT, Int.reduceMul, Int.reduceAdd, Int.reduceSub, Int.reduceNeg, Bool.not_true, Bool.not_false, Bool.not_not, ↓reduceIte, Nat.reduceAdd, Nat.reduceSub, Nat.reduceMul, Nat.reduceEqDiff, reduceCtorEq, Nat.reduceLT, Nat.reduceLeDiff, Nat.reduceGT]); (try any_goals (refine ⟨?_, ?_⟩)); (try any_goals (with_reducible rfl))))
        · (have zx1 := @hgd; have zx2 := @hgb; have zx3 := @hl; have zx4 := @w0; have zx5 := @w2; all_goals (try ((first | (with_reducible refine wp_id ?_) | (with_reducible refine does_id ?_) | (with_reducible refine ops_id ?_)); refine walk ?_; (repeat' (first | exact trivial | with_reducible refine And.intro ?_ ?_)); all_goals (repeat (first | (with_reducible refine ImpB.mk fun hb => ?_) | (with_reducible refine ImpK.mk fun hK => ?_) | (with_reducible refine ImpF.mk fun hF => ?_) | (with_reducible refine ImpQ.mk fun hp => ?_) | (with_reducible refine AllE.mk fun p => ?_) | (with_reducible refine AllR.mk fun rest => ?_) | (with_reducible refine AllK.mk fun K => ?_))))); repeat' (with_reducible refine And.intro ?_ ?_))
          all_goals first | exact Int.natCast_nonneg _ | omega | skip
          (focus (refine ⟨_, _, Gh.refl, [], rfl, ?_⟩; (refine ⟨?_, ?_, ?_⟩ <;> simp only [go_sem, List.range, List.range.loop, List.nodup_cons, List.nodup_nil, List.mem_cons, List.not_mem_nil, or_false, or_self, decide_true, decide_false, Int.reduceToNat, Nat.min_eq_left, Nat.min_eq_right, Int.reducePow, Nat.reducePow, Int.reduceLE, Int.reduceLT, Int.reduceMul, Int.reduceAdd, Int.reduceSub, Int.reduceNeg, Bool.not_true, Bool.not_false, Bool.not_not, ↓reduceIte, Nat.reduceAdd, Nat.reduceSub, Nat.reduceMul, Nat.reduceEqDiff, reduceCtorEq, Nat.reduceLT, Nat.reduceLeDiff, Nat.reduceGT]); (try any_goals (refine ⟨?_, ?_⟩)); (try any_goals (with_reducible rfl))))
theorem c_rsend {h : List Ch} {K : KT} {dl now sent : Int} {out : List Rng} {lost : List Int} {flips : List Flp} {L : List Arr} {n : Int} {b : List UInt8} {a1 a2 a3 a4 a5 : AV} (H : K (.agg [.int .i64 dl, .ro .rng out, .ro .int lost, .ro .flp flips, .int .i64 (atL now n), .int .i64 (sent + 1), .ro .arr (if lostB ⟨dl, out, lost, flips⟩ (atL now n) sent then L else L ++ [⟨atL now n + dl, flpS flips sent b⟩])]) h) (q1 : isRO .rng out a1) (q2 : isRO .int lost a2) (q3 : isRO .flp flips a3) (q4 : isRO .arr L a4) (q5 : isRO .byte b a5) (s1 : ∀ f ∈ flips, 0 ≤ f.idx ∧ 0 ≤ f.bit) (s2 : out.length ≤ 1000000 ∧ lost.length ≤ 1000000 ∧ flips.length ≤ 1000000) (s3 : b.length ≤ 1000000) (s4 : L.length ≤ 1000000) (s5 : 0 ≤ sent ∧ sent ≤ 1000000) (s6 : 0 ≤ now ∧ now ≤ 1099511627776) (s7 : 0 ≤ dl ∧ dl ≤ 1099511627776) : Does Try.prog 16 [.agg [.int .i64 dl, a1, a2, a3, .int .i64 now, .int .i64 sent, a4], .int .i64 n, a5] h K :=
  frame_pure (b_rsend dl now sent out lost flips L n b s1 s2.1 s2.2.1 s2.2.2 s3 s4 s5 s6 s7) (br_cons (br_agg (br_cons br_int (br_cons q1.br (br_cons q2.br (br_cons q3.br (br_cons br_int (br_cons br_int (br_cons q4.br br_nil)))))))) (br_cons br_int (br_cons q5.br br_nil))) (.inl (by have t1 := q1.brT; have t2 := q2.brT; have t3 := q3.brT; have t4 := q4.brT; have t5 := q5.brT; simp [brTL, brT] at t1 t2 t3 t4 t5 ⊢; exact ⟨t1, t2, t3, t4, t5⟩)) (fun _ => rfl) H
abbrev i_rsend := Ctr.mk (i := 0) (g := 16) @c_rsend
attribute [instance] i_rsend
end Go.V
