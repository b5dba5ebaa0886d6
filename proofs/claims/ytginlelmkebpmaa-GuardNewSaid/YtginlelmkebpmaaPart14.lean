/-
  The guard: the chapter's example; GuardNew.
-/
import Derived.Test.YtginlelmkebpmaaPart13
set_option linter.unusedVariables false
set_option linter.unusedSimpArgs false
set_option maxRecDepth 100000
set_option maxHeartbeats 8000000
namespace Go.V
open Go.Proofs
theorem b_awake : DoesK Try.prog 0 9 [] [] (EndF 0 (.bool true) []) := by
  refine DoesK.close ?_
  have g0 : rightB 10 100 5 0 = true := by decide
  have n1 : atT 0 9 = 9 := by decide
  have n2 : atT 9 10 = 10 := by decide
  have n3 : atT 10 19 = 19 := by decide
  have n4 : atT 19 20 = 20 := by decide
  have a1 : decide ((10 : Int) ≤ atT 0 9 - 0) = false := by decide
  have b1 : decide ((100 : Int) ≤ atT 0 9 - 0) = false := by decide
  have r1 : 0 ≤ atT 0 9 ∧ atT 0 9 ≤ 1099511627776 := by decide
  have a2 : decide ((10 : Int) ≤ atT 9 10 - 0) = true := by decide
  have b2 : decide ((100 : Int) ≤ atT 9 10 - 0) = false := by decide
  have r2 : 0 ≤ atT 9 10 ∧ atT 9 10 ≤ 1099511627776 := by decide
  have a3 : decide ((10 : Int) ≤ atT 10 19 - 10) = false := by decide
  have b3 : decide ((100 : Int) ≤ atT 10 19 - 0) = false := by decide
  have r3 : 0 ≤ atT 10 19 ∧ atT 10 19 ≤ 1099511627776 := by decide
  have a4 : decide ((10 : Int) ≤ atT 19 20 - 10) = true := by decide
  have b4 : decide ((100 : Int) ≤ atT 19 20 - 0) = false := by decide
  have r4 : 0 ≤ atT 19 20 ∧ atT 19 20 ≤ 1099511627776 := by decide
  refine w_body (rs := [.tmp 0]) (tm := [.any, .any, .any, .any, .any, .any, .any, .any, .any, .any, .any, .any, .any, .any, .any, .any, .any, .any, .any, .any, .any, .any, .any, .any, .any, .any, .any, .any, .any, .any, .any, .any, .any, .any, .any, .any, .any, .any, .any, .any, .any, .any, .any, .any, .any, .any, .any, .any, .any, .any, .any, .any, .any, .any, .any, .any, .any, .any, .any, .any, .any]) fn_9 rfl rfl rfl rfl fun R hR => ?_
  (have zx1 := @n1; have zx2 := @n2; have zx3 := @n3; have zx4 := @n4; all_goals (try ((first | (with_reducible refine wp_id ?_) | (with_reducible refine does_id ?_) | (with_reducible refine ops_id ?_)); refine walk ?_; (repeat' (first | exact trivial | with_reducible refine And.intro ?_ ?_)); all_goals (repeat (first | (with_reducible refine ImpB.mk fun hb => ?_) | (with_reducible refine ImpK.mk fun hK => ?_) | (with_reducible refine ImpF.mk fun hF => ?_) | (with_reducible refine ImpQ.mk fun hp => ?_) | (with_reducible refine AllE.mk fun p => ?_) | (with_reducible refine AllR.mk fun rest => ?_) | (with_reducible refine AllK.mk fun K => ?_))))); repeat' (with_reducible refine And.intro ?_ ?_))
  · (focus (refine ⟨_, _, Gh.refl, [], rfl, ?_⟩; (refine ⟨?_, ?_, ?_⟩ <;> simp only [go_sem, List.range, List.range.loop, List.nodup_cons, List.nodup_nil, List.mem_cons, List.not_mem_nil, or_false, or_self, decide_true, decide_false, Int.reduceToNat, Nat.min_eq_left, Nat.min_eq_right, Int.reducePow, Nat.reducePow, Int.reduceLE, Int.reduceLT, Int.reduceMul, Int.reduceAdd, Int.reduceSub, Int.reduceNeg, Bool.not_true, Bool.not_false, Bool.not_not, ↓reduceIte, Nat.reduceAdd, Nat.reduceSub, Nat.reduceMul, Nat.reduceEqDiff, reduceCtorEq, Nat.reduceLT, Nat.reduceLeDiff, Nat.reduceGT]); (try any_goals (refine ⟨?_, ?_⟩)); (try any_goals (with_reducible rfl))))
  · exact absurd hb (by decide)
theorem c_awake {h : List Ch} {K : KT} (H : K (.bool true) h) : Does Try.prog 9 [] h K :=
  frame_pure b_awake br_nil (.inl rfl) (fun _ => rfl) H
abbrev i_awake := Ctr.mk (i := 0) (g := 9) @c_awake
attribute [instance] i_awake
theorem b_gnew (W S P now : Int) : DoesK Try.prog 0 3 [.agg [.int .i64 W, .int .i64 S, .int .i64 P], .int .i64 now] [] (EndF 0 (.bool true) []) := by
  refine DoesK.close ?_
  cases hr : rightB W S P now
  · refine w_body (rs := [.tmp 4]) (tm := [.agg [.int .i64 W, .int .i64 S, .int .i64 P], .int .i64 now, .any, .any, .any, .any, .any, .any, .any, .any, .any, .any, .any, .any, .any, .any, .any, .any, .any, .any, .any, .any, .any, .any, .any, .any, .any, .any, .any, .any, .any, .any, .any, .any, .any]) fn_3 rfl rfl rfl rfl fun R hR => ?_
    (have zx1 := @hr; all_goals (try ((first | (with_reducible refine wp_id ?_) | (with_reducible refine does_id ?_) | (with_reducible refine ops_id ?_)); refine walk ?_; (repeat' (first | exact trivial | with_reducible refine And.intro ?_ ?_)); all_goals (repeat (first | (with_reducible refine ImpB.mk fun hb => ?_) | (with_reducible refine ImpK.mk fun hK => ?_) | (with_reducible refine ImpF.mk fun hF => ?_) | (with_reducible refine ImpQ.mk fun hp => ?_) | (with_reducible refine AllE.mk fun p => ?_) | (with_reducible refine AllR.mk fun rest => ?_) | (with_reducible refine AllK.mk fun K => ?_))))); repeat' (with_reducible refine And.intro ?_ ?_))
    (focus (refine ⟨_, _, Gh.refl, [], rfl, ?_⟩; (refine ⟨?_, ?_, ?_⟩ <;> simp only [go_sem, List.range, List.range.loop, List.nodup_cons, List.nodup_nil, List.mem_cons, List.not_mem_nil, or_false, or_self, decide_true, decide_false, Int.reduceToNat, Nat.min_eq_left, Nat.min_eq_right, Int.reducePow, Nat.reducePow, Int.reduceLE, Int.reduceLT, Int.reduceMul, Int.reduceAdd, Int.reduceSub, Int.reduceNeg, Bool.not_true, Bool.not_false, Bool.not_not, ↓reduceIte, Nat.reduceAdd, Nat.reduceSub, Nat.reduceMul, Nat.reduceEqDiff, reduceCtorEq, Nat.reduceLT, Nat.reduceLeDiff, Nat.reduceGT]); (try any_goals (refine ⟨?_, ?_⟩)); (try any_goals (with_reducible rfl))))
  · refine w_body (rs := [.tmp 4]) (tm := [.agg [.int .i64 W, .int .i64 S, .int .i64 P], .int .i64 now, .any, .any, .any, .any, .any, .any, .any, .any, .any, .any, .any, .any, .any, .any, .any, .any, .any, .any, .any, .any, .any, .any, .any, .any, .any, .any, .any, .any, .any, .any, .any, .any, .any]) fn_3 rfl rfl rfl rfl fun R hR => ?_
    (have zx1 := @hr; all_goals (try ((first | (with_reducible refine wp_id ?_) | (with_reducible refine does_id ?_) | (with_reducible refine ops_id ?_)); refine walk ?_; (repeat' (first | exact trivial | with_reducible refine And.intro ?_ ?_)); all_goals (repeat (first | (with_reducible refine ImpB.mk fun hb => ?_) | (with_reducible refine ImpK.mk fun hK => ?_) | (with_reducible refine ImpF.mk fun hF => ?_) | (with_reducible refine ImpQ.mk fun hp => ?_) | (with_reducible refine AllE.mk fun p => ?_) | (with_reducible refine AllR.mk fun rest => ?_) | (with_reducible refine AllK.mk fun K => ?_))))); repeat' (with_reducible refine And.intro ?_ ?_))
    (focus (refine ⟨_, _, Gh.refl, [], rfl, ?_⟩; (refine ⟨?_, ?_, ?_⟩ <;> simp only [go_sem, List.range, List.range.loop, List.nodup_cons, List.nodup_nil, List.mem_cons, List.not_mem_nil, or_false, or_self, decide_true, decide_false, Int.reduceToNat, Nat.min_eq_left, Nat.min_eq_right, Int.reducePow, Nat.reducePow, Int.reduceLE, Int.reduceLT, Int.reduceMul, Int.reduceAdd, Int.reduceSub, Int.reduceNeg, Bool.not_true, Bool.not_false, Bool.not_not, ↓reduceIte, Nat.reduceAdd, Nat.reduceSub, Nat.reduceMul, Nat.reduceEqDiff, reduceCtorEq, Nat.reduceLT, Nat.reduceLeDiff, Nat.reduceGT]); (try any_goals (refine ⟨?_, ?_⟩)); (try any_goals (with_reducible rfl))))
end Go.V
