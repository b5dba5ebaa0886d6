/-
  The guard: Tick, nothing broken.
  The guard: contracts of Tick, nothing broken; the law's same.
  The guard: the chapter's example; GuardNew.
  The guard: GuardRecovers.
  The guard: which units are due. Plain laws.
  slices.Compact at integers: the shelf's contract over the abstract memory.
  The guard's specification, as functions; both sides agree. Plain laws.
  maps.Clone at the guard's units: the shelf's contract over the abstract memory.
-/
import Derived.Test.YtginlelmkebpmaaPart12
import Derived.Lib.SlicesCompact
import Derived.Shelf.SlicesG.CompactI
import Derived.Shelf.SlMaps.Clone
import Derived.Ground.SlmcProg
set_option linter.unusedVariables false
set_option linter.unusedSimpArgs false
set_option maxRecDepth 100000
set_option maxHeartbeats 8000000
namespace Go.V
open Go.Proofs
theorem c_sortN {h : List Ch} {K : KT} (H : K (.tup []) h) : Does Try.prog 23 [.lit (.slice none 0 0)] h K := by
  refine ⟨⟨_, fn_23, rfl, rfl⟩, fun R μ w vs hv H0 => ?_⟩
  cases hv with
  | cons hv h2 =>
  cases h2
  cases hv
  refine (AnyM.slices_Sort_int_none Try.mSortZ _ _ _).mono ?_
  rintro e w' ⟨rfl, rfl⟩
  exact ⟨_, R, μ, h, .tup [], rfl, H, .tup .nil, H0, Ext.refl _, Step.refl _ _ _⟩
abbrev i_sortN := Ctr.mk (i := 1) (g := 23) @c_sortN
attribute [instance] i_sortN
theorem b_compN : DoesK Try.prog 0 24 [.lit (.slice none 0 0)] [] (EndF 0 (.lit (.slice none 0 0)) []) := by
  refine DoesK.close ?_
  refine w_body (rs := [.tmp 2]) (tm := [.lit (.slice none 0 0), .any, .any, .any, .any, .any, .any, .any, .any, .any, .any, .any, .any, .any, .any, .any, .any, .any, .any, .any, .any, .any, .any, .any, .any, .any, .any, .any, .any, .any, .any, .any, .any, .any, .any, .any, .any, .any, .any, .any, .any, .any, .any, .any, .any, .any, .any, .any, .any, .any, .any, .any, .any, .any, .any, .any, .any, .any, .any, .any, .any]) fn_24 rfl rfl rfl rfl fun R hR => ?_
  (all_goals (try ((first | (with_reducible refine wp_id ?_) | (with_reducible refine does_id ?_) | (with_reducible refine ops_id ?_)); refine walk ?_; (repeat' (first | exact trivial | with_reducible refine And.intro ?_ ?_)); all_goals (repeat (first | (with_reducible refine ImpB.mk fun hb => ?_) | (with_reducible refine ImpK.mk fun hK => ?_) | (with_reducible refine ImpF.mk fun hF => ?_) | (with_reducible refine ImpQ.mk fun hp => ?_) | (with_reducible refine AllE.mk fun p => ?_) | (with_reducible refine AllR.mk fun rest => ?_) | (with_reducible refine AllK.mk fun K => ?_))))); repeat' (with_reducible refine And.intro ?_ ?_))
  (focus (refine ⟨_, _, Gh.refl, [], rfl, ?_⟩; (refine ⟨?_, ?_, ?_⟩ <;> simp only [go_sem, List.range, List.range.loop, List.nodup_cons, List.nodup_nil, List.mem_cons, List.not_mem_nil, or_false, or_self, decide_true, decide_false, Int.reduceToNat, Nat.min_eq_left, Nat.min_eq_right, Int.reducePow, Nat.reducePow, Int.reduceLE, Int.reduceLT, Int.reduceMul, Int.reduceAdd, Int.reduceSub, Int.reduceNeg, Bool.not_true, Bool.not_false, Bool.not_not, ↓reduceIte, Nat.reduceAdd, Nat.reduceSub, Nat.reduceMul, Nat.reduceEqDiff, reduceCtorEq, Nat.reduceLT, Nat.reduceLeDiff, Nat.reduceGT]); (try any_goals (refine ⟨?_, ?_⟩)); (try any_goals (with_reducible rfl))))
theorem c_compN {h : List Ch} {K : KT} (H : K (.lit (.slice none 0 0)) h) : Does Try.prog 24 [.lit (.slice none 0 0)] h K :=
  frame_pure b_compN (br_cons br_lit br_nil) (.inl rfl) (fun _ => rfl) H
abbrev i_compN := Ctr.mk (i := 0) (g := 24) @c_compN
attribute [instance] i_compN
section
variable (W S P now A H0 : Int) (don : Bool) (rt : Int) (kv : List (Int × Sw))
theorem b_tick1 (n : Int) (h1 : 0 ≤ atT now n ∧ atT now n ≤ 1099511627776) (h2 : 0 ≤ A ∧ A ≤ 1099511627776) (h3 : 0 ≤ H0 ∧ H0 ≤ 1099511627776) (h4 : 0 ≤ rt ∧ rt ≤ 1099511627776) (c1 : ¬ W ≤ atT now n - A) (c2 : ¬ S ≤ atT now n - H0) : DoesK Try.prog 1 12 [.ptr 0 0, .int .i64 n] [.pack (Gd W S P now A H0 don rt kv false)] (EndF 1 (.lit (.slice none 0 0)) ([.pack (Gd W S P (atT now n) A H0 don rt kv false)] ++ [])) := by
  refine DoesK.close ?_
  have d1 : decide (W ≤ atT now n - A) = false := decide_eq_false c1
  have d2 : decide (S ≤ atT now n - H0) = false := decide_eq_false c2
  have w1 : IntKind.i64.wrap (atT now n - A) = atT now n - A := wrap_i64 _ (by omega) (by omega)
  have w2 : IntKind.i64.wrap (atT now n - H0) = atT now n - H0 := wrap_i64 _ (by omega) (by omega)
  refine w_body (rs := [.tmp 4]) (tm := [.ptr 0 0, .int .i64 n, .any, .any, .any, .any, .any, .any, .any, .any, .any, .any, .any, .any, .any, .any, .any, .any, .any, .any, .any, .any, .any, .any, .any, .any, .any, .any, .any, .any, .any, .any, .any, .any, .any, .any, .any, .any, .any, .any, .any, .any, .any, .any, .any, .any, .any, .any, .any, .any, .any, .any, .any, .any, .any, .any, .any, .any, .any, .any, .any, .any, .any, .any, .any, .any, .any, .any, .any, .any, .any, .any, .any, .any, .any, .any, .any, .any, .any, .any, .any, .any, .any, .any, .any, .any, .any, .any, .any, .any, .any, .any, .any, .any, .any, .any, .any, .any, .any, .any, .any, .any, .any, .any, .any, .any, .any, .any, .any, .any, .any, .any, .any, .any, .any, .any, .any, .any, .any, .any, .any, .any, .any, .any, .any, .any, .any, .any, .any, .any, .any, .any, .any, .any, .any, .any, .any, .any, .any, .any, .any, .any, .any, .any, .any, .any, .any, .any, .any, .any, .any]) fn_12 rfl rfl rfl rfl fun R hR => ?_
  (have zx1 := @d1; have zx2 := @d2; have zx3 := @w1; have zx4 := @w2; all_goals (try ((first | (with_reducible refine wp_id ?_) | (with_reducible refine does_id ?_) | (with_reducible refine ops_id ?_)); refine walk ?_; (repeat' (first | exact trivial | with_reducible refine And.intro ?_ ?_)); all_goals (repeat (first | (with_reducible refine ImpB.mk fun hb => ?_) | (with_reducible refine ImpK.mk fun hK => ?_) | (with_reducible refine ImpF.mk fun hF => ?_) | (with_reducible refine ImpQ.mk fun hp => ?_) | (with_reducible refine AllE.mk fun p => ?_) | (with_reducible refine AllR.mk fun rest => ?_) | (with_reducible refine AllK.mk fun K => ?_))))); repeat' (with_reducible refine And.intro ?_ ?_))
  all_goals first | exact h1 | exact h4 | skip
  any_goals ((try (refine w_seq fun K hK => ?_)); (try (refine w_block ?_)); refine w_loop (A := Nat) (fun k => k = 0) (fun k => k) (fun k => [(95, .int .i64 k), (7, .bool false)]) (fun k => []) (0) (ws := ?ws1) (tk := ?tk1) ?hw1 ?ht1 ?hi ?h0 ?LH1; (case hw1 => simp only [go_sem, decide_true, decide_false, Int.reduceToNat, Nat.min_eq_left, Nat.min_eq_right, Int.reducePow, Nat.reducePow, Int.reduceLE, Int.reduceLT, Int.reduceMul, Int.reduceAdd, Int.reduceSub, Int.reduceNeg, Bool.not_true, Bool.not_false, Bool.not_not, ↓reduceIte, Nat.reduceAdd, Nat.reduceSub, Nat.reduceMul, Nat.reduceEqDiff, reduceCtorEq, Nat.reduceLT, Nat.reduceLeDiff, Nat.reduceGT]; exact rfl); (case ht1 => simp only [go_sem, decide_true, decide_false, Int.reduceToNat, Nat.min_eq_left, Nat.min_eq_right, Int.reducePow, Nat.reducePow, Int.reduceLE, Int.reduceLT, Int.reduceMul, Int.reduceAdd, Int.reduceSub, Int.reduceNeg, Bool.not_true, Bool.not_false, Bool.not_not, ↓reduceIte, Nat.reduceAdd, Nat.reduceSub, Nat.reduceMul, Nat.reduceEqDiff, reduceCtorEq, Nat.reduceLT, Nat.reduceLeDiff, Nat.reduceGT]; exact rfl); (case' LH1 => rintro k E t hx hE ht; simp only [go_sem] at ht; subst ht; simp only [go_sem]; try dsimp only at hx))
  case hi => exact rfl
  case h0 =>
    (focus (refine ⟨_, _, Gh.refl, [0, 1, 2, 3], rfl, ?_⟩; (refine ⟨?_, ?_, ?_⟩ <;> simp only [go_sem, List.range, List.range.loop, List.nodup_cons, List.nodup_nil, List.mem_cons, List.not_mem_nil, or_false, or_self, decide_true, decide_false, Int.reduceToNat, Nat.min_eq_left, Nat.min_eq_right, Int.reducePow, Nat.reducePow, Int.reduceLE, Int.reduceLT, Int.reduceMul, Int.reduceAdd, Int.reduceSub, Int.reduceNeg, Bool.not_true, Bool.not_false, Bool.not_not, ↓reduceIte, Nat.reduceAdd, Nat.reduceSub, Nat.reduceMul, Nat.reduceEqDiff, reduceCtorEq, Nat.reduceLT, Nat.reduceLeDiff, Nat.reduceGT]); (try any_goals (refine ⟨?_, ?_⟩)); (try any_goals (with_reducible rfl))))
    all_goals first | rfl | exact List.Perm.refl _ | trace_state
  case LH1 =>
    have hk : k = 0 := hx
    subst hk
    have e0 : decide (((0 : Nat) : Int) < 0) = false := by decide
    (have zx1 := @e0; all_goals (try ((first | (with_reducible refine wp_id ?_) | (with_reducible refine does_id ?_) | (with_reducible refine ops_id ?_)); refine walk ?_; (repeat' (first | exact trivial | with_reducible refine And.intro ?_ ?_)); all_goals (repeat (first | (with_reducible refine ImpB.mk fun hb => ?_) | (with_reducible refine ImpK.mk fun hK => ?_) | (with_reducible refine ImpF.mk fun hF => ?_) | (with_reducible refine ImpQ.mk fun hp => ?_) | (with_reducible refine AllE.mk fun p => ?_) | (with_reducible refine AllR.mk fun rest => ?_) | (with_reducible refine AllK.mk fun K => ?_))))); repeat' (with_reducible refine And.intro ?_ ?_))
    (focus (refine ⟨_, _, gh_close (t := 0) (ts := [3]) (l := Gd W S P (atT now n) A H0 don rt kv false) ⟨⟨_, _, rfl⟩, ?_, by simp⟩, [0], rfl, ?_⟩; all_goals (refine ⟨?_, ?_, ?_⟩ <;> simp only [go_sem, List.range, List.range.loop, List.nodup_cons, List.nodup_nil, List.mem_cons, List.not_mem_nil, or_false, or_self, decide_true, decide_false, Int.reduceToNat, Nat.min_eq_left, Nat.min_eq_right, Int.reducePow, Nat.reducePow, Int.reduceLE, Int.reduceLT, Int.reduceMul, Int.reduceAdd, Int.reduceSub, Int.reduceNeg, Bool.not_true, Bool.not_false, Bool.not_not, ↓reduceIte, Nat.reduceAdd, Nat.reduceSub, Nat.reduceMul, Nat.reduceEqDiff, reduceCtorEq, Nat.reduceLT, Nat.reduceLeDiff, Nat.reduceGT]); (try any_goals (refine ⟨?_, ?_⟩)); (try any_goals (with_reducible rfl))))
    all_goals first | rfl | exact List.Perm.refl _ | trace_state
theorem b_tick4 (n : Int) (h1 : 0 ≤ atT now n ∧ atT now n ≤ 1099511627776) (h2 : 0 ≤ A ∧ A ≤ 1099511627776) (h3 : 0 ≤ H0 ∧ H0 ≤ 1099511627776) (h4 : 0 ≤ rt ∧ rt ≤ 1099511627776) (c1 : W ≤ atT now n - A) (c2 : ¬ S ≤ atT now n - H0) : DoesK Try.prog 1 12 [.ptr 0 0, .int .i64 n] [.pack (Gd W S P now A H0 don rt kv false)] (EndF 1 (.sl 1 .rcy 0 1) ([.pack (Gd W S P (atT now n) (atT now n) H0 don rt kv false)] ++ [.rows .rcy [⟨atT now n, 3, 0⟩]])) := by
  refine DoesK.close ?_
  have d1 : decide (W ≤ atT now n - A) = true := decide_eq_true c1
  have d2 : decide (S ≤ atT now n - H0) = false := decide_eq_false c2
  have w1 : IntKind.i64.wrap (atT now n - A) = atT now n - A := wrap_i64 _ (by omega) (by omega)
  have w2 : IntKind.i64.wrap (atT now n - H0) = atT now n - H0 := wrap_i64 _ (by omega) (by omega)
  refine w_body (rs := [.tmp 4]) (tm := [.ptr 0 0, .int .i64 n, .any, .any, .any, .any, .any, .any, .any, .any, .any, .any, .any, .any, .any, .any, .any, .any, .any, .any, .any, .any, .any, .any, .any, .any, .any, .any, .any, .any, .any, .any, .any, .any, .any, .any, .any, .any, .any, .any, .any, .any, .any, .any, .any, .any, .any, .any, .any, .any, .any, .any, .any, .any, .any, .any, .any, .any, .any, .any, .any, .any, .any, .any, .any, .any, .any, .any, .any, .any, .any, .any, .any, .any, .any, .any, .any, .any, .any, .any, .any, .any, .any, .any, .any, .any, .any, .any, .any, .any, .any, .any, .any, .any, .any, .any, .any, .any, .any, .any, .any, .any, .any, .any, .any, .any, .any, .any, .any, .any, .any, .any, .any, .any, .any, .any, .any, .any, .any, .any, .any, .any, .any, .any, .any, .any, .any, .any, .any, .any, .any, .any, .any, .any, .any, .any, .any, .any, .any, .any, .any, .any, .any, .any, .any, .any, .any, .any, .any, .any, .any]) fn_12 rfl rfl rfl rfl fun R hR => ?_
  (have zx1 := @d1; have zx2 := @d2; have zx3 := @w1; have zx4 := @w2; all_goals (try ((first | (with_reducible refine wp_id ?_) | (with_reducible refine does_id ?_) | (with_reducible refine ops_id ?_)); refine walk ?_; (repeat' (first | exact trivial | with_reducible refine And.intro ?_ ?_)); all_goals (repeat (first | (with_reducible refine ImpB.mk fun hb => ?_) | (with_reducible refine ImpK.mk fun hK => ?_) | (with_reducible refine ImpF.mk fun hF => ?_) | (with_reducible refine ImpQ.mk fun hp => ?_) | (with_reducible refine AllE.mk fun p => ?_) | (with_reducible refine AllR.mk fun rest => ?_) | (with_reducible refine AllK.mk fun K => ?_))))); repeat' (with_reducible refine And.intro ?_ ?_))
  all_goals first | exact h1 | exact h4 | skip
  refine Does.of_K ?_
  refine w_body (rs := []) (tm := [.int .i64 3, .int .i64 0, .ptr 2 0, .ptr 1 0, .any, .any, .any, .any, .any, .any, .any, .any, .any, .any, .any, .any]) fn_21 rfl rfl rfl rfl fun R hR => ?_
  (have zx1 := @d1; have zx2 := @d2; have zx3 := @w1; have zx4 := @w2; all_goals (try ((first | (with_reducible refine wp_id ?_) | (with_reducible refine does_id ?_) | (with_reducible refine ops_id ?_)); refine walk ?_; (repeat' (first | exact trivial | with_reducible refine And.intro ?_ ?_)); all_goals (repeat (first | (with_reducible refine ImpB.mk fun hb => ?_) | (with_reducible refine ImpK.mk fun hK => ?_) | (with_reducible refine ImpF.mk fun hF => ?_) | (with_reducible refine ImpQ.mk fun hp => ?_) | (with_reducible refine AllE.mk fun p => ?_) | (with_reducible refine AllR.mk fun rest => ?_) | (with_reducible refine AllK.mk fun K => ?_))))); repeat' (with_reducible refine And.intro ?_ ?_))
  all_goals first | exact h1 | exact h4 | skip
  any_goals ((try (refine w_seq fun K hK => ?_)); (try (refine w_block ?_)); refine w_loop (A := Nat) (fun k => k = 0) (fun k => k) (fun k => [(95, .int .i64 k), (7, .bool false)]) (fun k => []) (0) (ws := ?ws4) (tk := ?tk4) ?hw4 ?ht4 ?hi ?h0 ?LH4; (case hw4 => simp only [go_sem, decide_true, decide_false, Int.reduceToNat, Nat.min_eq_left, Nat.min_eq_right, Int.reducePow, Nat.reducePow, Int.reduceLE, Int.reduceLT, Int.reduceMul, Int.reduceAdd, Int.reduceSub, Int.reduceNeg, Bool.not_true, Bool.not_false, Bool.not_not, ↓reduceIte, Nat.reduceAdd, Nat.reduceSub, Nat.reduceMul, Nat.reduceEqDiff, reduceCtorEq, Nat.reduceLT, Nat.reduceLeDiff, Nat.reduceGT]; exact rfl); (case ht4 => simp only [go_sem, decide_true, decide_false, Int.reduceToNat, Nat.min_eq_left, Nat.min_eq_right, Int.reducePow, Nat.reducePow, Int.reduceLE, Int.reduceLT, Int.reduceMul, Int.reduceAdd, Int.reduceSub, Int.reduceNeg, Bool.not_true, Bool.not_false, Bool.not_not, ↓reduceIte, Nat.reduceAdd, Nat.reduceSub, Nat.reduceMul, Nat.reduceEqDiff, reduceCtorEq, Nat.reduceLT, Nat.reduceLeDiff, Nat.reduceGT]; exact rfl); (case' LH4 => rintro k E t hx hE ht; simp only [go_sem] at ht; subst ht; simp only [go_sem]; try dsimp only at hx))
  case hi => exact rfl
  case h0 =>
    (focus (refine ⟨_, _, Gh.refl, [0, 1, 2, 3, 4, 5], rfl, ?_⟩; (refine ⟨?_, ?_, ?_⟩ <;> simp only [go_sem, List.range, List.range.loop, List.nodup_cons, List.nodup_nil, List.mem_cons, List.not_mem_nil, or_false, or_self, decide_true, decide_false, Int.reduceToNat, Nat.min_eq_left, Nat.min_eq_right, Int.reducePow, Nat.reducePow, Int.reduceLE, Int.reduceLT, Int.reduceMul, Int.reduceAdd, Int.reduceSub, Int.reduceNeg, Bool.not_true, Bool.not_false, Bool.not_not, ↓reduceIte, Nat.reduceAdd, Nat.reduceSub, Nat.reduceMul, Nat.reduceEqDiff, reduceCtorEq, Nat.reduceLT, Nat.reduceLeDiff, Nat.reduceGT]); (try any_goals (refine ⟨?_, ?_⟩)); (try any_goals (with_reducible rfl))))
    all_goals first | rfl | exact List.Perm.refl _ | trace_state
  case LH4 =>
    have hk : k = 0 := hx
    subst hk
    have e0 : decide (((0 : Nat) : Int) < 0) = false := by decide
    (have zx1 := @e0; all_goals (try ((first | (with_reducible refine wp_id ?_) | (with_reducible refine does_id ?_) | (with_reducible refine ops_id ?_)); refine walk ?_; (repeat' (first | exact trivial | with_reducible refine And.intro ?_ ?_)); all_goals (repeat (first | (with_reducible refine ImpB.mk fun hb => ?_) | (with_reducible refine ImpK.mk fun hK => ?_) | (with_reducible refine ImpF.mk fun hF => ?_) | (with_reducible refine ImpQ.mk fun hp => ?_) | (with_reducible refine AllE.mk fun p => ?_) | (with_reducible refine AllR.mk fun rest => ?_) | (with_reducible refine AllK.mk fun K => ?_))))); repeat' (with_reducible refine And.intro ?_ ?_))
    (focus (refine ⟨_, _, gh_close (t := 0) (ts := [3]) (l := Gd W S P (atT now n) (atT now n) H0 don rt kv false) ⟨⟨_, _, rfl⟩, ?_, by simp⟩, [0, 5], rfl, ?_⟩; all_goals (refine ⟨?_, ?_, ?_⟩ <;> simp only [go_sem, List.range, List.range.loop, List.nodup_cons, List.nodup_nil, List.mem_cons, List.not_mem_nil, or_false, or_self, decide_true, decide_false, Int.reduceToNat, Nat.min_eq_left, Nat.min_eq_right, Int.reducePow, Nat.reducePow, Int.reduceLE, Int.reduceLT, Int.reduceMul, Int.reduceAdd, Int.reduceSub, Int.reduceNeg, Bool.not_true, Bool.not_false, Bool.not_not, ↓reduceIte, Nat.reduceAdd, Nat.reduceSub, Nat.reduceMul, Nat.reduceEqDiff, reduceCtorEq, Nat.reduceLT, Nat.reduceLeDiff, Nat.reduceGT]); (try any_goals (refine ⟨?_, ?_⟩)); (try any_goals (with_reducible rfl))))
    all_goals first | rfl | exact List.Perm.refl _ | trace_state
end
end Go.V

set_option maxRecDepth 100000
set_option maxHeartbeats 8000000
namespace Go.V
open Go.Proofs
theorem c_tick1 {h : List Ch} {K : KT} {u : Nat} {W S P now A H0 rt n : Int} {don : Bool} {kv : List (Int × Sw)} (H : K (.lit (.slice none 0 0)) (h.set u (.pack (Gd W S P (atT now n) A H0 don rt kv false)))) (o : hth h u = .pack (Gd W S P now A H0 don rt kv false)) (e1 : decide (W ≤ atT now n - A) = false) (e2 : decide (S ≤ atT now n - H0) = false) (s1 : 0 ≤ atT now n ∧ atT now n ≤ 1099511627776) (s2 : 0 ≤ A ∧ A ≤ 1099511627776) (s3 : 0 ≤ H0 ∧ H0 ≤ 1099511627776) (s4 : 0 ≤ rt ∧ rt ≤ 1099511627776) : Does Try.prog 12 [.ptr u 0, .int .i64 n] h K := by
  exact frame_obj0 (b_tick1 W S P now A H0 don rt kv n s1 s2 s3 s4 (of_decide_eq_false e1) (of_decide_eq_false e2)) o (by simp) (fitC_pack _) (br_cons (br_ptr rfl) (br_cons br_int br_nil)) (.inl rfl) (fun _ => rfl) rfl H
abbrev i_tick1 := Ctr.mk (i := 0) (g := 12) @c_tick1
attribute [instance] i_tick1
theorem c_tick4 {h : List Ch} {K : KT} {u : Nat} {W S P now A H0 rt n : Int} {don : Bool} {kv : List (Int × Sw)} (H : K (.sl h.length .rcy 0 1) (h.set u (.pack (Gd W S P (atT now n) (atT now n) H0 don rt kv false)) ++ [.rows .rcy [⟨atT now n, 3, 0⟩]])) (o : hth h u = .pack (Gd W S P now A H0 don rt kv false)) (e1 : decide (W ≤ atT now n - A) = true) (e2 : decide (S ≤ atT now n - H0) = false) (s1 : 0 ≤ atT now n ∧ atT now n ≤ 1099511627776) (s2 : 0 ≤ A ∧ A ≤ 1099511627776) (s3 : 0 ≤ H0 ∧ H0 ≤ 1099511627776) (s4 : 0 ≤ rt ∧ rt ≤ 1099511627776) : Does Try.prog 12 [.ptr u 0, .int .i64 n] h K := by
  exact frame_obj (ret' := .sl h.length .rcy 0 1) (b_tick4 W S P now A H0 don rt kv n s1 s2 s3 s4 (of_decide_eq_true e1) (of_decide_eq_false e2)) o (by simp) (fitC_pack _) (br_cons (br_ptr rfl) (br_cons br_int br_nil)) (.inl rfl) (fun _ => rfl) (fun _ => rfl) (by simp [renA, rhoC]) H
abbrev i_tick4 := Ctr.mk (i := 3) (g := 12) @c_tick4
attribute [instance] i_tick4
theorem b_tickN (n : Int) : DoesK Try.prog 0 12 [.lit (.pointer none), .int .i64 n] [] (EndF 0 (.lit (.slice none 0 0)) []) := by
  refine DoesK.close ?_
  refine w_body (rs := [.tmp 4]) (tm := [.lit (.pointer none), .int .i64 n, .any, .any, .any, .any, .any, .any, .any, .any, .any, .any, .any, .any, .any, .any, .any, .any, .any, .any, .any, .any, .any, .any, .any, .any, .any, .any, .any, .any, .any, .any, .any, .any, .any, .any, .any, .any, .any, .any, .any, .any, .any, .any, .any, .any, .any, .any, .any, .any, .any, .any, .any, .any, .any, .any, .any, .any, .any, .any, .any, .any, .any, .any, .any, .any, .any, .any, .any, .any, .any, .any, .any, .any, .any, .any, .any, .any, .any, .any, .any, .any, .any, .any, .any, .any, .any, .any, .any, .any, .any, .any, .any, .any, .any, .any, .any, .any, .any, .any, .any, .any, .any, .any, .any, .any, .any, .any, .any, .any, .any, .any, .any, .any, .any, .any, .any, .any, .any, .any, .any, .any, .any, .any, .any, .any, .any, .any, .any, .any, .any, .any, .any, .any, .any, .any, .any, .any, .any, .any, .any, .any, .any, .any, .any, .any, .any, .any, .any, .any, .any]) fn_12 rfl rfl rfl rfl fun R hR => ?_
  (all_goals (try ((first | (with_reducible refine wp_id ?_) | (with_reducible refine does_id ?_) | (with_reducible refine ops_id ?_)); refine walk ?_; (repeat' (first | exact trivial | with_reducible refine And.intro ?_ ?_)); all_goals (repeat (first | (with_reducible refine ImpB.mk fun hb => ?_) | (with_reducible refine ImpK.mk fun hK => ?_) | (with_reducible refine ImpF.mk fun hF => ?_) | (with_reducible refine ImpQ.mk fun hp => ?_) | (with_reducible refine AllE.mk fun p => ?_) | (with_reducible refine AllR.mk fun rest => ?_) | (with_reducible refine AllK.mk fun K => ?_))))); repeat' (with_reducible refine And.intro ?_ ?_))
  (focus (refine ⟨_, _, Gh.refl, [], rfl, ?_⟩; (refine ⟨?_, ?_, ?_⟩ <;> simp only [go_sem, List.range, List.range.loop, List.nodup_cons, List.nodup_nil, List.mem_cons, List.not_mem_nil, or_false, or_self, decide_true, decide_false, Int.reduceToNat, Nat.min_eq_left, Nat.min_eq_right, Int.reducePow, Nat.reducePow, Int.reduceLE, Int.reduceLT, Int.reduceMul, Int.reduceAdd, Int.reduceSub, Int.reduceNeg, Bool.not_true, Bool.not_false, Bool.not_not, ↓reduceIte, Nat.reduceAdd, Nat.reduceSub, Nat.reduceMul, Nat.reduceEqDiff, reduceCtorEq, Nat.reduceLT, Nat.reduceLeDiff, Nat.reduceGT]); (try any_goals (refine ⟨?_, ?_⟩)); (try any_goals (with_reducible rfl))))
theorem c_tickN {h : List Ch} {K : KT} {n : Int} (H : K (.lit (.slice none 0 0)) h) : Does Try.prog 12 [.lit (.pointer none), .int .i64 n] h K :=
  frame_pure (b_tickN n) (br_cons br_lit (br_cons br_int br_nil)) (.inl rfl) (fun _ => rfl) H
abbrev i_tickN := Ctr.mk (i := 6) (g := 12) @c_tickN
attribute [instance] i_tickN
def yAt (l : List Rcy) (k : Nat) : Rcy := l.getD k Rcy.zero
theorem yAt_eq {l : List Rcy} {k : Nat} (h : k < l.length) : yAt l k = l[k] := by unfold yAt; rw [List.getD_eq_getElem?_getD, List.getElem?_eq_getElem h]; rfl
theorem rcy_eq {x y : Rcy} (h1 : x.time = y.time) (h2 : x.kind = y.kind) (h3 : x.unit = y.unit) : x = y := by cases x; cases y; simp_all
theorem b_gsame (a b : List Rcy) (ha : a.length ≤ 1099511627776) (hb0 : b.length ≤ 1099511627776) : DoesK Try.prog 0 14 [.ro .rcy a, .ro .rcy b] [] (EndF 0 (.bool (decide (a = b))) []) := by
  refine DoesK.close ?_
  by_cases hn : a.length = b.length
  · have hnd : decide (¬ (a.length : Int) = b.length) = false := decide_eq_false (by omega)
    refine w_body (rs := [.tmp 4]) (tm := [.ro .rcy a, .ro .rcy b, .any, .any, .any, .any, .any, .any, .any, .any, .any, .any, .any, .any, .any, .any, .any, .any, .any, .any, .any, .any, .any, .any, .any, .any]) fn_14 rfl rfl rfl rfl fun R hR => ?_
    (have zx1 := @hnd; all_goals (try ((first | (with_reducible refine wp_id ?_) | (with_reducible refine does_id ?_) | (with_reducible refine ops_id ?_)); refine walk ?_; (repeat' (first | exact trivial | with_reducible refine And.intro ?_ ?_)); all_goals (repeat (first | (with_reducible refine ImpB.mk fun hb => ?_) | (with_reducible refine ImpK.mk fun hK => ?_) | (with_reducible refine ImpF.mk fun hF => ?_) | (with_reducible refine ImpQ.mk fun hp => ?_) | (with_reducible refine AllE.mk fun p => ?_) | (with_reducible refine AllR.mk fun rest => ?_) | (with_reducible refine AllK.mk fun K => ?_))))); repeat' (with_reducible refine And.intro ?_ ?_))
    any_goals ((try (refine w_seq fun K hK => ?_)); (try (refine w_block ?_)); refine w_loop (A := Nat) (fun k => k ≤ a.length ∧ ∀ j, j < k → yAt a j = yAt b j) (fun k => a.length - k) (fun k => [(5, .int .i64 k)]) (fun _ => []) (0) (ws := ?ws1) (tk := ?tk1) ?hw1 ?ht1 ?hi ?h0 ?LH1; (case hw1 => simp only [go_sem, decide_true, decide_false, Int.reduceToNat, Nat.min_eq_left, Nat.min_eq_right, Int.reducePow, Nat.reducePow, Int.reduceLE, Int.reduceLT, Int.reduceMul, Int.reduceAdd, Int.reduceSub, Int.reduceNeg, Bool.not_true, Bool.not_false, Bool.not_not, ↓reduceIte, Nat.reduceAdd, Nat.reduceSub, Nat.reduceMul, Nat.reduceEqDiff, reduceCtorEq, Nat.reduceLT, Nat.reduceLeDiff, Nat.reduceGT]; exact rfl); (case ht1 => simp only [go_sem, decide_true, decide_false, Int.reduceToNat, Nat.min_eq_left, Nat.min_eq_right, Int.reducePow, Nat.reducePow, Int.reduceLE, Int.reduceLT, Int.reduceMul, Int.reduceAdd, Int.reduceSub, Int.reduceNeg, Bool.not_true, Bool.not_false, Bool.not_not, ↓reduceIte, Nat.reduceAdd, Nat.reduceSub, Nat.reduceMul, Nat.reduceEqDiff, reduceCtorEq, Nat.reduceLT, Nat.reduceLeDiff, Nat.reduceGT]; exact rfl); (case' LH1 => rintro k E t hx hE ht; simp only [go_sem] at ht; subst ht; simp only [go_sem]; try dsimp only at hx))
    case hi => exact ⟨Nat.zero_le _, fun j hj => absurd hj (by omega)⟩
    case h0 => (focus (refine ⟨_, _, Gh.refl, [], rfl, ?_⟩; (refine ⟨?_, ?_, ?_⟩ <;> simp only [go_sem, List.range, List.range.loop, List.nodup_cons, List.nodup_nil, List.mem_cons, List.not_mem_nil, or_false, or_self, decide_true, decide_false, Int.reduceToNat, Nat.min_eq_left, Nat.min_eq_right, Int.reducePow, Nat.reducePow, Int.reduceLE, Int.reduceLT, Int.reduceMul, Int.reduceAdd, Int.reduceSub, Int.reduceNeg, Bool.not_true, Bool.not_false, Bool.not_not, ↓reduceIte, Nat.reduceAdd, Nat.reduceSub, Nat.reduceMul, Nat.reduceEqDiff, reduceCtorEq, Nat.reduceLT, Nat.reduceLeDiff, Nat.reduceGT]); (try any_goals (refine ⟨?_, ?_⟩)); (try any_goals (with_reducible rfl))))
    case LH1 =>
      have hw : IntKind.i64.wrap ((k : Int) + 1) = ((k + 1 : Nat) : Int) := by rw [wrap_i64 _ (by omega) (by omega)]; omega
      by_cases hk : k < a.length
      · have hkd : decide ((k : Int) < a.length) = true := decide_eq_true (by omega)
        have hk2 : k < b.length := by omega
        (have zx1 := @hkd; all_goals (try ((first | (with_reducible refine wp_id ?_) | (with_reducible refine does_id ?_) | (with_reducible refine ops_id ?_)); refine walk ?_; (repeat' (first | exact trivial | with_reducible refine And.intro ?_ ?_)); all_goals (repeat (first | (with_reducible refine ImpB.mk fun hb => ?_) | (with_reducible refine ImpK.mk fun hK => ?_) | (with_reducible refine ImpF.mk fun hF => ?_) | (with_reducible refine ImpQ.mk fun hp => ?_) | (with_reducible refine AllE.mk fun p => ?_) | (with_reducible refine AllR.mk fun rest => ?_) | (with_reducible refine AllK.mk fun K => ?_))))); repeat' (with_reducible refine And.intro ?_ ?_))
        (all_goals first | exact Int.natCast_nonneg _ | exact Int.ofNat_lt.2 (by assumption) | assumption | omega | exact Nat.le_refl _ | (exfalso; simp at hb; done) | (simp only [go_sem, decide_true, decide_false, Int.reduceToNat, Nat.min_eq_left, Nat.min_eq_right, Int.reducePow, Nat.reducePow, Int.reduceLE, Int.reduceLT, Int.reduceMul, Int.reduceAdd, Int.reduceSub, Int.reduceNeg, Bool.not_true, Bool.not_false, Bool.not_not, ↓reduceIte, Nat.reduceAdd, Nat.reduceSub, Nat.reduceMul, Nat.reduceEqDiff, reduceCtorEq, Nat.reduceLT, Nat.reduceLeDiff, Nat.reduceGT]; done) | (unfold capM; omega) | (simp only [List.length_drop, List.length_take, List.length_append, List.length_cons, List.length_nil]; omega) | skip)
        · rw [decide_eq_false (fun e => by
            have q : a.getD k Rcy.zero = b.getD k Rcy.zero := by rw [e]
            rw [q] at hb; simp at hb)]
          (focus (refine ⟨_, _, Gh.refl, [], rfl, ?_⟩; (refine ⟨?_, ?_, ?_⟩ <;> simp only [go_sem, List.range, List.range.loop, List.nodup_cons, List.nodup_nil, List.mem_cons, List.not_mem_nil, or_false, or_self, decide_true, decide_false, Int.reduceToNat, Nat.min_eq_left, Nat.min_eq_right, Int.reducePow, Nat.reducePow, Int.reduceLE, Int.reduceLT, Int.reduceMul, Int.reduceAdd, Int.reduceSub, Int.reduceNeg, Bool.not_true, Bool.not_false, Bool.not_not, ↓reduceIte, Nat.reduceAdd, Nat.reduceSub, Nat.reduceMul, Nat.reduceEqDiff, reduceCtorEq, Nat.reduceLT, Nat.reduceLeDiff, Nat.reduceGT]); (try any_goals (refine ⟨?_, ?_⟩)); (try any_goals (with_reducible rfl))))
        · have q : yAt a k = yAt b k := by
            simp at hb
            exact rcy_eq hb.1 hb.2.1 hb.2.2
          refine ⟨k + 1, ⟨⟨by first | omega | (dsimp only; omega), fun j hj => ?_⟩, by first | omega | (dsimp only; omega)⟩, ?m1⟩
          · by_cases e : j = k
            · rw [e]; exact q
            · exact hx.2 j (by omega)
          (focus (refine ⟨_, _, Gh.refl, [], rfl, ?_⟩; (refine ⟨?_, ?_, ?_⟩ <;> simp only [go_sem, List.range, List.range.loop, List.nodup_cons, List.nodup_nil, List.mem_cons, List.not_mem_nil, or_false, or_self, decide_true, decide_false, Int.reduceToNat, Nat.min_eq_left, Nat.min_eq_right, Int.reducePow, Nat.reducePow, Int.reduceLE, Int.reduceLT, Int.reduceMul, Int.reduceAdd, Int.reduceSub, Int.reduceNeg, Bool.not_true, Bool.not_false, Bool.not_not, ↓reduceIte, Nat.reduceAdd, Nat.reduceSub, Nat.reduceMul, Nat.reduceEqDiff, reduceCtorEq, Nat.reduceLT, Nat.reduceLeDiff, Nat.reduceGT]); (try any_goals (refine ⟨?_, ?_⟩)); (try any_goals (with_reducible rfl))))
          exact hw.symm
      · have hkd : decide ((k : Int) < a.length) = false := decide_eq_false (by omega)
        have he : a = b := by
          apply List.ext_getElem hn
          intro j h1 h2
          have := hx.2 j (by omega)
          rwa [yAt_eq h1, yAt_eq h2] at this
        (have zx1 := @hkd; all_goals (try ((first | (with_reducible refine wp_id ?_) | (with_reducible refine does_id ?_) | (with_reducible refine ops_id ?_)); refine walk ?_; (repeat' (first | exact trivial | with_reducible refine And.intro ?_ ?_)); all_goals (repeat (first | (with_reducible refine ImpB.mk fun hb => ?_) | (with_reducible refine ImpK.mk fun hK => ?_) | (with_reducible refine ImpF.mk fun hF => ?_) | (with_reducible refine ImpQ.mk fun hp => ?_) | (with_reducible refine AllE.mk fun p => ?_) | (with_reducible refine AllR.mk fun rest => ?_) | (with_reducible refine AllK.mk fun K => ?_))))); repeat' (with_reducible refine And.intro ?_ ?_))
        rw [decide_eq_true he]
        (focus (refine ⟨_, _, Gh.refl, [], rfl, ?_⟩; (refine ⟨?_, ?_, ?_⟩ <;> simp only [go_sem, List.range, List.range.loop, List.nodup_cons, List.nodup_nil, List.mem_cons, List.not_mem_nil, or_false, or_self, decide_true, decide_false, Int.reduceToNat, Nat.min_eq_left, Nat.min_eq_right, Int.reducePow, Nat.reducePow, Int.reduceLE, Int.reduceLT, Int.reduceMul, Int.reduceAdd, Int.reduceSub, Int.reduceNeg, Bool.not_true, Bool.not_false, Bool.not_not, ↓reduceIte, Nat.reduceAdd, Nat.reduceSub, Nat.reduceMul, Nat.reduceEqDiff, reduceCtorEq, Nat.reduceLT, Nat.reduceLeDiff, Nat.reduceGT]); (try any_goals (refine ⟨?_, ?_⟩)); (try any_goals (with_reducible rfl))))
  · have hnd : decide (¬ (a.length : Int) = b.length) = true := decide_eq_true (by omega)
    refine w_body (rs := [.tmp 4]) (tm := [.ro .rcy a, .ro .rcy b, .any, .any, .any, .any, .any, .any, .any, .any, .any, .any, .any, .any, .any, .any, .any, .any, .any, .any, .any, .any, .any, .any, .any, .any]) fn_14 rfl rfl rfl rfl fun R hR => ?_
    (have zx1 := @hnd; all_goals (try ((first | (with_reducible refine wp_id ?_) | (with_reducible refine does_id ?_) | (with_reducible refine ops_id ?_)); refine walk ?_; (repeat' (first | exact trivial | with_reducible refine And.intro ?_ ?_)); all_goals (repeat (first | (with_reducible refine ImpB.mk fun hb => ?_) | (with_reducible refine ImpK.mk fun hK => ?_) | (with_reducible refine ImpF.mk fun hF => ?_) | (with_reducible refine ImpQ.mk fun hp => ?_) | (with_reducible refine AllE.mk fun p => ?_) | (with_reducible refine AllR.mk fun rest => ?_) | (with_reducible refine AllK.mk fun K => ?_))))); repeat' (with_reducible refine And.intro ?_ ?_))
    rw [decide_eq_false (fun e => hn (by rw [e]))]
    (focus (refine ⟨_, _, Gh.refl, [], rfl, ?_⟩; (refine ⟨?_, ?_, ?_⟩ <;> simp only [go_sem, List.range, List.range.loop, List.nodup_cons, List.nodup_nil, List.mem_cons, List.not_mem_nil, or_false, or_self, decide_true, decide_false, Int.reduceToNat, Nat.min_eq_left, Nat.min_eq_right, Int.reducePow, Nat.reducePow, Int.reduceLE, Int.reduceLT, Int.reduceMul, Int.reduceAdd, Int.reduceSub, Int.reduceNeg, Bool.not_true, Bool.not_false, Bool.not_not, ↓reduceIte, Nat.reduceAdd, Nat.reduceSub, Nat.reduceMul, Nat.reduceEqDiff, reduceCtorEq, Nat.reduceLT, Nat.reduceLeDiff, Nat.reduceGT]); (try any_goals (refine ⟨?_, ?_⟩)); (try any_goals (with_reducible rfl))))
theorem c_gsame {h : List Ch} {K : KT} {a b : List Rcy} {x y : AV} (H : K (.bool (decide (a = b))) h) (b1 : brA [] h (.ro .rcy a) x) (b2 : brA [] h (.ro .rcy b) y) (s1 : a.length ≤ 1099511627776) (s2 : b.length ≤ 1099511627776) : Does Try.prog 14 [x, y] h K :=
  frame_pure (b_gsame a b s1 s2) (br_cons b1 (br_cons b2 br_nil)) (.inr rfl) (fun _ => rfl) H
abbrev i_gsame := Ctr.mk (i := 0) (g := 14) @c_gsame
attribute [instance] i_gsame
end Go.V

set_option maxRecDepth 100000
set_option maxHeartbeats 8000000
namespace Go.V
open Go.Proofs
theorem b_awake : DoesK Try.prog 0 9 [] [] (EndF 0 (.bool true) []) := by
  refine DoesK.close ?_
  have g0 : rightB 10 100 5 0 = true := by decide
  have n1 : atT 0 9 = 9 := by decide
  have n2 : atT 9 10 = 10 := by decide
  have n3 : atT 10 19 = 19 := by decide
  have n4 : atT 19 20 = 20 := by decide
  have a1 : decide ((10 : Int) ≤ atT 0 9 - 0) = false := by decide
  have b1 : decide ((100 : Int) ≤ atT 0 9 - 0) = false := by decide
  have r1 : 0 ≤ atT 0 9 ∧ atT 0 9 ≤ 1099511627776 := by decide
  have a2 : decide ((10 : Int) ≤ atT 9 10 - 0) = true := by decide
  have b2 : decide ((100 : Int) ≤ atT 9 10 - 0) = false := by decide
  have r2 : 0 ≤ atT 9 10 ∧ atT 9 10 ≤ 1099511627776 := by decide
  have a3 : decide ((10 : Int) ≤ atT 10 19 - 10) = false := by decide
  have b3 : decide ((100 : Int) ≤ atT 10 19 - 0) = false := by decide
  have r3 : 0 ≤ atT 10 19 ∧ atT 10 19 ≤ 1099511627776 := by decide
  have a4 : decide ((10 : Int) ≤ atT 19 20 - 10) = true := by decide
  have b4 : decide ((100 : Int) ≤ atT 19 20 - 0) = false := by decide
  have r4 : 0 ≤ atT 19 20 ∧ atT 19 20 ≤ 1099511627776 := by decide
  refine w_body (rs := [.tmp 0]) (tm := [.any, .any, .any, .any, .any, .any, .any, .any, .any, .any, .any, .any, .any, .any, .any, .any, .any, .any, .any, .any, .any, .any, .any, .any, .any, .any, .any, .any, .any, .any, .any, .any, .any, .any, .any, .any, .any, .any, .any, .any, .any, .any, .any, .any, .any, .any, .any, .any, .any, .any, .any, .any, .any, .any, .any, .any, .any, .any, .any, .any, .any]) fn_9 rfl rfl rfl rfl fun R hR => ?_
  (have zx1 := @n1; have zx2 := @n2; have zx3 := @n3; have zx4 := @n4; all_goals (try ((first | (with_reducible refine wp_id ?_) | (with_reducible refine does_id ?_) | (with_reducible refine ops_id ?_)); refine walk ?_; (repeat' (first | exact trivial | with_reducible refine And.intro ?_ ?_)); all_goals (repeat (first | (with_reducible refine ImpB.mk fun hb => ?_) | (with_reducible refine ImpK.mk fun hK => ?_) | (with_reducible refine ImpF.mk fun hF => ?_) | (with_reducible refine ImpQ.mk fun hp => ?_) | (with_reducible refine AllE.mk fun p => ?_) | (with_reducible refine AllR.mk fun rest => ?_) | (with_reducible refine AllK.mk fun K => ?_))))); repeat' (with_reducible refine And.intro ?_ ?_))
  · (focus (refine ⟨_, _, Gh.refl, [], rfl, ?_⟩; (refine ⟨?_, ?_, ?_⟩ <;> simp only [go_sem, List.range, List.range.loop, List.nodup_cons, List.nodup_nil, List.mem_cons, List.not_mem_nil, or_false, or_self, decide_true, decide_false, Int.reduceToNat, Nat.min_eq_left, Nat.min_eq_right, Int.reducePow, Nat.reducePow, Int.reduceLE, Int.reduceLT, Int.reduceMul, Int.reduceAdd, Int.reduceSub, Int.reduceNeg, Bool.not_true, Bool.not_false, Bool.not_not, ↓reduceIte, Nat.reduceAdd, Nat.reduceSub, Nat.reduceMul, Nat.reduceEqDiff, reduceCtorEq, Nat.reduceLT, Nat.reduceLeDiff, Nat.reduceGT]); (try any_goals (refine ⟨?_, ?_⟩)); (try any_goals (with_reducible rfl))))
  · exact absurd hb (by decide)
theorem c_awake {h : List Ch} {K : KT} (H : K (.bool true) h) : Does Try.prog 9 [] h K :=
  frame_pure b_awake br_nil (.inl rfl) (fun _ => rfl) H
abbrev i_awake := Ctr.mk (i := 0) (g := 9) @c_awake
attribute [instance] i_awake
end Go.V

set_option maxRecDepth 100000
set_option maxHeartbeats 16000000
namespace Go.V
open Go.Proofs
theorem atT_up {t : Nat} (h1 : 1 ≤ t) (h2 : t ≤ 201) : atT ((t - 1 : Nat) : Int) t = t := by
  unfold atT
  rw [if_pos (by omega)]
  omega
theorem atT_id {t : Nat} (h2 : t ≤ 201) : atT (t : Int) t = t := by
  unfold atT
  rw [if_pos (by omega)]
  omega
end Go.V

set_option maxRecDepth 100000
namespace Go.V
open Go.Lib
/-- ascending, no number twice -/
def sdl (l : List Int) : List Int := compact (sortZ l)
theorem keeps_succ (d : Array Int) (m : Nat) : keeps d (m + 1) = (d[m + 1]! != d[m]!) := by
  unfold keeps
  simp only [Nat.add_sub_cancel]
  by_cases c : d[m + 1]! = d[m]! <;> simp [c, bne]
theorem cu_up (l : List Int) (hs : ∀ i j, i ≤ j → j < l.length → l.toArray[i]! ≤ l.toArray[j]!) : ∀ m, m ≤ l.length → (compactUpTo l.toArray m).Pairwise (· < ·) ∧ (∀ x, x ∈ compactUpTo l.toArray m ↔ ∃ j, j < m ∧ l.toArray[j]! = x)
  | 0, _ => by
    have e : compactUpTo l.toArray 0 = [] := rfl
    rw [e]
    exact ⟨.nil, fun x => ⟨fun h => by simp at h, fun ⟨j, h, _⟩ => absurd h (Nat.not_lt_zero j)⟩⟩
  | m + 1, hm => by
    obtain ⟨h1, h2⟩ := cu_up l hs m (by omega)
    rw [compactUpTo_succ]
    cases m with
    | zero =>
      have e : compactUpTo l.toArray 0 = [] := rfl
      have k : keeps l.toArray 0 = true := by unfold keeps; simp
      rw [e, k]
      refine ⟨by simp, fun x => ?_⟩
      simp only [if_true, List.nil_append, List.mem_singleton]
      exact ⟨fun h => ⟨0, by omega, h.symm⟩, fun ⟨j, hj, e⟩ => by obtain rfl : j = 0 := by omega
                                                                  exact e.symm⟩
    | succ m =>
      rw [keeps_succ]
      by_cases c : l.toArray[m + 1]! = l.toArray[m]!
      · have e : (l.toArray[m + 1]! != l.toArray[m]!) = false := by simp [c]
        rw [e]
        simp only [Bool.false_eq_true, if_false, List.append_nil]
        refine ⟨h1, fun x => ?_⟩
        rw [h2]
        constructor
        · rintro ⟨j, hj, e⟩; exact ⟨j, by omega, e⟩
        · rintro ⟨j, hj, e⟩
          by_cases q : j = m + 1
          · subst q; exact ⟨m, by omega, by rw [← c]; exact e⟩
          · exact ⟨j, by omega, e⟩
      · have e : (l.toArray[m + 1]! != l.toArray[m]!) = true := by rw [bne_iff_ne]; exact c
        rw [e]
        simp only [if_true]
        refine ⟨?_, fun x => ?_⟩
        · rw [List.pairwise_append]
          refine ⟨h1, by simp, fun a ha b hb => ?_⟩
          simp only [List.mem_singleton] at hb
          subst hb
          obtain ⟨j, hj, e⟩ := (h2 a).1 ha
          have q1 := hs j m (by omega) (by omega)
          have q2 := hs m (m + 1) (by omega) (by omega)
          omega
        · rw [List.mem_append, h2, List.mem_singleton]
          constructor
          · rintro (⟨j, hj, e⟩ | e)
            · exact ⟨j, by omega, e⟩
            · exact ⟨m + 1, by omega, e.symm⟩
          · rintro ⟨j, hj, e⟩
            by_cases q : j = m + 1
            · subst q; exact .inr e.symm
            · exact .inl ⟨j, by omega, e⟩
theorem sortZ_le (l : List Int) : (sortZ l).Pairwise (· ≤ ·) := by
  have h := List.pairwise_mergeSort (le := fun x y : Int => decide (x ≤ y)) (fun a b c h1 h2 => by simp at *; omega) (fun a b => by simp; omega) l
  exact h.imp fun h => by simpa using h
theorem sdl_both (l : List Int) : (sdl l).Pairwise (· < ·) ∧ ∀ x, x ∈ sdl l ↔ x ∈ l := by
  have hp := List.pairwise_iff_getElem.1 (sortZ_le l)
  have h := cu_up (sortZ l) (fun i j hij hj => by
    rw [getElem!_pos _ i (by simp; omega), getElem!_pos _ j (by simp; omega)]
    simp only [List.getElem_toArray]
    rcases Nat.lt_or_ge i j with q | q
    · exact hp i j _ _ q
    · obtain rfl : i = j := by omega
      exact Int.le_refl _) (sortZ l).length (Nat.le_refl _)
  refine ⟨by unfold sdl compact; exact h.1, fun x => ?_⟩
  unfold sdl compact
  rw [h.2, ← (sortZ_perm l).mem_iff]
  constructor
  · rintro ⟨j, hj, e⟩
    rw [getElem!_pos _ j (by simpa using hj)] at e
    simp only [List.getElem_toArray] at e
    exact e ▸ List.getElem_mem _
  · intro hx
    obtain ⟨j, hj, e⟩ := List.getElem_of_mem hx
    exact ⟨j, hj, by rw [getElem!_pos _ j (by simpa using hj)]; simpa using e⟩
theorem sdl_lt (l : List Int) : (sdl l).Pairwise (· < ·) := (sdl_both l).1
theorem sdl_mem {l : List Int} {x : Int} : x ∈ sdl l ↔ x ∈ l := (sdl_both l).2 x
theorem sdl_nd (l : List Int) : (sdl l).Nodup := (sdl_lt l).imp fun h => by omega
theorem nodup_len_le : ∀ {a b : List Int}, a.Nodup → (∀ x ∈ a, x ∈ b) → a.length ≤ b.length
  | [], _, _, _ => by simp
  | x :: a, b, hn, hs => by
    rw [List.nodup_cons] at hn
    have hx := hs x (by simp)
    have hp := List.perm_cons_erase hx
    have h := nodup_len_le (b := b.erase x) hn.2 fun y hy => by
      have hb := hs y (by simp [hy])
      have hne : y ≠ x := fun e => hn.1 (e ▸ hy)
      exact (List.mem_erase_of_ne hne).2 hb
    have := hp.length_eq
    simp at this ⊢
    omega
theorem sdl_len (l : List Int) : (sdl l).length ≤ l.length := nodup_len_le (sdl_nd l) fun _ h => sdl_mem.1 h
/-- may a unit be switched again? -/
def mayB (P now : Int) (s : Sw) : Bool := !s.done || decide (P ≤ now - s.time)
def mgz (kv : List (Int × Sw)) (u : Int) : Sw := (mget (k := .int) (e := .sw) kv u).getD ⟨false, 0⟩
def dueB (P now : Int) (kv : List (Int × Sw)) (u : Int) : Bool := mayB P now (mgz kv u)
def putU (now : Int) (kv : List (Int × Sw)) (us : List Int) : List (Int × Sw) := us.foldl (fun kv u => mset (k := .int) (e := .sw) kv u ⟨true, now⟩) kv
def outU (now : Int) (us : List Int) : List Rcy := us.map fun u => ⟨now, 2, u⟩
def hasZ (l : List Int) (x : Int) : Bool := decide (x ∈ l)
theorem mget_mset (kv : List (Int × Sw)) (u v : Int) (y : Sw) : mget (k := .int) (e := .sw) (mset (k := .int) (e := .sw) kv u y) v = if v = u then some y else mget (k := .int) (e := .sw) kv v := by
  induction kv with
  | nil =>
    simp only [mset, mget]
    by_cases c : v = u
    · simp [c]
    · rw [if_neg c, if_neg (fun e => c e.symm)]
  | cons p kv ih =>
    unfold mset
    by_cases c : p.1 = u
    · rw [if_pos c]
      simp only [mget]
      by_cases d : v = u
      · subst d; simp
      · rw [if_neg d, if_neg (fun e => d e.symm), if_neg (fun e => d (e ▸ c).symm.symm)]
    · rw [if_neg c]
      simp only [mget]
      by_cases d : p.1 = v
      · rw [if_pos d, if_pos d, if_neg (fun e => c (by rw [d, e]))]
      · rw [if_neg d, if_neg d, ih]
theorem mgz_putU (now : Int) : ∀ (us : List Int) (kv : List (Int × Sw)) (v : Int), mgz (putU now kv us) v = if v ∈ us then ⟨true, now⟩ else mgz kv v
  | [], _, _ => by simp [putU]
  | u :: us, kv, v => by
    have h := mgz_putU now us (mset (k := .int) (e := .sw) kv u ⟨true, now⟩) v
    unfold putU at h ⊢
    rw [List.foldl_cons, h]
    by_cases c : v ∈ us
    · simp [c]
    · rw [if_neg c]
      unfold mgz
      rw [mget_mset]
      by_cases d : v = u
      · simp [d]
      · simp [c, d]
end Go.V

set_option maxRecDepth 100000
set_option maxHeartbeats 1000000
namespace Go.Proofs
open Go.Shelf
shelf_lay_g SlLaysN.n43 Slgn 43 at Try 24 as Try.compZ
end Go.Proofs
namespace Go.V
open Go.Proofs Go.Sort Go.Lib
theorem compact_len (l : List Int) : (compact l).length ≤ l.length := by
  have key : ∀ (d : Array Int) (m : Nat), (compactUpTo d m).length ≤ m := by
    intro d m
    unfold compactUpTo
    rw [List.length_map]
    have := List.length_filter_le (keeps d) (List.range m)
    simpa using this
  exact key _ _
theorem comp_int {P : Program} {g : FuncId} (hr : Here P g)
    (hc : ∀ (blk off cap : Nat) (zs : List Int) (w : World), Holds (Value.int .i64) w blk off zs.toArray → zs.length ≤ 9223372036854775807 → zs.length ≤ cap →
      Calls P g #[.slice (some ⟨blk, off, none⟩) zs.length cap] w fun e w' => e = .returned (.slice (some ⟨blk, off, none⟩) (compact zs).length cap) ∧ ∃ q, w' = putRow (Value.int .i64) (Sort.ahead w q) blk off (compact zs ++ List.replicate (zs.length - (compact zs).length) 0).toArray)
    (hc0 : ∀ (a : Option Addr) (cap : Nat) (w : World), Calls P g #[.slice a 0 cap] w fun e w' => e = .returned (.slice a 0 cap) ∧ w' = w)
    {h : List Ch} {K : KT} {t : Nat} {xs : List Int} {n : Nat} (hn : n = xs.length) (hx : xs.length ≤ 1099511627776) (H : K (.sl t .int 0 (compact xs).length) (h.set t (.rows .int (compact xs)))) (o : hth h t = .rows .int xs) : Does P g [.sl t .int 0 n] h K := by
  refine ⟨hr, fun R μ w vs hv H0 => ?_⟩
  have hg := hth_get o (by simp)
  cases hv with
  | cons hv h2 =>
  cases h2
  have hz : n = 0 → K (.sl t .int 0 0) h := fun e => by
    rw [e] at hn
    have : xs = [] := List.eq_nil_of_length_eq_zero hn.symm
    subst this
    have hs : compact ([] : List Int) = [] := rfl
    rw [hs, ← o, set_hth rfl (by rw [o]; simp)] at H
    exact H
  generalize hN : n = N at hv
  cases hv with
  | sl0 hl =>
    refine (hc0 _ _ _).mono ?_
    rintro e w' ⟨rfl, rfl⟩
    exact ⟨_, R, μ, h, _, rfl, hz hN, .sl0 hl, H0, Ext.refl _, Step.refl _ _ _⟩
  | sl h1 hcap hl hm =>
    rename_i b cap c
    obtain ⟨B, hB, hr1, hown⟩ := H0.rel.get hg
    have : B = .blk b cap := by rw [h1] at hB; exact (Option.some.inj hB).symm
    subst this
    rcases hr1 with ⟨hx, _⟩ | ⟨b', cap', arr, ty, hx, hb, hsz, hlen, hmx, hrel⟩
    · cases hx
    · cases hx
      rw [show Ety.sz .int = 1 from rfl, Nat.mul_one] at hrel hsz
      have ht := ints_of hrel
      have hH := holds_of_blockI hb ht
      have hbl : b < w.heap.size := (Array.getElem?_eq_some_iff.1 hb).1
      subst hN
      subst hn
      rw [Nat.zero_mul]
      have hcl := compact_len xs
      refine (hc b 0 c xs w hH (by omega) hl).mono ?_
      rintro e w' ⟨rfl, m, rfl⟩
      have hzl : (compact xs ++ List.replicate (xs.length - (compact xs).length) 0).length = xs.length := by
        rw [List.length_append, List.length_replicate]; omega
      have hzt : (compact xs ++ List.replicate (xs.length - (compact xs).length) 0).take (compact xs).length = compact xs := by
        rw [List.take_append_of_le_length (Nat.le_refl _), List.take_length]
      generalize compact xs ++ List.replicate (xs.length - (compact xs).length) 0 = Z at hzl hzt ⊢
      generalize compact xs = C at hzt hcl H ⊢
      have hg2 := grownBy_sortedI (w := w) (g := b) (n := m) (os := #[]) Z.toArray
      have hg3 := heap_sortedI (n := m) (os := #[]) Z.toArray hb
      rw [grow_empty] at hg2 hg3
      generalize hW : putRow (Value.int .i64) (Sort.ahead w m) b 0 Z.toArray = W at hg2 hg3 ⊢
      obtain ⟨g1, g2, g3, g4, g5⟩ := hg2
      have g6 : ∀ k, k < w.heap.size → k ∉ ownC (Ch.rows .int xs) (.blk b cap) → W.heap[k]? = w.heap[k]? := fun k hk hne => g5 k hk (fun e => hne (by simp only [ownC, List.mem_singleton]; exact Option.some.inj e))
      have q := take_putCellsI arr Z (by omega)
      have q2 := congrArg (List.take C.length) q
      rw [List.take_take, hzl, Nat.min_eq_left hcl, ← List.map_take, hzt] at q2
      have q3 : LRel R [] (C.flatMap (Ety.enc .int)) ((putCells (Value.int .i64) 0 Z.toArray arr).toList.take (C.length * 1)) := by
        rw [Nat.mul_one, q2]
        exact of_ints _
      have q4 : (putCells (Value.int .i64) 0 Z.toArray arr).size = cap * 1 := by simp only [putCells, Array.size_mapIdx, hsz]; exact (Nat.mul_one _).symm
      have q5 : CRel R W μ (.rows .int C) (.blk b cap) := .inr ⟨b, cap, _, ty, rfl, hg3, q4, by omega, hmx, q3⟩
      obtain ⟨H1, hst⟩ := H0.set (w' := W) (c' := .rows .int C) hg hB (by simp [ownC]) g6 g4 q5 (by rw [← hW]; rfl) (by rw [← hW]; rfl) (by rw [← hW]; rfl) (by rw [← hW]; exact Nat.le_add_right _ _)
      refine ⟨_, R, μ, _, _, rfl, H, ?_, H1, Ext.refl _, hst⟩
      have : Rel R μ (.sl t .int 0 C.length) (.slice (some ⟨b, 0 * Ety.sz .int, none⟩) C.length c) := .sl h1 hcap (by omega) hm
      simpa using this
theorem c_compz {h : List Ch} {K : KT} {t : Nat} {xs : List Int} {n : Nat} (H : K (.sl t .int 0 (compact xs).length) (h.set t (.rows .int (compact xs)))) (o : hth h t = .rows .int xs) (s1 : n = xs.length) (s2 : xs.length ≤ 1099511627776) : Does Try.prog 24 [.sl t .int 0 n] h K :=
  comp_int ⟨_, fn_24, rfl, rfl⟩ (AnyG.slices_Compact_int Try.compZ) (AnyG.slices_Compact_int_empty Try.compZ) s1 s2 H o
abbrev i_compz := Ctr.mk (i := 1) (g := 24) @c_compz
attribute [instance] i_compz
end Go.V

set_option maxRecDepth 100000
namespace Go.V
open Go.Lib
theorem snocRec {α : Type} {motive : List α → Prop} (nil : motive []) (snoc : ∀ l x, motive l → motive (l ++ [x])) (l : List α) : motive l := by
  have h : ∀ l : List α, motive l.reverse := by
    intro l
    induction l with
    | nil => exact nil
    | cons x l ih => rw [List.reverse_cons]; exact snoc _ _ ih
  simpa using h l.reverse
/-- when a unit was switched last -/
def lastU (un : List Pr) (u : Int) : Int := un.foldl (fun a p => if p.u = u then p.t else a) (-1)
theorem lastU_snoc (un : List Pr) (p : Pr) (u : Int) : lastU (un ++ [p]) u = if p.u = u then p.t else lastU un u := by
  unfold lastU
  rw [List.foldl_append]
  rfl
def leastS (done : List Int) (b : Int × Bool) (x : Int) : Int × Bool := if (!hasZ done x && (!b.2 || decide (x < b.1))) = true then (x, true) else b
def leastF (l done : List Int) : Int × Bool := l.foldl (leastS done) (0, false)
theorem leastF_snoc (l done : List Int) (x : Int) : leastF (l ++ [x]) done = leastS done (leastF l done) x := by
  unfold leastF
  rw [List.foldl_append]
  rfl
theorem zAt {l : List Int} {k : Nat} (h : k < l.length) : l.take (k + 1) = l.take k ++ [l.getD k 0] := by
  rw [List.take_succ_eq_append_getElem h, List.getD_eq_getElem?_getD, List.getElem?_eq_getElem h]
  rfl
theorem least_spec (done : List Int) : ∀ (l : List Int), (leastF l done).2 = true ∧ (leastF l done).1 ∈ l ∧ (leastF l done).1 ∉ done ∧ (∀ x ∈ l, x ∉ done → (leastF l done).1 ≤ x) ∨ leastF l done = (0, false) ∧ ∀ x ∈ l, x ∈ done := by
  intro l
  induction l using snocRec with
  | nil => exact .inr ⟨rfl, fun x h => by simp at h⟩
  | snoc l x ih =>
    rw [leastF_snoc]
    unfold leastS hasZ
    rcases ih with ⟨h1, h2, h3, h4⟩ | ⟨h1, h2⟩
    · by_cases c : x ∉ done ∧ x < (leastF l done).1
      · have e : (!decide (x ∈ done) && (!(leastF l done).2 || decide (x < (leastF l done).1))) = true := by simp [c.1, c.2]
        rw [if_pos e]
        refine .inl ⟨rfl, by simp, c.1, fun y hy hn => ?_⟩
        simp only [List.mem_append, List.mem_singleton] at hy
        rcases hy with hy | rfl
        · have := h4 y hy hn; have := c.2; dsimp only; omega
        · exact Int.le_refl _
      · have e : ¬ (!decide (x ∈ done) && (!(leastF l done).2 || decide (x < (leastF l done).1))) = true := by
          intro q
          simp [h1] at q
          exact c ⟨q.1, q.2⟩
        rw [if_neg e]
        refine .inl ⟨h1, by simp [h2], h3, fun y hy hn => ?_⟩
        simp only [List.mem_append, List.mem_singleton] at hy
        rcases hy with hy | rfl
        · exact h4 y hy hn
        · by_cases q : y < (leastF l done).1
          · exact absurd ⟨hn, q⟩ c
          · omega
    · rw [h1]
      by_cases c : x ∈ done
      · have e : ¬ (!decide (x ∈ done) && (!((0 : Int), false).2 || decide (x < ((0 : Int), false).1))) = true := by simp [c]
        rw [if_neg e]
        refine .inr ⟨rfl, fun y hy => ?_⟩
        simp only [List.mem_append, List.mem_singleton] at hy
        rcases hy with hy | rfl
        · exact h2 y hy
        · exact c
      · have e : (!decide (x ∈ done) && (!((0 : Int), false).2 || decide (x < ((0 : Int), false).1))) = true := by simp [c]
        rw [if_pos e]
        refine .inl ⟨rfl, by simp, c, fun y hy hn => ?_⟩
        simp only [List.mem_append, List.mem_singleton] at hy
        rcases hy with hy | rfl
        · exact absurd (h2 y hy) hn
        · exact Int.le_refl _
theorem least_at {l : List Int} {k : Nat} (hk : k < (sdl l).length) : leastF l ((sdl l).take k) = ((sdl l).getD k 0, true) := by
  have hp := List.pairwise_iff_getElem.1 (sdl_lt l)
  have hg : (sdl l).getD k 0 = (sdl l)[k] := by rw [List.getD_eq_getElem?_getD, List.getElem?_eq_getElem hk]; rfl
  have hn : (sdl l)[k] ∉ (sdl l).take k := fun q => by
    obtain ⟨j, hj, e⟩ := List.getElem_of_mem q
    rw [List.length_take] at hj
    rw [List.getElem_take] at e
    have := hp j k (by omega) hk (by omega)
    omega
  have hm : (sdl l)[k] ∈ l := sdl_mem.1 (List.getElem_mem _)
  rw [hg]
  rcases least_spec ((sdl l).take k) l with ⟨h1, h2, h3, h4⟩ | ⟨h1, h2⟩
  · have h5 := h4 _ hm hn
    obtain ⟨j, hj, e⟩ := List.getElem_of_mem (sdl_mem.2 h2)
    have h6 : ¬ j < k := fun q => h3 (by rw [← e]; rw [List.mem_take_iff_getElem]; exact ⟨j, by omega, rfl⟩)
    have h7 : j = k := by
      rcases Nat.lt_or_ge k j with q | q
      · have := hp k j hk hj q
        omega
      · omega
    subst h7
    exact Prod.ext e.symm h1
  · exact absurd (h2 _ hm) hn
theorem least_end (l : List Int) : leastF l ((sdl l).take (sdl l).length) = (0, false) := by
  rw [List.take_length]
  rcases least_spec (sdl l) l with ⟨h1, h2, h3, h4⟩ | ⟨h1, h2⟩
  · exact absurd (sdl_mem.2 h2) h3
  · exact h1
def dueR (P now : Int) (un : List Pr) (u : Int) : Bool := !(decide (0 ≤ lastU un u) && decide (now - lastU un u < P))
def putR (now : Int) (un : List Pr) (us : List Int) : List Pr := un ++ us.map fun u => ⟨u, now⟩
theorem lastU_putR (now : Int) (un : List Pr) (us : List Int) (u : Int) : lastU (putR now un us) u = if u ∈ us then now else lastU un u := by
  unfold putR
  induction us using snocRec with
  | nil => simp
  | snoc us x ih =>
    rw [List.map_append, ← List.append_assoc]
    show lastU (_ ++ [⟨x, now⟩]) u = _
    rw [lastU_snoc, ih]
    by_cases c : x = u
    · simp [c]
    · have : u ≠ x := fun e => c e.symm
      simp [c, this]
/-- the program's map and the specification's list say the same -/
def KRel (kv : List (Int × Sw)) (un : List Pr) : Prop := ∀ u, (0 ≤ lastU un u ∧ mgz kv u = ⟨true, lastU un u⟩) ∨ (lastU un u < 0 ∧ mgz kv u = ⟨false, 0⟩)
theorem KRel.nil : KRel [] [] := fun _ => .inr ⟨by show (-1 : Int) < 0; decide, rfl⟩
theorem KRel.put {kv : List (Int × Sw)} {un : List Pr} (h : KRel kv un) {now : Int} (hn : 0 ≤ now) (us : List Int) : KRel (putU now kv us) (putR now un us) := fun u => by
  rw [lastU_putR, mgz_putU]
  by_cases c : u ∈ us
  · rw [if_pos c, if_pos c]; exact .inl ⟨hn, rfl⟩
  · rw [if_neg c, if_neg c]; exact h u
theorem KRel.due {kv : List (Int × Sw)} {un : List Pr} (h : KRel kv un) (P now u : Int) : dueB P now kv u = dueR P now un u := by
  unfold dueB dueR mayB
  rcases h u with ⟨h1, h2⟩ | ⟨h1, h2⟩
  · rw [h2, decide_eq_true h1]
    simp only [Bool.not_true, Bool.false_or, Bool.true_and]
    by_cases c : P ≤ now - lastU un u
    · rw [decide_eq_true c, decide_eq_false (by omega)]; rfl
    · rw [decide_eq_false c, decide_eq_true (by omega)]; rfl
  · have e : decide (0 ≤ lastU un u) = false := decide_eq_false (by omega)
    rw [h2, e]
    rfl
/-- due units, so far -/
def frd (due : Int → Bool) (sd : List Int) (k : Nat) : List Int := (sd.take k).filter due
theorem frd_yes {due : Int → Bool} {sd : List Int} {k : Nat} (hk : k < sd.length) (hd : due (sd.getD k 0) = true) : frd due sd (k + 1) = frd due sd k ++ [sd.getD k 0] := by
  unfold frd
  rw [zAt hk, List.filter_append, List.filter_cons, if_pos hd]
  rfl
theorem frd_no {due : Int → Bool} {sd : List Int} {k : Nat} (hk : k < sd.length) (hd : due (sd.getD k 0) = false) : frd due sd (k + 1) = frd due sd k := by
  unfold frd
  rw [zAt hk, List.filter_append, List.filter_cons, hd]
  simp
theorem frd_end {due : Int → Bool} {sd : List Int} : frd due sd sd.length = sd.filter due := by unfold frd; rw [List.take_length]
theorem frd_len {due : Int → Bool} {sd : List Int} {k : Nat} : (frd due sd k).length ≤ k := by
  unfold frd
  have h1 := List.length_filter_le due (sd.take k)
  have h2 := List.length_take_le k sd
  omega
theorem frd_new {due : Int → Bool} {l : List Int} {k : Nat} (hk : k < (sdl l).length) : (sdl l).getD k 0 ∉ frd due (sdl l) k := by
  intro q
  unfold frd at q
  have hp := List.pairwise_iff_getElem.1 (sdl_lt l)
  obtain ⟨j, hj, e⟩ := List.getElem_of_mem (List.mem_filter.1 q).1
  rw [List.length_take] at hj
  rw [List.getElem_take, List.getD_eq_getElem?_getD, List.getElem?_eq_getElem hk] at e
  have := hp j k (by omega) hk (by omega)
  simp at e
  omega
theorem putU_snoc (now : Int) (kv : List (Int × Sw)) (us : List Int) (u : Int) : putU now kv (us ++ [u]) = mset (k := .int) (e := .sw) (putU now kv us) u ⟨true, now⟩ := by unfold putU; rw [List.foldl_append]; rfl
theorem outU_snoc (now : Int) (us : List Int) (u : Int) : outU now (us ++ [u]) = outU now us ++ [⟨now, 2, u⟩] := by unfold outU; rw [List.map_append]; rfl
theorem putR_snoc (now : Int) (un : List Pr) (us : List Int) (u : Int) : putR now un (us ++ [u]) = putR now un us ++ [⟨u, now⟩] := by unfold putR; rw [List.map_append, ← List.append_assoc]; rfl
/-- a step's result: safe, and what was done -/
def tkO (now : Int) (wd sil safe : Bool) (us : List Int) : List Rcy := (if wd then [⟨now, 3, 0⟩] else []) ++ (if sil then [⟨now, 4, 0⟩] else []) ++ outU now us ++ (if safe then [⟨now, 1, 0⟩] else [])
end Go.V

set_option maxRecDepth 100000
set_option maxHeartbeats 1000000
namespace Go.Proofs
open Go.Shelf
shelf_lay_g SlLaysW.n5 Slmc 5 at Try 27 as Try.mClone
end Go.Proofs
namespace Go.V
open Go.Proofs
theorem copyMap {R : RO} {μ : List Bind} {h : List Ch} {w : World} (H : HOk R μ h w) {k : KTy} {e : Ety} {kv kv0 : List (k.T × e.T)} {es : Array MapEntry} {clock : Nat} (hm : MRel R k e kv0 es.toList) (hb : Born es clock) (hs : Same kv0 kv) :
    HOk R (μ ++ [.mp w.heap.size]) (h ++ [.map k e kv]) (w.alloc (.map es clock)) ∧ Step (ownH h μ) R w (ownH (h ++ [.map k e kv]) (μ ++ [.mp w.heap.size])) R (w.alloc (.map es clock)) :=
  H.push (fun n hn => RowKit.Below.heap_alloc w _ n hn) (by simp) (by simp [ownC]) (fun n hn => by simp [ownC] at hn; subst hn; simp)
    ⟨w.heap.size, es, clock, kv0, rfl, heap_alloc_new w _, hm.1, hm.2, hb, hs⟩ rfl rfl rfl
theorem clone_map {P : Program} {g : FuncId} (hr : Here P g) (hc : ∀ (b : Nat) (es : Array MapEntry) (clock : Nat) (w : World), w.heap[b]? = some (.map es clock) → Calls P g #[.map (some b)] w fun e w' => e = .returned (.map (some w.heap.size)) ∧ w' = w.alloc (.map es clock))
    {h : List Ch} {K : KT} {t : Nat} {k : KTy} {e : Ety} {kv : List (k.T × e.T)} (H : K (.mp h.length) (h ++ [.map k e kv])) (o : hth h t = .map k e kv) : Does P g [.mp t] h K := by
  refine ⟨hr, fun R μ w vs hv H0 => ?_⟩
  cases hv with
  | cons hv h2 =>
  cases h2
  cases hv with
  | mp h1 =>
  obtain ⟨es, clock, kv0, hb, hm, hbn, hsm⟩ := map_at H0 h1 (hth_get o (by simp))
  refine (hc _ es clock w hb).mono ?_
  rintro e w' ⟨rfl, rfl⟩
  obtain ⟨H1, hst⟩ := copyMap H0 hm hbn hsm
  exact ⟨_, R, _, _, _, rfl, H, mp_new H0, H1, Ext.app _ _, hst⟩
theorem c_mclone {h : List Ch} {K : KT} {t : Nat} {kv : List (Int × Sw)} (H : K (.mp h.length) (h ++ [.map .int .sw kv])) (o : hth h t = .map .int .sw kv) : Does Try.prog 27 [.mp t] h K :=
  clone_map ⟨_, fn_27, rfl, rfl⟩ (AnyW.maps_Clone Try.mClone) H o
abbrev i_mclone := Ctr.mk (i := 0) (g := 27) @c_mclone
attribute [instance] i_mclone
end Go.V
