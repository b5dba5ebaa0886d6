/-
  Assignments: comparison of lists; the contracts of Check.
  Assignments: the examples.
  The laws: PlannerTests.
  Assignments: what the plan is (no program in sight).
  Assignments: what the reference's loop computes, in plain terms.
-/
import Derived.Test.YtalpgifnkajkbaaPart19
set_option linter.unusedVariables false
set_option linter.unusedSimpArgs false
set_option maxRecDepth 100000
set_option maxHeartbeats 16000000
namespace Go.V
open Go.Proofs
theorem all_eqG {α : Type} {z : α} {a b : List α} (hl : a.length = b.length) (h : ∀ i, i < a.length → a.getD i z = b.getD i z) : a = b := by
  refine List.ext_getElem hl fun i h1 h2 => ?_
  have := h i h1
  rwa [getEq h1, getEq h2] at this
theorem b_same (a b : List Slo) (hl : a.length ≤ 1099511627776) (hl2 : b.length ≤ 1099511627776) : DoesK Try.prog 0 11 [.ro .slo a, .ro .slo b] [] (EndF 0 (.bool (decide (a = b))) []) := by
  refine DoesK.close ?_
  by_cases hn : a.length = b.length
  · have hnd : decide (¬ (a.length : Int) = (b.length : Int)) = false := decide_eq_false (by omega)
    refine w_body (rs := [.tmp 4]) (tm := [.ro .slo a, .ro .slo b, .any, .any, .any, .any, .any, .any, .any, .any, .any, .any, .any, .any, .any, .any, .any, .any, .any, .any, .any, .any, .any, .any, .any, .any]) fn_11 rfl rfl rfl rfl fun R hR => ?_
    (have zx1 := @hnd; all_goals (try ((first | (with_reducible refine wp_id ?_) | (with_reducible refine does_id ?_) | (with_reducible refine ops_id ?_)); refine walk ?_; (repeat' (first | exact trivial | with_reducible refine And.intro ?_ ?_)); all_goals (repeat (first | (with_reducible refine ImpB.mk fun hb => ?_) | (with_reducible refine ImpK.mk fun hK => ?_) | (with_reducible refine ImpF.mk fun hF => ?_) | (with_reducible refine ImpQ.mk fun hp => ?_) | (with_reducible refine AllE.mk fun p => ?_) | (with_reducible refine AllR.mk fun rest => ?_) | (with_reducible refine AllK.mk fun K => ?_))))); repeat' (with_reducible refine And.intro ?_ ?_))
    any_goals ((try (refine w_seq fun K hK => ?_)); (try (refine w_block ?_)); refine w_loop (A := Nat) (fun k => k ≤ a.length ∧ ∀ i, i < k → a.getD i Slo.zero = b.getD i Slo.zero) (fun k => a.length - k) (fun k => [(5, .int .i64 k)]) (fun _ => []) (0) (ws := ?ws1) (tk := ?tk1) ?hw1 ?ht1 ?hi ?h0 ?LH1; (case hw1 => simp only [go_sem, decide_true, decide_false, Int.reduceToNat, Nat.min_eq_left, Nat.min_eq_right, Int.reducePow, Nat.reducePow, Int.reduceLE, Int.reduceLT, Int.reduceMul, Int.reduceAdd, Int.reduceSub, Int.reduceNeg, Bool.not_true, Bool.not_false, Bool.not_not, ↓reduceIte, Nat.reduceAdd, Nat.reduceSub, Nat.reduceMul, Nat.reduceEqDiff, reduceCtorEq, Nat.reduceLT, Nat.reduceLeDiff, Nat.reduceGT]; exact rfl); (case ht1 => simp only [go_sem, decide_true, decide_false, Int.reduceToNat, Nat.min_eq_left, Nat.min_eq_right, Int.reducePow, Nat.reducePow, Int.reduceLE, Int.reduceLT, Int.reduceMul, Int.reduceAdd, Int.reduceSub, Int.reduceNeg, Bool.not_true, Bool.not_false, Bool.not_not, ↓reduceIte, Nat.reduceAdd, Nat.reduceSub, Nat.reduceMul, Nat.reduceEqDiff, reduceCtorEq, Nat.reduceLT, Nat.reduceLeDiff, Nat.reduceGT]; exact rfl); (case' LH1 => rintro k E t hx hE ht; simp only [go_sem] at ht; subst ht; simp only [go_sem]; try dsimp only at hx))
    case hi => exact ⟨Nat.zero_le _, fun i hi => absurd hi (by omega)⟩
    case h0 => (focus (refine ⟨_, _, Gh.refl, [], rfl, ?_⟩; (refine ⟨?_, ?_, ?_⟩ <;> simp only [go_sem, List.range, List.range.loop, List.nodup_cons, List.nodup_nil, List.mem_cons, List.not_mem_nil, or_false, or_self, decide_true, decide_false, Int.reduceToNat, Nat.min_eq_left, Nat.min_eq_right, Int.reducePow, Nat.reducePow, Int.reduceLE, Int.reduceLT, Int.reduceMul, Int.reduceAdd, Int.reduceSub, Int.reduceNeg, Bool.not_true, Bool.not_false, Bool.not_not, ↓reduceIte, Nat.reduceAdd, Nat.reduceSub, Nat.reduceMul, Nat.reduceEqDiff, reduceCtorEq, Nat.reduceLT, Nat.reduceLeDiff, Nat.reduceGT]); (try any_goals (refine ⟨?_, ?_⟩)); (try any_goals (with_reducible rfl))))
    case LH1 =>
      obtain ⟨hk0, hc⟩ := hx
      have hw1 : IntKind.i64.wrap ((k : Int) + 1) = ((k + 1 : Nat) : Int) := by rw [wrap_i64 _ (by omega) (by omega)]; omega
      by_cases hk : k < a.length
      · have hkd : decide ((k : Int) < (a.length : Int)) = true := decide_eq_true (by omega)
        obtain ⟨x, hxe⟩ : ∃ x, a.getD k Slo.zero = x := ⟨_, rfl⟩
        obtain ⟨y, hye⟩ : ∃ y, b.getD k Slo.zero = y := ⟨_, rfl⟩
        (have zx1 := @hkd; have zx2 := @hw1; have zx3 := @hxe; have zx4 := @hye; all_goals (try ((first | (with_reducible refine wp_id ?_) | (with_reducible refine does_id ?_) | (with_reducible refine ops_id ?_)); refine walk ?_; (repeat' (first | exact trivial | with_reducible refine And.intro ?_ ?_)); all_goals (repeat (first | (with_reducible refine ImpB.mk fun hb => ?_) | (with_reducible refine ImpK.mk fun hK => ?_) | (with_reducible refine ImpF.mk fun hF => ?_) | (with_reducible refine ImpQ.mk fun hp => ?_) | (with_reducible refine AllE.mk fun p => ?_) | (with_reducible refine AllR.mk fun rest => ?_) | (with_reducible refine AllK.mk fun K => ?_))))); repeat' (with_reducible refine And.intro ?_ ?_))
        (all_goals first | exact Int.natCast_nonneg _ | exact Int.ofNat_lt.2 (by assumption) | assumption | omega | exact Nat.le_refl _ | (exfalso; simp at hb; done) | (simp only [go_sem, decide_true, decide_false, Int.reduceToNat, Nat.min_eq_left, Nat.min_eq_right, Int.reducePow, Nat.reducePow, Int.reduceLE, Int.reduceLT, Int.reduceMul, Int.reduceAdd, Int.reduceSub, Int.reduceNeg, Bool.not_true, Bool.not_false, Bool.not_not, ↓reduceIte, Nat.reduceAdd, Nat.reduceSub, Nat.reduceMul, Nat.reduceEqDiff, reduceCtorEq, Nat.reduceLT, Nat.reduceLeDiff, Nat.reduceGT]; done) | (unfold capM; omega) | (simp only [List.length_drop, List.length_take, List.length_append, List.length_cons, List.length_nil]; omega) | skip)
        · have hxy : ¬ x = y := fun e => by subst e; simp at hb
          rw [decide_eq_false fun e : a = b => hxy (by rw [← hxe, ← hye, e])]
          (focus (refine ⟨_, _, Gh.refl, [], rfl, ?_⟩; (refine ⟨?_, ?_, ?_⟩ <;> simp only [go_sem, List.range, List.range.loop, List.nodup_cons, List.nodup_nil, List.mem_cons, List.not_mem_nil, or_false, or_self, decide_true, decide_false, Int.reduceToNat, Nat.min_eq_left, Nat.min_eq_right, Int.reducePow, Nat.reducePow, Int.reduceLE, Int.reduceLT, Int.reduceMul, Int.reduceAdd, Int.reduceSub, Int.reduceNeg, Bool.not_true, Bool.not_false, Bool.not_not, ↓reduceIte, Nat.reduceAdd, Nat.reduceSub, Nat.reduceMul, Nat.reduceEqDiff, reduceCtorEq, Nat.reduceLT, Nat.reduceLeDiff, Nat.reduceGT]); (try any_goals (refine ⟨?_, ?_⟩)); (try any_goals (with_reducible rfl))))
        · have hxy : x = y := by
            obtain ⟨x1, x2, x3, x4⟩ := x
            obtain ⟨y1, y2, y3, y4⟩ := y
            simp only [Bool.not_eq_false', Bool.and_eq_true, decide_eq_true_eq, Bool.and_true] at hb
            obtain ⟨rfl, rfl, rfl, rfl⟩ := hb
            rfl
          refine ⟨k + 1, ⟨⟨by first | omega | (dsimp only; omega), fun i hi => ?_⟩, by first | omega | (dsimp only; omega)⟩, ?_⟩
          · by_cases e : i = k
            · rw [e, hxe, hye]; exact hxy
            · exact hc i (by omega)
          (focus (refine ⟨_, _, Gh.refl, [], rfl, ?_⟩; (refine ⟨?_, ?_, ?_⟩ <;> simp only [go_sem, List.range, List.range.loop, List.nodup_cons, List.nodup_nil, List.mem_cons, List.not_mem_nil, or_false, or_self, decide_true, decide_false, Int.reduceToNat, Nat.min_eq_left, Nat.min_eq_right, Int.reducePow, Nat.reducePow, Int.reduceLE, Int.reduceLT, Int.reduceMul, Int.reduceAdd, Int.reduceSub, Int.reduceNeg, Bool.not_true, Bool.not_false, Bool.not_not, ↓reduceIte, Nat.reduceAdd, Nat.reduceSub, Nat.reduceMul, Nat.reduceEqDiff, reduceCtorEq, Nat.reduceLT, Nat.reduceLeDiff, Nat.reduceGT]); (try any_goals (refine ⟨?_, ?_⟩)); (try any_goals (with_reducible rfl))))
      · have hkd : decide ((k : Int) < (a.length : Int)) = false := decide_eq_false (by omega)
        have hab : a = b := all_eqG hn fun i hi => hc i (by omega)
        have habd : decide (a = b) = true := decide_eq_true hab
        (have zx1 := @hkd; all_goals (try ((first | (with_reducible refine wp_id ?_) | (with_reducible refine does_id ?_) | (with_reducible refine ops_id ?_)); refine walk ?_; (repeat' (first | exact trivial | with_reducible refine And.intro ?_ ?_)); all_goals (repeat (first | (with_reducible refine ImpB.mk fun hb => ?_) | (with_reducible refine ImpK.mk fun hK => ?_) | (with_reducible refine ImpF.mk fun hF => ?_) | (with_reducible refine ImpQ.mk fun hp => ?_) | (with_reducible refine AllE.mk fun p => ?_) | (with_reducible refine AllR.mk fun rest => ?_) | (with_reducible refine AllK.mk fun K => ?_))))); repeat' (with_reducible refine And.intro ?_ ?_))
        rw [habd]
        (focus (refine ⟨_, _, Gh.refl, [], rfl, ?_⟩; (refine ⟨?_, ?_, ?_⟩ <;> simp only [go_sem, List.range, List.range.loop, List.nodup_cons, List.nodup_nil, List.mem_cons, List.not_mem_nil, or_false, or_self, decide_true, decide_false, Int.reduceToNat, Nat.min_eq_left, Nat.min_eq_right, Int.reducePow, Nat.reducePow, Int.reduceLE, Int.reduceLT, Int.reduceMul, Int.reduceAdd, Int.reduceSub, Int.reduceNeg, Bool.not_true, Bool.not_false, Bool.not_not, ↓reduceIte, Nat.reduceAdd, Nat.reduceSub, Nat.reduceMul, Nat.reduceEqDiff, reduceCtorEq, Nat.reduceLT, Nat.reduceLeDiff, Nat.reduceGT]); (try any_goals (refine ⟨?_, ?_⟩)); (try any_goals (with_reducible rfl))))
  · have hnd : decide (¬ (a.length : Int) = (b.length : Int)) = true := decide_eq_true (by omega)
    rw [decide_eq_false fun e : a = b => hn (by rw [e])]
    refine w_body (rs := [.tmp 4]) (tm := [.ro .slo a, .ro .slo b, .any, .any, .any, .any, .any, .any, .any, .any, .any, .any, .any, .any, .any, .any, .any, .any, .any, .any, .any, .any, .any, .any, .any, .any]) fn_11 rfl rfl rfl rfl fun R hR => ?_
    (have zx1 := @hnd; all_goals (try ((first | (with_reducible refine wp_id ?_) | (with_reducible refine does_id ?_) | (with_reducible refine ops_id ?_)); refine walk ?_; (repeat' (first | exact trivial | with_reducible refine And.intro ?_ ?_)); all_goals (repeat (first | (with_reducible refine ImpB.mk fun hb => ?_) | (with_reducible refine ImpK.mk fun hK => ?_) | (with_reducible refine ImpF.mk fun hF => ?_) | (with_reducible refine ImpQ.mk fun hp => ?_) | (with_reducible refine AllE.mk fun p => ?_) | (with_reducible refine AllR.mk fun rest => ?_) | (with_reducible refine AllK.mk fun K => ?_))))); repeat' (with_reducible refine And.intro ?_ ?_))
    (focus (refine ⟨_, _, Gh.refl, [], rfl, ?_⟩; (refine ⟨?_, ?_, ?_⟩ <;> simp only [go_sem, List.range, List.range.loop, List.nodup_cons, List.nodup_nil, List.mem_cons, List.not_mem_nil, or_false, or_self, decide_true, decide_false, Int.reduceToNat, Nat.min_eq_left, Nat.min_eq_right, Int.reducePow, Nat.reducePow, Int.reduceLE, Int.reduceLT, Int.reduceMul, Int.reduceAdd, Int.reduceSub, Int.reduceNeg, Bool.not_true, Bool.not_false, Bool.not_not, ↓reduceIte, Nat.reduceAdd, Nat.reduceSub, Nat.reduceMul, Nat.reduceEqDiff, reduceCtorEq, Nat.reduceLT, Nat.reduceLeDiff, Nat.reduceGT]); (try any_goals (refine ⟨?_, ?_⟩)); (try any_goals (with_reducible rfl))))
theorem b_sameI (a b : List Int) (hl : a.length ≤ 1099511627776) (hl2 : b.length ≤ 1099511627776) : DoesK Try.prog 0 12 [.ro .int a, .ro .int b] [] (EndF 0 (.bool (decide (a = b))) []) := by
  refine DoesK.close ?_
  by_cases hn : a.length = b.length
  · have hnd : decide (¬ (a.length : Int) = (b.length : Int)) = false := decide_eq_false (by omega)
    refine w_body (rs := [.tmp 4]) (tm := [.ro .int a, .ro .int b, .any, .any, .any, .any, .any, .any, .any, .any, .any, .any, .any, .any, .any, .any, .any, .any, .any, .any, .any, .any, .any, .any, .any, .any]) fn_12 rfl rfl rfl rfl fun R hR => ?_
    (have zx1 := @hnd; all_goals (try ((first | (with_reducible refine wp_id ?_) | (with_reducible refine does_id ?_) | (with_reducible refine ops_id ?_)); refine walk ?_; (repeat' (first | exact trivial | with_reducible refine And.intro ?_ ?_)); all_goals (repeat (first | (with_reducible refine ImpB.mk fun hb => ?_) | (with_reducible refine ImpK.mk fun hK => ?_) | (with_reducible refine ImpF.mk fun hF => ?_) | (with_reducible refine ImpQ.mk fun hp => ?_) | (with_reducible refine AllE.mk fun p => ?_) | (with_reducible refine AllR.mk fun rest => ?_) | (with_reducible refine AllK.mk fun K => ?_))))); repeat' (with_reducible refine And.intro ?_ ?_))
    any_goals ((try (refine w_seq fun K hK => ?_)); (try (refine w_block ?_)); refine w_loop (A := Nat) (fun k => k ≤ a.length ∧ ∀ i, i < k → a.getD i 0 = b.getD i 0) (fun k => a.length - k) (fun k => [(5, .int .i64 k)]) (fun _ => []) (0) (ws := ?ws2) (tk := ?tk2) ?hw2 ?ht2 ?hi ?h0 ?LH2; (case hw2 => simp only [go_sem, decide_true, decide_false, Int.reduceToNat, Nat.min_eq_left, Nat.min_eq_right, Int.reducePow, Nat.reducePow, Int.reduceLE, Int.reduceLT, Int.reduceMul, Int.reduceAdd, Int.reduceSub, Int.reduceNeg, Bool.not_true, Bool.not_false, Bool.not_not, ↓reduceIte, Nat.reduceAdd, Nat.reduceSub, Nat.reduceMul, Nat.reduceEqDiff, reduceCtorEq, Nat.reduceLT, Nat.reduceLeDiff, Nat.reduceGT]; exact rfl); (case ht2 => simp only [go_sem, decide_true, decide_false, Int.reduceToNat, Nat.min_eq_left, Nat.min_eq_right, Int.reducePow, Nat.reducePow, Int.reduceLE, Int.reduceLT, Int.reduceMul, Int.reduceAdd, Int.reduceSub, Int.reduceNeg, Bool.not_true, Bool.not_false, Bool.not_not, ↓reduceIte, Nat.reduceAdd, Nat.reduceSub, Nat.reduceMul, Nat.reduceEqDiff, reduceCtorEq, Nat.reduceLT, Nat.reduceLeDiff, Nat.reduceGT]; exact rfl); (case' LH2 => rintro k E t hx hE ht; simp only [go_sem] at ht; subst ht; simp only [go_sem]; try dsimp only at hx))
    case hi => exact ⟨Nat.zero_le _, fun i hi => absurd hi (by omega)⟩
    case h0 => (focus (refine ⟨_, _, Gh.refl, [], rfl, ?_⟩; (refine ⟨?_, ?_, ?_⟩ <;> simp only [go_sem, List.range, List.range.loop, List.nodup_cons, List.nodup_nil, List.mem_cons, List.not_mem_nil, or_false, or_self, decide_true, decide_false, Int.reduceToNat, Nat.min_eq_left, Nat.min_eq_right, Int.reducePow, Nat.reducePow, Int.reduceLE, Int.reduceLT, Int.reduceMul, Int.reduceAdd, Int.reduceSub, Int.reduceNeg, Bool.not_true, Bool.not_false, Bool.not_not, ↓reduceIte, Nat.reduceAdd, Nat.reduceSub, Nat.reduceMul, Nat.reduceEqDiff, reduceCtorEq, Nat.reduceLT, Nat.reduceLeDiff, Nat.reduceGT]); (try any_goals (refine ⟨?_, ?_⟩)); (try any_goals (with_reducible rfl))))
    case LH2 =>
      obtain ⟨hk0, hc⟩ := hx
      have hw1 : IntKind.i64.wrap ((k : Int) + 1) = ((k + 1 : Nat) : Int) := by rw [wrap_i64 _ (by omega) (by omega)]; omega
      by_cases hk : k < a.length
      · have hkd : decide ((k : Int) < (a.length : Int)) = true := decide_eq_true (by omega)
        obtain ⟨x, hxe⟩ : ∃ x, a.getD k 0 = x := ⟨_, rfl⟩
        obtain ⟨y, hye⟩ : ∃ y, b.getD k 0 = y := ⟨_, rfl⟩
        (have zx1 := @hkd; have zx2 := @hw1; have zx3 := @hxe; have zx4 := @hye; all_goals (try ((first | (with_reducible refine wp_id ?_) | (with_reducible refine does_id ?_) | (with_reducible refine ops_id ?_)); refine walk ?_; (repeat' (first | exact trivial | with_reducible refine And.intro ?_ ?_)); all_goals (repeat (first | (with_reducible refine ImpB.mk fun hb => ?_) | (with_reducible refine ImpK.mk fun hK => ?_) | (with_reducible refine ImpF.mk fun hF => ?_) | (with_reducible refine ImpQ.mk fun hp => ?_) | (with_reducible refine AllE.mk fun p => ?_) | (with_reducible refine AllR.mk fun rest => ?_) | (with_reducible refine AllK.mk fun K => ?_))))); repeat' (with_reducible refine And.intro ?_ ?_))
        (all_goals first | exact Int.natCast_nonneg _ | exact Int.ofNat_lt.2 (by assumption) | assumption | omega | exact Nat.le_refl _ | (exfalso; simp at hb; done) | (simp only [go_sem, decide_true, decide_false, Int.reduceToNat, Nat.min_eq_left, Nat.min_eq_right, Int.reducePow, Nat.reducePow, Int.reduceLE, Int.reduceLT, Int.reduceMul, Int.reduceAdd, Int.reduceSub, Int.reduceNeg, Bool.not_true, Bool.not_false, Bool.not_not, ↓reduceIte, Nat.reduceAdd, Nat.reduceSub, Nat.reduceMul, Nat.reduceEqDiff, reduceCtorEq, Nat.reduceLT, Nat.reduceLeDiff, Nat.reduceGT]; done) | (unfold capM; omega) | (simp only [List.length_drop, List.length_take, List.length_append, List.length_cons, List.length_nil]; omega) | skip)
        · have hxy : ¬ x = y := fun e => by subst e; simp at hb
          rw [decide_eq_false fun e : a = b => hxy (by rw [← hxe, ← hye, e])]
          (focus (refine ⟨_, _, Gh.refl, [], rfl, ?_⟩; (refine ⟨?_, ?_, ?_⟩ <;> simp only [go_sem, List.range, List.range.loop, List.nodup_cons, List.nodup_nil, List.mem_cons, List.not_mem_nil, or_false, or_self, decide_true, decide_false, Int.reduceToNat, Nat.min_eq_left, Nat.min_eq_right, Int.reducePow, Nat.reducePow, Int.reduceLE, Int.reduceLT, Int.reduceMul, Int.reduceAdd, Int.reduceSub, Int.reduceNeg, Bool.not_true, Bool.not_false, Bool.not_not, ↓reduceIte, Nat.reduceAdd, Nat.reduceSub, Nat.reduceMul, Nat.reduceEqDiff, reduceCtorEq, Nat.reduceLT, Nat.reduceLeDiff, Nat.reduceGT]); (try any_goals (refine ⟨?_, ?_⟩)); (try any_goals (with_reducible rfl))))
        · have hxy : x = y := by simpa using hb
          refine ⟨k + 1, ⟨⟨by first | omega | (dsimp only; omega), fun i hi => ?_⟩, by first | omega | (dsimp only; omega)⟩, ?_⟩
          · by_cases e : i = k
            · rw [e, hxe, hye]; exact hxy
            · exact hc i (by omega)
          (focus (refine ⟨_, _, Gh.refl, [], rfl, ?_⟩; (refine ⟨?_, ?_, ?_⟩ <;> simp only [go_sem, List.range, List.range.loop, List.nodup_cons, List.nodup_nil, List.mem_cons, List.not_mem_nil, or_false, or_self, decide_true, decide_false, Int.reduceToNat, Nat.min_eq_left, Nat.min_eq_right, Int.reducePow, Nat.reducePow, Int.reduceLE, Int.reduceLT, Int.reduceMul, Int.reduceAdd, Int.reduceSub, Int.reduceNeg, Bool.not_true, Bool.not_false, Bool.not_not, ↓reduceIte, Nat.reduceAdd, Nat.reduceSub, Nat.reduceMul, Nat.reduceEqDiff, reduceCtorEq, Nat.reduceLT, Nat.reduceLeDiff, Nat.reduceGT]); (try any_goals (refine ⟨?_, ?_⟩)); (try any_goals (with_reducible rfl))))
      · have hkd : decide ((k : Int) < (a.length : Int)) = false := decide_eq_false (by omega)
        have hab : a = b := all_eqG hn fun i hi => hc i (by omega)
        have habd : decide (a = b) = true := decide_eq_true hab
        (have zx1 := @hkd; all_goals (try ((first | (with_reducible refine wp_id ?_) | (with_reducible refine does_id ?_) | (with_reducible refine ops_id ?_)); refine walk ?_; (repeat' (first | exact trivial | with_reducible refine And.intro ?_ ?_)); all_goals (repeat (first | (with_reducible refine ImpB.mk fun hb => ?_) | (with_reducible refine ImpK.mk fun hK => ?_) | (with_reducible refine ImpF.mk fun hF => ?_) | (with_reducible refine ImpQ.mk fun hp => ?_) | (with_reducible refine AllE.mk fun p => ?_) | (with_reducible refine AllR.mk fun rest => ?_) | (with_reducible refine AllK.mk fun K => ?_))))); repeat' (with_reducible refine And.intro ?_ ?_))
        rw [habd]
        (focus (refine ⟨_, _, Gh.refl, [], rfl, ?_⟩; (refine ⟨?_, ?_, ?_⟩ <;> simp only [go_sem, List.range, List.range.loop, List.nodup_cons, List.nodup_nil, List.mem_cons, List.not_mem_nil, or_false, or_self, decide_true, decide_false, Int.reduceToNat, Nat.min_eq_left, Nat.min_eq_right, Int.reducePow, Nat.reducePow, Int.reduceLE, Int.reduceLT, Int.reduceMul, Int.reduceAdd, Int.reduceSub, Int.reduceNeg, Bool.not_true, Bool.not_false, Bool.not_not, ↓reduceIte, Nat.reduceAdd, Nat.reduceSub, Nat.reduceMul, Nat.reduceEqDiff, reduceCtorEq, Nat.reduceLT, Nat.reduceLeDiff, Nat.reduceGT]); (try any_goals (refine ⟨?_, ?_⟩)); (try any_goals (with_reducible rfl))))
  · have hnd : decide (¬ (a.length : Int) = (b.length : Int)) = true := decide_eq_true (by omega)
    rw [decide_eq_false fun e : a = b => hn (by rw [e])]
    refine w_body (rs := [.tmp 4]) (tm := [.ro .int a, .ro .int b, .any, .any, .any, .any, .any, .any, .any, .any, .any, .any, .any, .any, .any, .any, .any, .any, .any, .any, .any, .any, .any, .any, .any, .any]) fn_12 rfl rfl rfl rfl fun R hR => ?_
    (have zx1 := @hnd; all_goals (try ((first | (with_reducible refine wp_id ?_) | (with_reducible refine does_id ?_) | (with_reducible refine ops_id ?_)); refine walk ?_; (repeat' (first | exact trivial | with_reducible refine And.intro ?_ ?_)); all_goals (repeat (first | (with_reducible refine ImpB.mk fun hb => ?_) | (with_reducible refine ImpK.mk fun hK => ?_) | (with_reducible refine ImpF.mk fun hF => ?_) | (with_reducible refine ImpQ.mk fun hp => ?_) | (with_reducible refine AllE.mk fun p => ?_) | (with_reducible refine AllR.mk fun rest => ?_) | (with_reducible refine AllK.mk fun K => ?_))))); repeat' (with_reducible refine And.intro ?_ ?_))
    (focus (refine ⟨_, _, Gh.refl, [], rfl, ?_⟩; (refine ⟨?_, ?_, ?_⟩ <;> simp only [go_sem, List.range, List.range.loop, List.nodup_cons, List.nodup_nil, List.mem_cons, List.not_mem_nil, or_false, or_self, decide_true, decide_false, Int.reduceToNat, Nat.min_eq_left, Nat.min_eq_right, Int.reducePow, Nat.reducePow, Int.reduceLE, Int.reduceLT, Int.reduceMul, Int.reduceAdd, Int.reduceSub, Int.reduceNeg, Bool.not_true, Bool.not_false, Bool.not_not, ↓reduceIte, Nat.reduceAdd, Nat.reduceSub, Nat.reduceMul, Nat.reduceEqDiff, reduceCtorEq, Nat.reduceLT, Nat.reduceLeDiff, Nat.reduceGT]); (try any_goals (refine ⟨?_, ?_⟩)); (try any_goals (with_reducible rfl))))
theorem c_same {h : List Ch} {K : KT} {a b : List Slo} {x y : AV} (H : K (.bool (decide (a = b))) h) (b1 : brA [] h (.ro .slo a) x) (b2 : brA [] h (.ro .slo b) y) (s1 : a.length ≤ 1099511627776) (s2 : b.length ≤ 1099511627776) : Does Try.prog 11 [x, y] h K :=
  frame_pure (b_same a b s1 s2) (br_cons b1 (br_cons b2 br_nil)) (.inr rfl) (fun _ => rfl) H
abbrev i_same := Ctr.mk (i := 0) (g := 11) @c_same
attribute [instance] i_same
theorem c_sameI {h : List Ch} {K : KT} {a b : List Int} {x y : AV} (H : K (.bool (decide (a = b))) h) (b1 : brA [] h (.ro .int a) x) (b2 : brA [] h (.ro .int b) y) (s1 : a.length ≤ 1099511627776) (s2 : b.length ≤ 1099511627776) : Does Try.prog 12 [x, y] h K :=
  frame_pure (b_sameI a b s1 s2) (br_cons b1 (br_cons b2 br_nil)) (.inr rfl) (fun _ => rfl) H
abbrev i_sameI := Ctr.mk (i := 0) (g := 12) @c_sameI
attribute [instance] i_sameI
theorem c_check {h : List Ch} {K : KT} {w : List Win} {l : List Job} {rate : Int} {s : List Slo} {x y z : AV} (H : K (.bool (chkB w l rate s)) h) (b1 : brA [] h (.ro .win w) x) (b2 : brA [] h (.ro .job l) y) (b3 : brA [] h (.ro .slo s) z) (s1 : w.length ≤ 9223372036854775807) (s2 : l.length ≤ 9223372036854775807) (s3 : hasS s) (s4 : s.length ≤ 1099511627776) : Does Try.prog 14 [x, y, .int .i64 rate, z] h K :=
  frame_pure (b_check w l rate s s1 s2 s3 s4) (br_cons b1 (br_cons b2 (br_cons br_int (br_cons b3 br_nil)))) (.inr rfl) (fun _ => rfl) H
abbrev i_check := Ctr.mk (i := 0) (g := 14) @c_check
attribute [instance] i_check
/-- the jobs are owned: they lie for good from here on -/
theorem c_passignS {h : List Ch} {K : KT} {t n : Nat} {w : List Win} {l : List Job} {rate : Int} {a : AV} (H : K (pAns w l rate) (frHs t .job l (h.set t .gone))) (o : hth h t = .rows .job l) (q1 : isRO .win w a) (s1 : n = l.length) (s2 : frObH t .job l.length h) (s3 : w.length ≤ 9223372036854775807) (s4 : l.length ≤ 9223372036854775807) (s5 : l.length ≤ 256 ∨ usB w l rate = false) : Does Try.prog 9 [a, .sl t .job 0 n, .int .i64 rate] h K := by
  subst s1
  refine Does.ghost (gh_frz (e := .job) (xs := l) o ?_ s2) ?_
  · rcases q1 with rfl | ⟨rfl, rfl⟩ <;> simp [frObL, frOb]
  · have e : frL t .job l [a, .sl t .job 0 l.length, .int .i64 rate] = [a, .ro .job l, .int .i64 rate] := by rcases q1 with rfl | ⟨rfl, rfl⟩ <;> simp [frL, frA]
    rw [e]
    exact c_passign H q1 isRO_ro s3 s4 s5
abbrev i_passignS := Ctr.mk (i := 1) (g := 9) @c_passignS
attribute [instance] i_passignS
end Go.V

set_option maxRecDepth 100000
set_option maxHeartbeats 16000000
namespace Go.V
open Go.Proofs
abbrev W0 : List Win := [⟨1, 10, 20, 1⟩, ⟨2, 15, 40, 1⟩]
abbrev jA : Job := ⟨0, 11, 0, 100, 0⟩
abbrev jB : Job := ⟨0, 40, 0, 100, 0⟩
abbrev jC : Job := ⟨0, 11, 0, 12, 0⟩
theorem sortZ_nil : sortZ [] = [] := by unfold sortZ; simp
theorem sortZ_one (a : Int) : sortZ [a] = [a] := by unfold sortZ; simp
theorem u1 : usB W0 [jA, jA] 2 = true := by decide
theorem u2 : usB W0 [jB, jC] 2 = true := by decide
theorem u3 : usB W0 [] 0 = false := by decide
theorem r1 : runJ W0 [jA, jA] 2 (ordJ [jA, jA]) = ([⟨0, 0, 10, 16⟩, ⟨1, 1, 16, 22⟩], []) := by rfl
theorem r2 : runJ W0 [jB, jC] 2 (ordJ [jB, jC]) = ([⟨0, 1, 15, 35⟩], [1]) := by rfl
theorem p1 : pAns W0 [jA, jA] 2 = .tup [.ro .slo [⟨0, 0, 10, 16⟩, ⟨1, 1, 16, 22⟩], .ro .int [], .int .i64 0] := by unfold pAns; rw [u1, if_pos rfl, r1, sortZ_nil]
theorem p2 : pAns W0 [jB, jC] 2 = .tup [.ro .slo [⟨0, 1, 15, 35⟩], .ro .int [1], .int .i64 0] := by unfold pAns; rw [u2, if_pos rfl, r2, sortZ_one]
theorem p3 : pAns W0 [] 0 = .tup [.ro .slo [], .ro .int [], .int .i64 1] := by unfold pAns; rw [u3]; rfl
theorem k1 : chkB W0 [jA, jA] 2 [⟨0, 0, 10, 16⟩, ⟨1, 1, 16, 22⟩] = true := by decide
theorem k2 : chkB W0 [jA, jA] 2 [⟨0, 0, 9, 15⟩] = false := by decide
theorem hs1 : hasS [⟨0, 0, 10, 16⟩, ⟨1, 1, 16, 22⟩] := by
  intro x hx
  rcases List.mem_cons.1 hx with rfl | hx
  · refine ⟨⟨?_, ?_⟩, ?_, ?_⟩ <;> decide
  rcases List.mem_cons.1 hx with rfl | hx
  · refine ⟨⟨?_, ?_⟩, ?_, ?_⟩ <;> decide
  cases hx
theorem hs2 : hasS [⟨0, 0, 9, 15⟩] := by
  intro x hx
  rcases List.mem_cons.1 hx with rfl | hx
  · refine ⟨⟨?_, ?_⟩, ?_, ?_⟩ <;> decide
  cases hx
theorem b_lives : DoesK Try.prog 0 8 [] [] (EndF 0 (.bool true) []) := by
  refine DoesK.close ?_
  have q1 := p1
  have q2 := p2
  have q3 := p3
  have g1 := k1
  have g2 := k2
  refine w_body (rs := [.tmp 0]) (tm := [.any, .any, .any, .any, .any, .any, .any, .any, .any, .any, .any, .any, .any, .any, .any, .any, .any, .any, .any, .any, .any, .any, .any, .any, .any, .any, .any, .any, .any, .any, .any, .any, .any, .any, .any, .any, .any, .any, .any, .any, .any, .any, .any, .any, .any, .any, .any, .any, .any, .any, .any, .any, .any, .any, .any, .any, .any, .any, .any, .any, .any, .any, .any, .any, .any, .any, .any, .any, .any, .any, .any, .any, .any, .any, .any, .any, .any, .any, .any, .any, .any, .any, .any, .any, .any, .any, .any, .any, .any, .any, .any, .any, .any, .any, .any]) fn_8 rfl rfl rfl rfl fun R hR => ?_
  refine w_seq fun K1 hk1 => ?_
  have hq1 := Slot.mk hk1
  clear hk1
  (all_goals (try ((first | (with_reducible refine wp_id ?_) | (with_reducible refine does_id ?_) | (with_reducible refine ops_id ?_)); refine walk ?_; (repeat' (first | exact trivial | with_reducible refine And.intro ?_ ?_)); all_goals (repeat (first | (with_reducible refine ImpB.mk fun hb => ?_) | (with_reducible refine ImpK.mk fun hK => ?_) | (with_reducible refine ImpF.mk fun hF => ?_) | (with_reducible refine ImpQ.mk fun hp => ?_) | (with_reducible refine AllE.mk fun p => ?_) | (with_reducible refine AllR.mk fun rest => ?_) | (with_reducible refine AllK.mk fun K => ?_))))); repeat' (with_reducible refine And.intro ?_ ?_))
  refine hq1.un _ _ ?_
  refine w_seq fun K2 hk2 => ?_
  have hq2 := Slot.mk hk2
  clear hk2
  (all_goals (try ((first | (with_reducible refine wp_id ?_) | (with_reducible refine does_id ?_) | (with_reducible refine ops_id ?_)); refine walk ?_; (repeat' (first | exact trivial | with_reducible refine And.intro ?_ ?_)); all_goals (repeat (first | (with_reducible refine ImpB.mk fun hb => ?_) | (with_reducible refine ImpK.mk fun hK => ?_) | (with_reducible refine ImpF.mk fun hF => ?_) | (with_reducible refine ImpQ.mk fun hp => ?_) | (with_reducible refine AllE.mk fun p => ?_) | (with_reducible refine AllR.mk fun rest => ?_) | (with_reducible refine AllK.mk fun K => ?_))))); repeat' (with_reducible refine And.intro ?_ ?_))
  refine hq2.un _ _ (Wp.ghost (gh_frz (t := 0) (e := .win) (xs := W0) rfl ?f1 ?f2) ?_)
  case f1 => simp only [go_sem, decide_true, decide_false, Int.reduceToNat, Nat.min_eq_left, Nat.min_eq_right, Int.reducePow, Nat.reducePow, Int.reduceLE, Int.reduceLT, Int.reduceMul, Int.reduceAdd, Int.reduceSub, Int.reduceNeg, Bool.not_true, Bool.not_false, Bool.not_not, ↓reduceIte, Nat.reduceAdd, Nat.reduceSub, Nat.reduceMul, Nat.reduceEqDiff, reduceCtorEq, Nat.reduceLT, Nat.reduceLeDiff, Nat.reduceGT]
  case f2 => simp only [go_sem, decide_true, decide_false, Int.reduceToNat, Nat.min_eq_left, Nat.min_eq_right, Int.reducePow, Nat.reducePow, Int.reduceLE, Int.reduceLT, Int.reduceMul, Int.reduceAdd, Int.reduceSub, Int.reduceNeg, Bool.not_true, Bool.not_false, Bool.not_not, ↓reduceIte, Nat.reduceAdd, Nat.reduceSub, Nat.reduceMul, Nat.reduceEqDiff, reduceCtorEq, Nat.reduceLT, Nat.reduceLeDiff, Nat.reduceGT]
  change Wp _ _ _ (frL 0 .win W0 _) (frHs 0 .win W0 [.gone]) _
  simp only [go_sem, decide_true, decide_false, Int.reduceToNat, Nat.min_eq_left, Nat.min_eq_right, Int.reducePow, Nat.reducePow, Int.reduceLE, Int.reduceLT, Int.reduceMul, Int.reduceAdd, Int.reduceSub, Int.reduceNeg, Bool.not_true, Bool.not_false, Bool.not_not, ↓reduceIte, Nat.reduceAdd, Nat.reduceSub, Nat.reduceMul, Nat.reduceEqDiff, reduceCtorEq, Nat.reduceLT, Nat.reduceLeDiff, Nat.reduceGT, List.drop_zero]
  have ht : W0.take 2 = W0 := rfl
  (have zx1 := @q1; have zx2 := @q2; have zx3 := @q3; have zx4 := @g1; have zx5 := @g2; all_goals (try ((first | (with_reducible refine wp_id ?_) | (with_reducible refine does_id ?_) | (with_reducible refine ops_id ?_)); refine walk ?_; (repeat' (first | exact trivial | with_reducible refine And.intro ?_ ?_)); all_goals (repeat (first | (with_reducible refine ImpB.mk fun hb => ?_) | (with_reducible refine ImpK.mk fun hK => ?_) | (with_reducible refine ImpF.mk fun hF => ?_) | (with_reducible refine ImpQ.mk fun hp => ?_) | (with_reducible refine AllE.mk fun p => ?_) | (with_reducible refine AllR.mk fun rest => ?_) | (with_reducible refine AllK.mk fun K => ?_))))); repeat' (with_reducible refine And.intro ?_ ?_))
  · (focus (refine ⟨_, _, Gh.refl, [], rfl, ?_⟩; (refine ⟨?_, ?_, ?_⟩ <;> simp only [go_sem, List.range, List.range.loop, List.nodup_cons, List.nodup_nil, List.mem_cons, List.not_mem_nil, or_false, or_self, decide_true, decide_false, Int.reduceToNat, Nat.min_eq_left, Nat.min_eq_right, Int.reducePow, Nat.reducePow, Int.reduceLE, Int.reduceLT, Int.reduceMul, Int.reduceAdd, Int.reduceSub, Int.reduceNeg, Bool.not_true, Bool.not_false, Bool.not_not, ↓reduceIte, Nat.reduceAdd, Nat.reduceSub, Nat.reduceMul, Nat.reduceEqDiff, reduceCtorEq, Nat.reduceLT, Nat.reduceLeDiff, Nat.reduceGT]); (try any_goals (refine ⟨?_, ?_⟩)); (try any_goals (with_reducible rfl))))
  all_goals first | exact hs1 | exact hs2 | (simp [frObH, frObC, frOb, frObL]; done) | trace_state
theorem c_lives {h : List Ch} {K : KT} (H : K (.bool true) h) : Does Try.prog 8 [] h K :=
  frame_pure b_lives br_nil (.inl rfl) (fun _ => rfl) H
abbrev i_lives := Ctr.mk (i := 0) (g := 8) @c_lives
attribute [instance] i_lives
end Go.V

set_option maxRecDepth 100000
set_option maxHeartbeats 16000000
namespace Go.V
open Go.Proofs
abbrev AskL (q : Ask) : List AV := [.ro .win q.w, .ro .job q.l, .int .i64 q.rate, .ro .slo q.s]
def smQ (q : Ask) : Prop := (q.w.length ≤ 20 ∧ q.l.length ≤ 20) ∧ q.s.length ≤ 40
instance (q : Ask) : Decidable (smQ q) := by unfold smQ; exact inferInstance
end Go.V

set_option maxRecDepth 100000
namespace Go.V
/-- one ends before the other begins, and they are of two jobs -/
def sep (a b : Slo) : Prop := a.en ≤ b.st ∧ a.job ≠ b.job
def hit (x : Slo) (t d : Int) : Prop := x.st < t + d ∧ t < x.en
theorem pl_stay {d t : Int} : ∀ {m : List Slo}, (∀ x ∈ m, t + d ≤ x.st) → m.foldl (plS d) t = t
  | [], _ => rfl
  | s :: m, h => by
    have hs := h s List.mem_cons_self
    have e : plS d t s = t := if_neg (fun q => by omega)
    rw [List.foldl_cons, e]
    exact pl_stay fun x hx => h x (List.mem_cons_of_mem _ hx)
theorem pl_ge {d : Int} : ∀ {m : List Slo} {t : Int}, t ≤ m.foldl (plS d) t
  | [], _ => Int.le_refl _
  | s :: m, t => by
    rw [List.foldl_cons]
    have h1 : t ≤ plS d t s := by unfold plS; split <;> omega
    have h2 := pl_ge (d := d) (m := m) (t := plS d t s)
    omega
theorem pl_free {d : Int} (hd : 1 ≤ d) : ∀ {m : List Slo} {t : Int}, m.Pairwise sep → (∀ x ∈ m, x.st < x.en) → ∀ x ∈ m, ¬ hit x (m.foldl (plS d) t) d
  | [], _, _, _, x, hx => by cases hx
  | s :: m, t, hp, hl, x, hx => by
    have hp' := List.pairwise_cons.1 hp
    have hls := hl s List.mem_cons_self
    rw [List.foldl_cons]
    have hge := pl_ge (d := d) (m := m) (t := plS d t s)
    rcases List.mem_cons.1 hx with rfl | hx
    · by_cases q : x.st < t + d ∧ t < x.en
      · have e : plS d t x = x.en := if_pos q
        rw [e] at hge ⊢
        exact fun h => by unfold hit at h; omega
      · have e : plS d t x = t := if_neg q
        rw [e] at hge ⊢
        by_cases q2 : t < x.en
        · rw [pl_stay fun y hy => by have := hp'.1 y hy; unfold sep at this; omega]
          exact q
        · exact fun h => by unfold hit at h; omega
    · exact pl_free hd hp'.2 (fun y hy => hl y (List.mem_cons_of_mem _ hy)) x hx
theorem pl_least {d u : Int} : ∀ {m : List Slo} {t : Int}, t ≤ u → (∀ x ∈ m, ¬ hit x u d) → m.foldl (plS d) t ≤ u
  | [], _, h, _ => h
  | s :: m, t, h, hn => by
    rw [List.foldl_cons]
    refine pl_least ?_ fun x hx => hn x (List.mem_cons_of_mem _ hx)
    have := hn s List.mem_cons_self
    unfold plS hit at *
    split <;> omega
theorem insF_perm {f : Int → Int} {x : Int} : ∀ {l : List Int}, (insF f x l).Perm (x :: l)
  | [] => List.Perm.refl _
  | y :: ys => by
    unfold insF
    split
    · exact List.Perm.refl _
    · exact (List.Perm.cons y insF_perm).trans (List.Perm.swap x y ys)
theorem srt_perm {f : Int → Int} : ∀ {l : List Int}, (srt f l).Perm l
  | [] => List.Perm.refl _
  | _ :: _ => insF_perm.trans (List.Perm.cons _ srt_perm)
theorem insS_perm {m : List Slo} {s : Slo} : (insS m s).Perm (s :: m) := by
  unfold insS
  refine List.perm_middle.trans (List.Perm.cons s ?_)
  rw [List.take_append_drop]
theorem iota_nodup (n : Nat) : (iotaI n).Nodup := by
  unfold iotaI
  exact List.Pairwise.map _ (fun a b h e => h (by have e2 : (a : Int) = b := e; omega)) List.nodup_range
theorem ordJ_perm (l : List Job) : (ordJ l).Perm (iotaI l.length) := srt_perm
/-- what holds of the plan for the jobs q -/
structure Pln (w : List Win) (l : List Job) (rate : Int) (q : List Int) (p : List Slo × List Int) : Prop where
  sp : p.1.Pairwise sep
  ft : ∀ s ∈ p.1, fitB w l rate s = true
  pm : (p.1.map Slo.job ++ p.2).Perm q
  no : ∀ i ∈ p.2, ∀ c ∈ w, ∀ t, max c.from_ (jbI l i).ear ≤ t → t + durI (jbI l i) rate ≤ min c.to_ (jbI l i).dl → ∃ x ∈ p.1, hit x t (durI (jbI l i) rate)
theorem fit_pos {w : List Win} {l : List Job} {rate : Int} (hu : usB w l rate = true) {s : Slo} (h : fitB w l rate s = true) : s.st < s.en := by
  obtain ⟨hi, ht⟩ := of_decide_eq_true h
  obtain ⟨hr, _, hj⟩ := us_all hu hi
  have := dur_bd hr ((vldJ_iff _).1 hj).1
  unfold tmB at ht
  omega
theorem srtS_of {m : List Slo} (h : m.Pairwise sep) (hl : ∀ x ∈ m, x.st < x.en) : srtS m := by
  refine List.Pairwise.imp_of_mem (fun {a b} ha hb hab => ?_) h
  have := hl a ha
  unfold sep at hab
  omega
theorem Pln.step {w : List Win} {l : List Job} {rate : Int} {q : List Int} {p : List Slo × List Int} {i : Int} (hu : usB w l rate = true) (h : Pln w l rate q p) (hi : inJ l i) (hq : i ∉ q) : Pln w l rate (q ++ [i]) (stJ w l rate p i) := by
  obtain ⟨m, lf⟩ := p
  obtain ⟨sp, ft, pm, no⟩ := h
  dsimp only at sp ft pm no
  obtain ⟨hr, hwl, _, hgw, hgj⟩ := us_good hu
  have hjm : jbI l i ∈ l := getM (by unfold inJ at hi; omega)
  have hdb := dur_bd hr ((vldJ_iff _).1 (hgj _ hjm)).1
  have hpos : ∀ x ∈ m, x.st < x.en := fun x hx => fit_pos hu (ft x hx)
  unfold stJ
  cases hb : asB w (jbI l i) (durI (jbI l i) rate) m
  · rw [if_neg (by decide)]
    refine ⟨sp, ft, ?_, fun a ha c hc t h1 h2 => ?_⟩
    · dsimp only
      rw [← List.append_assoc]
      exact pm.append_right _
    · dsimp only at ha ⊢
      rcases List.mem_append.1 ha with ha | ha
      · exact no a ha c hc t h1 h2
      · obtain rfl : a = i := List.mem_singleton.1 ha
        by_cases e : ∃ x ∈ m, hit x t (durI (jbI l a) rate)
        · exact e
        · exfalso
          have hle := pl_least (d := durI (jbI l a) rate) (m := m) h1 fun x hx hh => e ⟨x, hx, hh⟩
          have hB : plB c (jbI l a) (durI (jbI l a) rate) m = true := decide_eq_true (by unfold plI; omega)
          have : fsI w (jbI l a) (durI (jbI l a) rate) m < w.length := List.findIdx_lt_length_of_exists ⟨c, hc, hB⟩
          unfold asB at hb
          rw [decide_eq_true this] at hb
          cases hb
  · rw [if_pos rfl]
    have hf : fsI w (jbI l i) (durI (jbI l i) rate) m < w.length := of_decide_eq_true hb
    have hp : plB (w[fsI w (jbI l i) (durI (jbI l i) rate) m]) (jbI l i) (durI (jbI l i) rate) m = true := List.findIdx_getElem (w := hf)
    have hS : asS w (jbI l i) (durI (jbI l i) rate) m = ⟨0, fsI w (jbI l i) (durI (jbI l i) rate) m, plI (w[fsI w (jbI l i) (durI (jbI l i) rate) m]) (jbI l i) (durI (jbI l i) rate) m, plI (w[fsI w (jbI l i) (durI (jbI l i) rate) m]) (jbI l i) (durI (jbI l i) rate) m + durI (jbI l i) rate⟩ := by
      unfold asS
      rw [if_pos hb, getEq hf]
    rw [hS]
    generalize hK : fsI w (jbI l i) (durI (jbI l i) rate) m = K at hf hp ⊢
    generalize hC : w[K] = c at hp ⊢
    have hge : max c.from_ (jbI l i).ear ≤ plI c (jbI l i) (durI (jbI l i) rate) m := pl_ge
    have hfree : ∀ x ∈ m, ¬ hit x (plI c (jbI l i) (durI (jbI l i) rate) m) (durI (jbI l i) rate) := fun x hx => pl_free hdb.1 sp hpos x hx
    have hle : plI c (jbI l i) (durI (jbI l i) rate) m + durI (jbI l i) rate ≤ min c.to_ (jbI l i).dl := of_decide_eq_true hp
    generalize hT : plI c (jbI l i) (durI (jbI l i) rate) m = t at hge hfree hle ⊢
    have hjob : ∀ x ∈ m, x.job ≠ i := fun x hx e => hq (pm.mem_iff.1 (List.mem_append_left _ (e ▸ List.mem_map_of_mem hx)))
    have hsm := srtS_of sp hpos
    refine ⟨?_, fun s hs => ?_, ?_, fun a ha c' hc t' h1 h2 => ?_⟩
    · show (insS m _).Pairwise sep
      unfold insS
      refine List.pairwise_append.2 ⟨sp.sublist (List.take_sublist _ _), List.pairwise_cons.2 ⟨fun y hy => ?_, sp.sublist (List.drop_sublist _ _)⟩, fun x hx y hy => ?_⟩
      · have hym := List.drop_subset _ _ hy
        have g1 := bsS_ge hsm hy
        have g2 := hfree y hym
        have g3 := hpos y hym
        unfold hit at g2
        dsimp only at g1 ⊢
        exact ⟨by dsimp only; omega, fun e => hjob y hym e.symm⟩
      · have hxm := List.take_subset _ _ hx
        have g1 := bsS_lt hx
        have g2 := hfree x hxm
        have g3 := hpos x hxm
        unfold hit at g2
        dsimp only at g1
        have g4 : x.en ≤ t := by omega
        rcases List.mem_cons.1 hy with rfl | hy
        · exact ⟨g4, hjob x hxm⟩
        · have h0 := sp
          rw [← List.take_append_drop (bsS m t) m] at h0
          exact (List.pairwise_append.1 h0).2.2 x hx y hy
    · have hs' := insS_perm.mem_iff.1 hs
      rcases List.mem_cons.1 hs' with rfl | hs'
      · refine decide_eq_true ⟨⟨⟨hi.1, hi.2⟩, by dsimp only; omega, by dsimp only; omega⟩, ?_⟩
        have e1 : cAt w ⟨i, K, t, t + durI (jbI l i) rate⟩ = c := by
          show w.getD (K : Int).toNat Win.zero = c
          rw [Int.toNat_natCast, getEq hf, hC]
        have e2 : jAt l ⟨i, K, t, t + durI (jbI l i) rate⟩ = jbI l i := rfl
        rw [e1, e2]
        unfold tmB
        dsimp only
        omega
      · exact ft s hs'
    · dsimp only
      refine ((insS_perm.map Slo.job).append_right lf).trans ?_
      refine List.Perm.trans ?_ (List.perm_append_comm (l₁ := [i]))
      exact List.Perm.cons i pm
    · obtain ⟨x, hx, hh⟩ := no a ha c' hc t' h1 h2
      exact ⟨x, insS_perm.mem_iff.2 (List.mem_cons_of_mem _ hx), hh⟩
theorem Pln.run {w : List Win} {l : List Job} {rate : Int} (hu : usB w l rate = true) : ∀ (o q : List Int) (p : List Slo × List Int), Pln w l rate q p → (∀ i ∈ o, inJ l i) → (q ++ o).Nodup → Pln w l rate (q ++ o) (o.foldl (stJ w l rate) p)
  | [], q, p, h, _, _ => by rw [List.append_nil]; exact h
  | i :: o, q, p, h, hi, hn => by
    have e : q ++ i :: o = (q ++ [i]) ++ o := by rw [List.append_assoc]; rfl
    have hq : i ∉ q := fun hm => (List.nodup_append.1 hn).2.2 i hm i List.mem_cons_self rfl
    rw [e, List.foldl_cons]
    exact Pln.run hu o _ _ (h.step hu (hi i List.mem_cons_self) hq) (fun a ha => hi a (List.mem_cons_of_mem _ ha)) (e ▸ hn)
theorem plan_ok {w : List Win} {l : List Job} {rate : Int} (hu : usB w l rate = true) : Pln w l rate (ordJ l) (runJ w l rate (ordJ l)) := by
  have := Pln.run (w := w) (l := l) (rate := rate) hu (ordJ l) [] ([], []) ⟨List.Pairwise.nil, fun s hs => (by cases hs), List.Perm.refl _, fun i hi => (by cases hi)⟩ (fun i hi => iota_in i ((ordJ_perm l).mem_iff.1 hi)) (by rw [List.nil_append]; exact (ordJ_perm l).nodup_iff.2 (iota_nodup _))
  rw [List.nil_append] at this
  exact this
theorem sortZ_srt (l : List Int) : (sortZ l).Pairwise fun a b => a ≤ b := by
  unfold sortZ
  have := List.pairwise_mergeSort (le := fun x y : Int => decide (x ≤ y)) (fun a b c h1 h2 => by simp only [decide_eq_true_eq] at *; omega) (fun a b => by simp only [Bool.or_eq_true, decide_eq_true_eq]; omega) l
  exact this.imp fun h => of_decide_eq_true h
/-- the parts of the answer -/
abbrev plM (w : List Win) (l : List Job) (rate : Int) : List Slo := (runJ w l rate (ordJ l)).1
abbrev plR (w : List Win) (l : List Job) (rate : Int) : List Int := sortZ (runJ w l rate (ordJ l)).2
theorem plR_perm {w : List Win} {l : List Job} {rate : Int} : (plR w l rate).Perm (runJ w l rate (ordJ l)).2 := sortZ_perm _
theorem pl_all {w : List Win} {l : List Job} {rate : Int} (hu : usB w l rate = true) : ((plM w l rate).map Slo.job ++ plR w l rate).Perm (iotaI l.length) := ((plR_perm.append_left _).trans (plan_ok hu).pm).trans (ordJ_perm l)
theorem pl_len {w : List Win} {l : List Job} {rate : Int} (hu : usB w l rate = true) : (plM w l rate).length + (plR w l rate).length = l.length := by
  have := (pl_all hu).length_eq
  rw [List.length_append, List.length_map, iota_len] at this
  exact this
end Go.V

set_option maxRecDepth 100000
set_option maxHeartbeats 8000000
namespace Go.V
open Go.Proofs
def stR (w : List Win) (l : List Job) (rate : Int) (p : List Slo × List Bool) (i : Int) : List Slo × List Bool :=
  if asB w (jbI l i) (durI (jbI l i) rate) p.1 then (insS p.1 { asS w (jbI l i) (durI (jbI l i) rate) p.1 with job := i }, p.2.set i.toNat true) else p
def runR (w : List Win) (l : List Job) (rate : Int) (o : List Int) : List Slo × List Bool := o.foldl (stR w l rate) ([], List.replicate l.length false)
/-- those below k that are not done -/
def rsI (D : List Bool) (k : Nat) : List Int := (iotaI k).filter fun a => !(D.getD a.toNat false)
theorem runR_next {w : List Win} {l : List Job} {rate : Int} {o : List Int} {k : Nat} (h : k < o.length) : runR w l rate (o.take (k + 1)) = stR w l rate (runR w l rate (o.take k)) (o.getD k 0) := by
  unfold runR
  rw [getT (z := (0 : Int)) h, List.foldl_append]
  rfl
theorem rsI_next {D : List Bool} {k : Nat} : rsI D (k + 1) = if D.getD k false then rsI D k else rsI D k ++ [(k : Int)] := by
  unfold rsI
  rw [iota_next, List.filter_append]
  cases c : D.getD k false
  · rw [if_neg (by decide), List.filter_cons, if_pos (by rw [Int.toNat_natCast, c]; rfl)]; rfl
  · rw [if_pos rfl, List.filter_cons, if_neg (by rw [Int.toNat_natCast, c]; decide)]; exact List.append_nil _
theorem rsI_le {D : List Bool} {k : Nat} : (rsI D k).length ≤ k := by
  have := List.length_filter_le (fun a : Int => !(D.getD a.toNat false)) (iotaI k)
  rw [iota_len] at this
  exact this
/-- the two runs go together -/
structure Pair (l : List Job) (q : List Int) (p : List Slo × List Int) (r : List Slo × List Bool) : Prop where
  eq : r.1 = p.1
  ln : r.2.length = l.length
  sub : ∀ i ∈ p.2, i ∈ q
  dn : ∀ i, inJ l i → (r.2.getD i.toNat false = true ↔ i ∈ q ∧ i ∉ p.2)
theorem Pair.step {w : List Win} {l : List Job} {rate : Int} {q : List Int} {p : List Slo × List Int} {r : List Slo × List Bool} {i : Int} (h : Pair l q p r) (hi : inJ l i) (hq : i ∉ q) : Pair l (q ++ [i]) (stJ w l rate p i) (stR w l rate r i) := by
  obtain ⟨m, lf⟩ := p
  obtain ⟨m', D⟩ := r
  obtain ⟨eq, ln, sub, dn⟩ := h
  dsimp only at eq ln sub dn
  subst eq
  unfold stJ stR
  dsimp only
  cases hb : asB w (jbI l i) (durI (jbI l i) rate) m'
  · rw [if_neg (by decide), if_neg (by decide)]
    refine ⟨rfl, ln, fun j hj => ?_, fun j hj => ?_⟩
    · rcases List.mem_append.1 hj with hj | hj
      · exact List.mem_append_left _ (sub j hj)
      · exact List.mem_append_right _ hj
    · dsimp only
      rw [dn j hj, List.mem_append, List.mem_append, List.mem_singleton]
      by_cases e : j = i
      · subst e
        exact ⟨fun g => absurd g.1 hq, fun g => absurd (.inr rfl) g.2⟩
      · exact ⟨fun g => ⟨.inl g.1, fun g' => g'.elim g.2 e⟩, fun g => ⟨g.1.elim id (fun g' => absurd g' e), fun g' => g.2 (.inl g')⟩⟩
  · rw [if_pos rfl, if_pos rfl]
    refine ⟨rfl, by dsimp only; rw [List.length_set]; exact ln, fun j hj => List.mem_append_left _ (sub j hj), fun j hj => ?_⟩
    dsimp only
    have hi' := hi
    have hj' := hj
    unfold inJ at hi' hj'
    rw [List.mem_append, List.mem_singleton]
    by_cases e : j = i
    · subst e
      rw [List.getD_eq_getElem?_getD, List.getElem?_set_self (by omega)]
      exact ⟨fun _ => ⟨.inr rfl, fun g => hq (sub j g)⟩, fun _ => rfl⟩
    · rw [List.getD_eq_getElem?_getD, List.getElem?_set_ne (by omega), ← List.getD_eq_getElem?_getD, dn j hj]
      exact ⟨fun g => ⟨.inl g.1, g.2⟩, fun g => ⟨g.1.elim id (fun g' => absurd g' e), g.2⟩⟩
theorem Pair.run {w : List Win} {l : List Job} {rate : Int} : ∀ (o q : List Int) (p : List Slo × List Int) (r : List Slo × List Bool), Pair l q p r → (∀ i ∈ o, inJ l i) → (q ++ o).Nodup → Pair l (q ++ o) (o.foldl (stJ w l rate) p) (o.foldl (stR w l rate) r)
  | [], q, p, r, h, _, _ => by rw [List.append_nil]; exact h
  | i :: o, q, p, r, h, hi, hn => by
    have e : q ++ i :: o = (q ++ [i]) ++ o := by rw [List.append_assoc]; rfl
    have hq : i ∉ q := fun hm => (List.nodup_append.1 hn).2.2 i hm i List.mem_cons_self rfl
    rw [e, List.foldl_cons, List.foldl_cons]
    exact Pair.run o _ _ _ (h.step (hi i List.mem_cons_self) hq) (fun a ha => hi a (List.mem_cons_of_mem _ ha)) (e ▸ hn)
theorem ordJ_nodup (l : List Job) : (ordJ l).Nodup := (ordJ_perm l).nodup_iff.2 (iota_nodup _)
theorem ordJ_in {l : List Job} : ∀ i ∈ ordJ l, inJ l i := fun i hi => iota_in i ((ordJ_perm l).mem_iff.1 hi)
theorem ordJ_len {l : List Job} : (ordJ l).length = l.length := by rw [(ordJ_perm l).length_eq, iota_len]
theorem pair_take {w : List Win} {l : List Job} {rate : Int} (k : Nat) : Pair l ((ordJ l).take k) (runJ w l rate ((ordJ l).take k)) (runR w l rate ((ordJ l).take k)) := by
  have := Pair.run (w := w) (l := l) (rate := rate) ((ordJ l).take k) [] ([], []) ([], List.replicate l.length false) ⟨rfl, List.length_replicate, fun i hi => (by cases hi), fun i hi => ?_⟩ (fun i hi => ordJ_in i (List.take_subset _ _ hi)) (by rw [List.nil_append]; exact (ordJ_nodup l).sublist (List.take_sublist _ _))
  · rw [List.nil_append] at this
    exact this
  · dsimp only
    unfold inJ at hi
    rw [List.getD_eq_getElem?_getD, List.getElem?_replicate]
    rw [if_pos (by omega)]
    constructor
    · intro g; cases g
    · intro g; cases g.1
theorem runR_new {w : List Win} {l : List Job} {rate : Int} {k : Nat} (hk : k < l.length) : (runR w l rate ((ordJ l).take k)).2.getD ((ordJ l).getD k 0).toNat false = false := by
  have hk' : k < (ordJ l).length := by rw [ordJ_len]; exact hk
  have hm : (ordJ l).getD k 0 ∈ ordJ l := getM hk'
  have hn : (ordJ l).getD k 0 ∉ (ordJ l).take k := fun h => by
    have e := ordJ_nodup l
    rw [← List.take_append_drop k (ordJ l)] at e
    refine (List.nodup_append.1 e).2.2 _ h _ ?_ rfl
    rw [List.drop_eq_getElem_cons hk', getEq hk']
    exact List.mem_cons_self
  cases h : (runR w l rate ((ordJ l).take k)).2.getD ((ordJ l).getD k 0).toNat false
  · rfl
  · exact absurd (((pair_take k).dn _ (ordJ_in _ hm)).1 h).1 hn
theorem rest_eq {w : List Win} {l : List Job} {rate : Int} : rsI (runR w l rate (ordJ l)).2 l.length = sortZ (runJ w l rate (ordJ l)).2 := by
  have hp := pair_take (w := w) (l := l) (rate := rate) l.length
  rw [List.take_of_length_le (by rw [ordJ_len]; exact Nat.le_refl _)] at hp
  have hio : (iotaI l.length).Pairwise fun a b => a < b := by
    unfold iotaI
    exact List.Pairwise.map _ (fun a b h => by have h' : a < b := h; omega) List.pairwise_lt_range
  have hs : (rsI (runR w l rate (ordJ l)).2 l.length).Pairwise fun a b => a < b := List.Pairwise.filter _ hio
  have hnd : (runJ w l rate (ordJ l)).2.Nodup := by
    have : ∀ (o q : List Int) (p : List Slo × List Int), p.2.Nodup → (∀ i ∈ p.2, i ∈ q) → (q ++ o).Nodup → (o.foldl (stJ w l rate) p).2.Nodup := by
      intro o
      induction o with
      | nil => exact fun _ _ h _ _ => h
      | cons i o ih =>
        intro q p h1 h2 h3
        have e : q ++ i :: o = (q ++ [i]) ++ o := by rw [List.append_assoc]; rfl
        have hq : i ∉ q := fun hm => (List.nodup_append.1 h3).2.2 i hm i List.mem_cons_self rfl
        rw [List.foldl_cons]
        refine ih (q ++ [i]) _ ?_ (fun j hj => ?_) (e ▸ h3)
        · unfold stJ
          split
          · exact h1
          · refine List.nodup_append.2 ⟨h1, List.pairwise_singleton _ _, fun a ha b hb e => ?_⟩
            rw [List.mem_singleton.1 hb] at e
            exact hq (e ▸ h2 a ha)
        · unfold stJ at hj
          split at hj
          · exact List.mem_append_left _ (h2 j hj)
          · rcases List.mem_append.1 hj with hj | hj
            · exact List.mem_append_left _ (h2 j hj)
            · exact List.mem_append_right _ hj
    exact this (ordJ l) [] ([], []) List.nodup_nil (fun i hi => by cases hi) (by rw [List.nil_append]; exact ordJ_nodup l)
  refine List.Perm.eq_of_pairwise (le := fun a b : Int => a ≤ b) (fun a b _ _ h1 h2 => by omega) (hs.imp fun h => by omega) (sortZ_srt _) ?_
  refine List.Perm.trans ?_ (sortZ_perm _).symm
  refine (List.perm_ext_iff_of_nodup (hs.imp fun h e => by omega) hnd).2 fun a => ?_
  unfold rsI
  rw [List.mem_filter, Bool.not_eq_true']
  constructor
  · intro ⟨h1, h2⟩
    have hin := iota_in a h1
    by_cases c : a ∈ (runJ w l rate (ordJ l)).2
    · exact c
    · have := (hp.dn a hin).2 ⟨(ordJ_perm l).mem_iff.2 h1, c⟩
      rw [h2] at this; cases this
  · intro h
    have ho := hp.sub a h
    refine ⟨(ordJ_perm l).mem_iff.1 ho, ?_⟩
    cases c : (runR w l rate (ordJ l)).2.getD a.toNat false
    · rfl
    · exact absurd h ((hp.dn a (ordJ_in a ho)).1 c).2
end Go.V
