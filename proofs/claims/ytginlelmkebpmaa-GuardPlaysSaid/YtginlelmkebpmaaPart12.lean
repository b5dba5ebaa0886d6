/-
  The guard: New, clock, may, Alive, Heard, and the specification's Right.
  slices.Sort at integers: the shelf's contract over the abstract memory.
-/
import Derived.Test.YtginlelmkebpmaaPart11
import Derived.Shelf.SortM.Plain
import Derived.Shelf.SortM.SortNone
import Derived.Ground.SlgmProg
import Derived.Sort.OwnSortedInts
set_option linter.unusedVariables false
set_option linter.unusedSimpArgs false
set_option maxRecDepth 100000
set_option maxHeartbeats 4000000
namespace Go.V
open Go.Proofs
/-- the guard, nothing broken -/
def Gd (W S P now A H : Int) (don : Bool) (rt : Int) (kv : List (Int × Sw)) (al : Bool) : List Ch := [.cells [.bool true, .int .i64 W, .int .i64 S, .int .i64 P, .int .i64 now, .int .i64 A, .int .i64 H, .bool don, .int .i64 rt, .mp 1, .lit (.slice none 0 0), .lit (.slice none 0 0), .bool al], .map .int .sw kv]
attribute [go_sem] Gd
def okT (n : Int) : Bool := decide (1 ≤ n) && decide (n ≤ 1099511627776)
def rightB (W S P now : Int) : Bool := okT W && okT S && okT P && (decide (0 ≤ now) && decide (now ≤ 1099511627776))
theorem okT_iff {n : Int} : okT n = true ↔ 1 ≤ n ∧ n ≤ 1099511627776 := by unfold okT; simp
theorem right_iff {W S P now : Int} : rightB W S P now = true ↔ (1 ≤ W ∧ W ≤ 1099511627776) ∧ (1 ≤ S ∧ S ≤ 1099511627776) ∧ (1 ≤ P ∧ P ≤ 1099511627776) ∧ 0 ≤ now ∧ now ≤ 1099511627776 := by
  unfold rightB
  simp only [Bool.and_eq_true, okT_iff, decide_eq_true_eq]
  omega
def c3A (W S P : Int) (k : Nat) : Prop := ∀ j, j < k → 1 ≤ ([W, S, P] : List Int).getD j 0 ∧ ([W, S, P] : List Int).getD j 0 ≤ 1099511627776
theorem c3_all {W S P : Int} (h : c3A W S P 3) : (1 ≤ W ∧ W ≤ 1099511627776) ∧ (1 ≤ S ∧ S ≤ 1099511627776) ∧ (1 ≤ P ∧ P ≤ 1099511627776) := ⟨h 0 (by decide), h 1 (by decide), h 2 (by decide)⟩
theorem c3_bad {W S P now : Int} {k : Nat} (hk : k < 3) (h : ¬ (1 ≤ ([W, S, P] : List Int).getD k 0 ∧ ([W, S, P] : List Int).getD k 0 ≤ 1099511627776)) : rightB W S P now = false := by
  rw [Bool.eq_false_iff]
  intro q
  obtain ⟨h1, h2, h3, _⟩ := right_iff.1 q
  refine h ?_
  match k, hk with
  | 0, _ => exact h1
  | 1, _ => exact h2
  | 2, _ => exact h3
theorem c3_next {W S P : Int} {k : Nat} (h : c3A W S P k) (hk : 1 ≤ ([W, S, P] : List Int).getD k 0 ∧ ([W, S, P] : List Int).getD k 0 ≤ 1099511627776) : c3A W S P (k + 1) := fun j hj => by
  by_cases e : j = k
  · rw [e]; exact hk
  · exact h j (by omega)
theorem b_right (W S P now : Int) : DoesK Try.prog 0 8 [.agg [.int .i64 W, .int .i64 S, .int .i64 P], .int .i64 now] [] (EndF 0 (.bool (rightB W S P now)) []) := by
  refine DoesK.close ?_
  have hl3 : ([W, S, P] : List Int).length = 3 := rfl
  refine w_body (rs := [.tmp 4]) (tm := [.agg [.int .i64 W, .int .i64 S, .int .i64 P], .int .i64 now, .any, .any, .any, .any, .any, .any, .any, .any, .any, .any, .any, .any, .any, .any, .any, .any, .any, .any, .any, .any, .any, .any, .any, .any, .any, .any, .any, .any, .any, .any]) fn_8 rfl rfl rfl rfl fun R hR => ?_
  (all_goals (try ((first | (with_reducible refine wp_id ?_) | (with_reducible refine does_id ?_) | (with_reducible refine ops_id ?_)); refine walk ?_; (repeat' (first | exact trivial | with_reducible refine And.intro ?_ ?_)); all_goals (repeat (first | (with_reducible refine ImpB.mk fun hb => ?_) | (with_reducible refine ImpK.mk fun hK => ?_) | (with_reducible refine ImpF.mk fun hF => ?_) | (with_reducible refine ImpQ.mk fun hp => ?_) | (with_reducible refine AllE.mk fun p => ?_) | (with_reducible refine AllR.mk fun rest => ?_) | (with_reducible refine AllK.mk fun K => ?_))))); repeat' (with_reducible refine And.intro ?_ ?_))
  any_goals ((try (refine w_seq fun K hK => ?_)); (try (refine w_block ?_)); refine w_loop (A := Nat) (fun k => k ≤ 3 ∧ c3A W S P k) (fun k => 3 - k) (fun k => [(15, .int .i64 k)]) (fun k => []) (0) (ws := ?ws1) (tk := ?tk1) ?hw1 ?ht1 ?hi ?h0 ?LH1; (case hw1 => simp only [go_sem, decide_true, decide_false, Int.reduceToNat, Nat.min_eq_left, Nat.min_eq_right, Int.reducePow, Nat.reducePow, Int.reduceLE, Int.reduceLT, Int.reduceMul, Int.reduceAdd, Int.reduceSub, Int.reduceNeg, Bool.not_true, Bool.not_false, Bool.not_not, ↓reduceIte, Nat.reduceAdd, Nat.reduceSub, Nat.reduceMul, Nat.reduceEqDiff, reduceCtorEq, Nat.reduceLT, Nat.reduceLeDiff, Nat.reduceGT]; exact rfl); (case ht1 => simp only [go_sem, decide_true, decide_false, Int.reduceToNat, Nat.min_eq_left, Nat.min_eq_right, Int.reducePow, Nat.reducePow, Int.reduceLE, Int.reduceLT, Int.reduceMul, Int.reduceAdd, Int.reduceSub, Int.reduceNeg, Bool.not_true, Bool.not_false, Bool.not_not, ↓reduceIte, Nat.reduceAdd, Nat.reduceSub, Nat.reduceMul, Nat.reduceEqDiff, reduceCtorEq, Nat.reduceLT, Nat.reduceLeDiff, Nat.reduceGT]; exact rfl); (case' LH1 => rintro k E t hx hE ht; simp only [go_sem] at ht; subst ht; simp only [go_sem]; try dsimp only at hx))
  case hi => exact ⟨Nat.zero_le _, fun j hj => absurd hj (Nat.not_lt_zero j)⟩
  case h0 =>
    (focus (refine ⟨_, _, Gh.refl, [0, 1], rfl, ?_⟩; (refine ⟨?_, ?_, ?_⟩ <;> simp only [go_sem, List.range, List.range.loop, List.nodup_cons, List.nodup_nil, List.mem_cons, List.not_mem_nil, or_false, or_self, decide_true, decide_false, Int.reduceToNat, Nat.min_eq_left, Nat.min_eq_right, Int.reducePow, Nat.reducePow, Int.reduceLE, Int.reduceLT, Int.reduceMul, Int.reduceAdd, Int.reduceSub, Int.reduceNeg, Bool.not_true, Bool.not_false, Bool.not_not, ↓reduceIte, Nat.reduceAdd, Nat.reduceSub, Nat.reduceMul, Nat.reduceEqDiff, reduceCtorEq, Nat.reduceLT, Nat.reduceLeDiff, Nat.reduceGT]); (try any_goals (refine ⟨?_, ?_⟩)); (try any_goals (with_reducible rfl))))
    all_goals first | rfl | trace_state
  case LH1 =>
    obtain ⟨hk0, hc⟩ := hx
    have hk0' : k ≤ 3 := hk0
    by_cases hk : k < 3
    · have hkd : decide ((k : Int) < ((3 : Nat) : Int)) = true := decide_eq_true (by omega)
      have hw : IntKind.i64.wrap ((k : Int) + 1) = ((k + 1 : Nat) : Int) := by rw [wrap_i64 _ (by omega) (by omega)]; omega
      by_cases c1 : 1 ≤ ([W, S, P] : List Int).getD k 0 ∧ ([W, S, P] : List Int).getD k 0 ≤ 1099511627776
      · have d1 : decide (([W, S, P] : List Int).getD k 0 < 1) = false := decide_eq_false (by omega)
        have d2 : decide (1099511627776 < ([W, S, P] : List Int).getD k 0) = false := decide_eq_false (by omega)
        have hc' := c3_next hc c1
        (have zx1 := @hkd; have zx2 := @hw; have zx3 := @d1; have zx4 := @d2; all_goals (try ((first | (with_reducible refine wp_id ?_) | (with_reducible refine does_id ?_) | (with_reducible refine ops_id ?_)); refine walk ?_; (repeat' (first | exact trivial | with_reducible refine And.intro ?_ ?_)); all_goals (repeat (first | (with_reducible refine ImpB.mk fun hb => ?_) | (with_reducible refine ImpK.mk fun hK => ?_) | (with_reducible refine ImpF.mk fun hF => ?_) | (with_reducible refine ImpQ.mk fun hp => ?_) | (with_reducible refine AllE.mk fun p => ?_) | (with_reducible refine AllR.mk fun rest => ?_) | (with_reducible refine AllK.mk fun K => ?_))))); repeat' (with_reducible refine And.intro ?_ ?_))
        (all_goals first | exact Int.natCast_nonneg _ | exact Int.ofNat_lt.2 (by assumption) | assumption | omega | exact Nat.le_refl _ | (exfalso; simp at hb; done) | (simp only [go_sem, decide_true, decide_false, Int.reduceToNat, Nat.min_eq_left, Nat.min_eq_right, Int.reducePow, Nat.reducePow, Int.reduceLE, Int.reduceLT, Int.reduceMul, Int.reduceAdd, Int.reduceSub, Int.reduceNeg, Bool.not_true, Bool.not_false, Bool.not_not, ↓reduceIte, Nat.reduceAdd, Nat.reduceSub, Nat.reduceMul, Nat.reduceEqDiff, reduceCtorEq, Nat.reduceLT, Nat.reduceLeDiff, Nat.reduceGT]; done) | (unfold capM; omega) | (simp only [List.length_drop, List.length_take, List.length_append, List.length_cons, List.length_nil]; omega) | skip)
        refine ⟨k + 1, ⟨⟨hk, hc'⟩, by first | omega | (dsimp only; omega)⟩, ?_⟩
        (focus (refine ⟨_, _, Gh.refl, [0, 1], rfl, ?_⟩; (refine ⟨?_, ?_, ?_⟩ <;> simp only [go_sem, List.range, List.range.loop, List.nodup_cons, List.nodup_nil, List.mem_cons, List.not_mem_nil, or_false, or_self, decide_true, decide_false, Int.reduceToNat, Nat.min_eq_left, Nat.min_eq_right, Int.reducePow, Nat.reducePow, Int.reduceLE, Int.reduceLT, Int.reduceMul, Int.reduceAdd, Int.reduceSub, Int.reduceNeg, Bool.not_true, Bool.not_false, Bool.not_not, ↓reduceIte, Nat.reduceAdd, Nat.reduceSub, Nat.reduceMul, Nat.reduceEqDiff, reduceCtorEq, Nat.reduceLT, Nat.reduceLeDiff, Nat.reduceGT]); (try any_goals (refine ⟨?_, ?_⟩)); (try any_goals (with_reducible rfl))))
      · have hr : rightB W S P now = false := c3_bad hk c1
        by_cases c2 : ([W, S, P] : List Int).getD k 0 < 1
        · have d1 : decide (([W, S, P] : List Int).getD k 0 < 1) = true := decide_eq_true c2
          (have zx1 := @hkd; have zx2 := @d1; have zx3 := @hr; all_goals (try ((first | (with_reducible refine wp_id ?_) | (with_reducible refine does_id ?_) | (with_reducible refine ops_id ?_)); refine walk ?_; (repeat' (first | exact trivial | with_reducible refine And.intro ?_ ?_)); all_goals (repeat (first | (with_reducible refine ImpB.mk fun hb => ?_) | (with_reducible refine ImpK.mk fun hK => ?_) | (with_reducible refine ImpF.mk fun hF => ?_) | (with_reducible refine ImpQ.mk fun hp => ?_) | (with_reducible refine AllE.mk fun p => ?_) | (with_reducible refine AllR.mk fun rest => ?_) | (with_reducible refine AllK.mk fun K => ?_))))); repeat' (with_reducible refine And.intro ?_ ?_))
          (all_goals first | exact Int.natCast_nonneg _ | exact Int.ofNat_lt.2 (by assumption) | assumption | omega | exact Nat.le_refl _ | (exfalso; simp at hb; done) | (simp only [go_sem, decide_true, decide_false, Int.reduceToNat, Nat.min_eq_left, Nat.min_eq_right, Int.reducePow, Nat.reducePow, Int.reduceLE, Int.reduceLT, Int.reduceMul, Int.reduceAdd, Int.reduceSub, Int.reduceNeg, Bool.not_true, Bool.not_false, Bool.not_not, ↓reduceIte, Nat.reduceAdd, Nat.reduceSub, Nat.reduceMul, Nat.reduceEqDiff, reduceCtorEq, Nat.reduceLT, Nat.reduceLeDiff, Nat.reduceGT]; done) | (unfold capM; omega) | (simp only [List.length_drop, List.length_take, List.length_append, List.length_cons, List.length_nil]; omega) | skip)
          first | (rw [hr]; (focus (refine ⟨_, _, Gh.refl, [], rfl, ?_⟩; (refine ⟨?_, ?_, ?_⟩ <;> simp only [go_sem, List.range, List.range.loop, List.nodup_cons, List.nodup_nil, List.mem_cons, List.not_mem_nil, or_false, or_self, decide_true, decide_false, Int.reduceToNat, Nat.min_eq_left, Nat.min_eq_right, Int.reducePow, Nat.reducePow, Int.reduceLE, Int.reduceLT, Int.reduceMul, Int.reduceAdd, Int.reduceSub, Int.reduceNeg, Bool.not_true, Bool.not_false, Bool.not_not, ↓reduceIte, Nat.reduceAdd, Nat.reduceSub, Nat.reduceMul, Nat.reduceEqDiff, reduceCtorEq, Nat.reduceLT, Nat.reduceLeDiff, Nat.reduceGT]); (try any_goals (refine ⟨?_, ?_⟩)); (try any_goals (with_reducible rfl)))); done) | ((focus (refine ⟨_, _, Gh.refl, [], rfl, ?_⟩; (refine ⟨?_, ?_, ?_⟩ <;> simp only [go_sem, List.range, List.range.loop, List.nodup_cons, List.nodup_nil, List.mem_cons, List.not_mem_nil, or_false, or_self, decide_true, decide_false, Int.reduceToNat, Nat.min_eq_left, Nat.min_eq_right, Int.reducePow, Nat.reducePow, Int.reduceLE, Int.reduceLT, Int.reduceMul, Int.reduceAdd, Int.reduceSub, Int.reduceNeg, Bool.not_true, Bool.not_false, Bool.not_not, ↓reduceIte, Nat.reduceAdd, Nat.reduceSub, Nat.reduceMul, Nat.reduceEqDiff, reduceCtorEq, Nat.reduceLT, Nat.reduceLeDiff, Nat.reduceGT]); (try any_goals (refine ⟨?_, ?_⟩)); (try any_goals (with_reducible rfl)))); first | done | exact hr) | trace_state
        · have d1 : decide (([W, S, P] : List Int).getD k 0 < 1) = false := decide_eq_false c2
          have d2 : decide (1099511627776 < ([W, S, P] : List Int).getD k 0) = true := decide_eq_true (by omega)
          (have zx1 := @hkd; have zx2 := @d1; have zx3 := @d2; have zx4 := @hr; all_goals (try ((first | (with_reducible refine wp_id ?_) | (with_reducible refine does_id ?_) | (with_reducible refine ops_id ?_)); refine walk ?_; (repeat' (first | exact trivial | with_reducible refine And.intro ?_ ?_)); all_goals (repeat (first | (with_reducible refine ImpB.mk fun hb => ?_) | (with_reducible refine ImpK.mk fun hK => ?_) | (with_reducible refine ImpF.mk fun hF => ?_) | (with_reducible refine ImpQ.mk fun hp => ?_) | (with_reducible refine AllE.mk fun p => ?_) | (with_reducible refine AllR.mk fun rest => ?_) | (with_reducible refine AllK.mk fun K => ?_))))); repeat' (with_reducible refine And.intro ?_ ?_))
          (all_goals first | exact Int.natCast_nonneg _ | exact Int.ofNat_lt.2 (by assumption) | assumption | omega | exact Nat.le_refl _ | (exfalso; simp at hb; done) | (simp only [go_sem, decide_true, decide_false, Int.reduceToNat, Nat.min_eq_left, Nat.min_eq_right, Int.reducePow, Nat.reducePow, Int.reduceLE, Int.reduceLT, Int.reduceMul, Int.reduceAdd, Int.reduceSub, Int.reduceNeg, Bool.not_true, Bool.not_false, Bool.not_not, ↓reduceIte, Nat.reduceAdd, Nat.reduceSub, Nat.reduceMul, Nat.reduceEqDiff, reduceCtorEq, Nat.reduceLT, Nat.reduceLeDiff, Nat.reduceGT]; done) | (unfold capM; omega) | (simp only [List.length_drop, List.length_take, List.length_append, List.length_cons, List.length_nil]; omega) | skip)
          first | (rw [hr]; (focus (refine ⟨_, _, Gh.refl, [], rfl, ?_⟩; (refine ⟨?_, ?_, ?_⟩ <;> simp only [go_sem, List.range, List.range.loop, List.nodup_cons, List.nodup_nil, List.mem_cons, List.not_mem_nil, or_false, or_self, decide_true, decide_false, Int.reduceToNat, Nat.min_eq_left, Nat.min_eq_right, Int.reducePow, Nat.reducePow, Int.reduceLE, Int.reduceLT, Int.reduceMul, Int.reduceAdd, Int.reduceSub, Int.reduceNeg, Bool.not_true, Bool.not_false, Bool.not_not, ↓reduceIte, Nat.reduceAdd, Nat.reduceSub, Nat.reduceMul, Nat.reduceEqDiff, reduceCtorEq, Nat.reduceLT, Nat.reduceLeDiff, Nat.reduceGT]); (try any_goals (refine ⟨?_, ?_⟩)); (try any_goals (with_reducible rfl)))); done) | ((focus (refine ⟨_, _, Gh.refl, [], rfl, ?_⟩; (refine ⟨?_, ?_, ?_⟩ <;> simp only [go_sem, List.range, List.range.loop, List.nodup_cons, List.nodup_nil, List.mem_cons, List.not_mem_nil, or_false, or_self, decide_true, decide_false, Int.reduceToNat, Nat.min_eq_left, Nat.min_eq_right, Int.reducePow, Nat.reducePow, Int.reduceLE, Int.reduceLT, Int.reduceMul, Int.reduceAdd, Int.reduceSub, Int.reduceNeg, Bool.not_true, Bool.not_false, Bool.not_not, ↓reduceIte, Nat.reduceAdd, Nat.reduceSub, Nat.reduceMul, Nat.reduceEqDiff, reduceCtorEq, Nat.reduceLT, Nat.reduceLeDiff, Nat.reduceGT]); (try any_goals (refine ⟨?_, ?_⟩)); (try any_goals (with_reducible rfl)))); first | done | exact hr) | trace_state
    · have hkd : decide ((k : Int) < ((3 : Nat) : Int)) = false := decide_eq_false (by omega)
      obtain rfl : k = 3 := by omega
      have h3 := c3_all hc
      by_cases c4 : 0 ≤ now
      · have d4 : decide (0 ≤ now) = true := decide_eq_true c4
        have hr : rightB W S P now = decide (now ≤ 1099511627776) := by
          rw [Bool.eq_iff_iff, right_iff, decide_eq_true_eq]; omega
        (have zx1 := @hkd; have zx2 := @d4; all_goals (try ((first | (with_reducible refine wp_id ?_) | (with_reducible refine does_id ?_) | (with_reducible refine ops_id ?_)); refine walk ?_; (repeat' (first | exact trivial | with_reducible refine And.intro ?_ ?_)); all_goals (repeat (first | (with_reducible refine ImpB.mk fun hb => ?_) | (with_reducible refine ImpK.mk fun hK => ?_) | (with_reducible refine ImpF.mk fun hF => ?_) | (with_reducible refine ImpQ.mk fun hp => ?_) | (with_reducible refine AllE.mk fun p => ?_) | (with_reducible refine AllR.mk fun rest => ?_) | (with_reducible refine AllK.mk fun K => ?_))))); repeat' (with_reducible refine And.intro ?_ ?_))
        rw [hr]
        (focus (refine ⟨_, _, Gh.refl, [], rfl, ?_⟩; (refine ⟨?_, ?_, ?_⟩ <;> simp only [go_sem, List.range, List.range.loop, List.nodup_cons, List.nodup_nil, List.mem_cons, List.not_mem_nil, or_false, or_self, decide_true, decide_false, Int.reduceToNat, Nat.min_eq_left, Nat.min_eq_right, Int.reducePow, Nat.reducePow, Int.reduceLE, Int.reduceLT, Int.reduceMul, Int.reduceAdd, Int.reduceSub, Int.reduceNeg, Bool.not_true, Bool.not_false, Bool.not_not, ↓reduceIte, Nat.reduceAdd, Nat.reduceSub, Nat.reduceMul, Nat.reduceEqDiff, reduceCtorEq, Nat.reduceLT, Nat.reduceLeDiff, Nat.reduceGT]); (try any_goals (refine ⟨?_, ?_⟩)); (try any_goals (with_reducible rfl))))
      · have d4 : decide (0 ≤ now) = false := decide_eq_false c4
        have hr : rightB W S P now = false := by
          rw [Bool.eq_false_iff]; intro q; have := right_iff.1 q; omega
        (have zx1 := @hkd; have zx2 := @d4; all_goals (try ((first | (with_reducible refine wp_id ?_) | (with_reducible refine does_id ?_) | (with_reducible refine ops_id ?_)); refine walk ?_; (repeat' (first | exact trivial | with_reducible refine And.intro ?_ ?_)); all_goals (repeat (first | (with_reducible refine ImpB.mk fun hb => ?_) | (with_reducible refine ImpK.mk fun hK => ?_) | (with_reducible refine ImpF.mk fun hF => ?_) | (with_reducible refine ImpQ.mk fun hp => ?_) | (with_reducible refine AllE.mk fun p => ?_) | (with_reducible refine AllR.mk fun rest => ?_) | (with_reducible refine AllK.mk fun K => ?_))))); repeat' (with_reducible refine And.intro ?_ ?_))
        rw [hr]
        (focus (refine ⟨_, _, Gh.refl, [], rfl, ?_⟩; (refine ⟨?_, ?_, ?_⟩ <;> simp only [go_sem, List.range, List.range.loop, List.nodup_cons, List.nodup_nil, List.mem_cons, List.not_mem_nil, or_false, or_self, decide_true, decide_false, Int.reduceToNat, Nat.min_eq_left, Nat.min_eq_right, Int.reducePow, Nat.reducePow, Int.reduceLE, Int.reduceLT, Int.reduceMul, Int.reduceAdd, Int.reduceSub, Int.reduceNeg, Bool.not_true, Bool.not_false, Bool.not_not, ↓reduceIte, Nat.reduceAdd, Nat.reduceSub, Nat.reduceMul, Nat.reduceEqDiff, reduceCtorEq, Nat.reduceLT, Nat.reduceLeDiff, Nat.reduceGT]); (try any_goals (refine ⟨?_, ?_⟩)); (try any_goals (with_reducible rfl))))
theorem c_right {h : List Ch} {K : KT} {W S P now : Int} (H : K (.bool (rightB W S P now)) h) : Does Try.prog 8 [.agg [.int .i64 W, .int .i64 S, .int .i64 P], .int .i64 now] h K :=
  frame_pure (b_right W S P now) (br_cons (br_agg (br_cons br_int (br_cons br_int (br_cons br_int br_nil)))) (br_cons br_int br_nil)) (.inl rfl) (fun _ => rfl) H
abbrev i_right := Ctr.mk (i := 0) (g := 8) @c_right
attribute [instance] i_right
theorem b_gnewF (W S P now : Int) (hf : rightB W S P now = false) : DoesK Try.prog 0 7 [.agg [.int .i64 W, .int .i64 S, .int .i64 P], .int .i64 now] [] (EndF 0 (.tup [.lit (.pointer none), .int .i64 1]) []) := by
  refine DoesK.close ?_
  refine w_body (rs := [.tmp 4, .tmp 5]) (tm := [.agg [.int .i64 W, .int .i64 S, .int .i64 P], .int .i64 now, .any, .any, .any, .any, .any, .any, .any, .any, .any, .any, .any, .any, .any, .any, .any, .any, .any, .any, .any, .any, .any, .any, .any, .any, .any, .any, .any, .any, .any, .any, .any, .any, .any, .any, .any, .any, .any, .any]) fn_7 rfl rfl rfl rfl fun R hR => ?_
  (all_goals (try ((first | (with_reducible refine wp_id ?_) | (with_reducible refine does_id ?_) | (with_reducible refine ops_id ?_)); refine walk ?_; (repeat' (first | exact trivial | with_reducible refine And.intro ?_ ?_)); all_goals (repeat (first | (with_reducible refine ImpB.mk fun hb => ?_) | (with_reducible refine ImpK.mk fun hK => ?_) | (with_reducible refine ImpF.mk fun hF => ?_) | (with_reducible refine ImpQ.mk fun hp => ?_) | (with_reducible refine AllE.mk fun p => ?_) | (with_reducible refine AllR.mk fun rest => ?_) | (with_reducible refine AllK.mk fun K => ?_))))); repeat' (with_reducible refine And.intro ?_ ?_))
  any_goals ((try (refine w_seq fun K hK => ?_)); (try (refine w_block ?_)); refine w_loop (A := Nat) (fun k => k ≤ 3 ∧ c3A W S P k) (fun k => 3 - k) (fun k => [(16, .int .i64 k)]) (fun k => []) (0) (ws := ?ws2) (tk := ?tk2) ?hw2 ?ht2 ?hi ?h0 ?LH2; (case hw2 => simp only [go_sem, decide_true, decide_false, Int.reduceToNat, Nat.min_eq_left, Nat.min_eq_right, Int.reducePow, Nat.reducePow, Int.reduceLE, Int.reduceLT, Int.reduceMul, Int.reduceAdd, Int.reduceSub, Int.reduceNeg, Bool.not_true, Bool.not_false, Bool.not_not, ↓reduceIte, Nat.reduceAdd, Nat.reduceSub, Nat.reduceMul, Nat.reduceEqDiff, reduceCtorEq, Nat.reduceLT, Nat.reduceLeDiff, Nat.reduceGT]; exact rfl); (case ht2 => simp only [go_sem, decide_true, decide_false, Int.reduceToNat, Nat.min_eq_left, Nat.min_eq_right, Int.reducePow, Nat.reducePow, Int.reduceLE, Int.reduceLT, Int.reduceMul, Int.reduceAdd, Int.reduceSub, Int.reduceNeg, Bool.not_true, Bool.not_false, Bool.not_not, ↓reduceIte, Nat.reduceAdd, Nat.reduceSub, Nat.reduceMul, Nat.reduceEqDiff, reduceCtorEq, Nat.reduceLT, Nat.reduceLeDiff, Nat.reduceGT]; exact rfl); (case' LH2 => rintro k E t hx hE ht; simp only [go_sem] at ht; subst ht; simp only [go_sem]; try dsimp only at hx))
  case hi => exact ⟨Nat.zero_le _, fun j hj => absurd hj (Nat.not_lt_zero j)⟩
  case h0 =>
    (focus (refine ⟨_, _, Gh.refl, [0, 1], rfl, ?_⟩; (refine ⟨?_, ?_, ?_⟩ <;> simp only [go_sem, List.range, List.range.loop, List.nodup_cons, List.nodup_nil, List.mem_cons, List.not_mem_nil, or_false, or_self, decide_true, decide_false, Int.reduceToNat, Nat.min_eq_left, Nat.min_eq_right, Int.reducePow, Nat.reducePow, Int.reduceLE, Int.reduceLT, Int.reduceMul, Int.reduceAdd, Int.reduceSub, Int.reduceNeg, Bool.not_true, Bool.not_false, Bool.not_not, ↓reduceIte, Nat.reduceAdd, Nat.reduceSub, Nat.reduceMul, Nat.reduceEqDiff, reduceCtorEq, Nat.reduceLT, Nat.reduceLeDiff, Nat.reduceGT]); (try any_goals (refine ⟨?_, ?_⟩)); (try any_goals (with_reducible rfl))))
    all_goals first | rfl | trace_state
  case LH2 =>
    obtain ⟨hk0, hc⟩ := hx
    have hk0' : k ≤ 3 := hk0
    by_cases hk : k < 3
    · have hkd : decide ((k : Int) < ((3 : Nat) : Int)) = true := decide_eq_true (by omega)
      have hw : IntKind.i64.wrap ((k : Int) + 1) = ((k + 1 : Nat) : Int) := by rw [wrap_i64 _ (by omega) (by omega)]; omega
      by_cases c1 : 1 ≤ ([W, S, P] : List Int).getD k 0 ∧ ([W, S, P] : List Int).getD k 0 ≤ 1099511627776
      · have d1 : decide (([W, S, P] : List Int).getD k 0 < 1) = false := decide_eq_false (by omega)
        have d2 : decide (1099511627776 < ([W, S, P] : List Int).getD k 0) = false := decide_eq_false (by omega)
        have hc' := c3_next hc c1
        (have zx1 := @hkd; have zx2 := @hw; have zx3 := @d1; have zx4 := @d2; all_goals (try ((first | (with_reducible refine wp_id ?_) | (with_reducible refine does_id ?_) | (with_reducible refine ops_id ?_)); refine walk ?_; (repeat' (first | exact trivial | with_reducible refine And.intro ?_ ?_)); all_goals (repeat (first | (with_reducible refine ImpB.mk fun hb => ?_) | (with_reducible refine ImpK.mk fun hK => ?_) | (with_reducible refine ImpF.mk fun hF => ?_) | (with_reducible refine ImpQ.mk fun hp => ?_) | (with_reducible refine AllE.mk fun p => ?_) | (with_reducible refine AllR.mk fun rest => ?_) | (with_reducible refine AllK.mk fun K => ?_))))); repeat' (with_reducible refine And.intro ?_ ?_))
        (all_goals first | exact Int.natCast_nonneg _ | exact Int.ofNat_lt.2 (by assumption) | assumption | omega | exact Nat.le_refl _ | (exfalso; simp at hb; done) | (simp only [go_sem, decide_true, decide_false, Int.reduceToNat, Nat.min_eq_left, Nat.min_eq_right, Int.reducePow, Nat.reducePow, Int.reduceLE, Int.reduceLT, Int.reduceMul, Int.reduceAdd, Int.reduceSub, Int.reduceNeg, Bool.not_true, Bool.not_false, Bool.not_not, ↓reduceIte, Nat.reduceAdd, Nat.reduceSub, Nat.reduceMul, Nat.reduceEqDiff, reduceCtorEq, Nat.reduceLT, Nat.reduceLeDiff, Nat.reduceGT]; done) | (unfold capM; omega) | (simp only [List.length_drop, List.length_take, List.length_append, List.length_cons, List.length_nil]; omega) | skip)
        refine ⟨k + 1, ⟨⟨hk, hc'⟩, by first | omega | (dsimp only; omega)⟩, ?_⟩
        (focus (refine ⟨_, _, Gh.refl, [0, 1], rfl, ?_⟩; (refine ⟨?_, ?_, ?_⟩ <;> simp only [go_sem, List.range, List.range.loop, List.nodup_cons, List.nodup_nil, List.mem_cons, List.not_mem_nil, or_false, or_self, decide_true, decide_false, Int.reduceToNat, Nat.min_eq_left, Nat.min_eq_right, Int.reducePow, Nat.reducePow, Int.reduceLE, Int.reduceLT, Int.reduceMul, Int.reduceAdd, Int.reduceSub, Int.reduceNeg, Bool.not_true, Bool.not_false, Bool.not_not, ↓reduceIte, Nat.reduceAdd, Nat.reduceSub, Nat.reduceMul, Nat.reduceEqDiff, reduceCtorEq, Nat.reduceLT, Nat.reduceLeDiff, Nat.reduceGT]); (try any_goals (refine ⟨?_, ?_⟩)); (try any_goals (with_reducible rfl))))
      · have hr : rightB W S P now = false := c3_bad hk c1
        by_cases c2 : ([W, S, P] : List Int).getD k 0 < 1
        · have d1 : decide (([W, S, P] : List Int).getD k 0 < 1) = true := decide_eq_true c2
          (have zx1 := @hkd; have zx2 := @d1; all_goals (try ((first | (with_reducible refine wp_id ?_) | (with_reducible refine does_id ?_) | (with_reducible refine ops_id ?_)); refine walk ?_; (repeat' (first | exact trivial | with_reducible refine And.intro ?_ ?_)); all_goals (repeat (first | (with_reducible refine ImpB.mk fun hb => ?_) | (with_reducible refine ImpK.mk fun hK => ?_) | (with_reducible refine ImpF.mk fun hF => ?_) | (with_reducible refine ImpQ.mk fun hp => ?_) | (with_reducible refine AllE.mk fun p => ?_) | (with_reducible refine AllR.mk fun rest => ?_) | (with_reducible refine AllK.mk fun K => ?_))))); repeat' (with_reducible refine And.intro ?_ ?_))
          (all_goals first | exact Int.natCast_nonneg _ | exact Int.ofNat_lt.2 (by assumption) | assumption | omega | exact Nat.le_refl _ | (exfalso; simp at hb; done) | (simp only [go_sem, decide_true, decide_false, Int.reduceToNat, Nat.min_eq_left, Nat.min_eq_right, Int.reducePow, Nat.reducePow, Int.reduceLE, Int.reduceLT, Int.reduceMul, Int.reduceAdd, Int.reduceSub, Int.reduceNeg, Bool.not_true, Bool.not_false, Bool.not_not, ↓reduceIte, Nat.reduceAdd, Nat.reduceSub, Nat.reduceMul, Nat.reduceEqDiff, reduceCtorEq, Nat.reduceLT, Nat.reduceLeDiff, Nat.reduceGT]; done) | (unfold capM; omega) | (simp only [List.length_drop, List.length_take, List.length_append, List.length_cons, List.length_nil]; omega) | skip)
          (focus (refine ⟨_, _, Gh.refl, [], rfl, ?_⟩; (refine ⟨?_, ?_, ?_⟩ <;> simp only [go_sem, List.range, List.range.loop, List.nodup_cons, List.nodup_nil, List.mem_cons, List.not_mem_nil, or_false, or_self, decide_true, decide_false, Int.reduceToNat, Nat.min_eq_left, Nat.min_eq_right, Int.reducePow, Nat.reducePow, Int.reduceLE, Int.reduceLT, Int.reduceMul, Int.reduceAdd, Int.reduceSub, Int.reduceNeg, Bool.not_true, Bool.not_false, Bool.not_not, ↓reduceIte, Nat.reduceAdd, Nat.reduceSub, Nat.reduceMul, Nat.reduceEqDiff, reduceCtorEq, Nat.reduceLT, Nat.reduceLeDiff, Nat.reduceGT]); (try any_goals (refine ⟨?_, ?_⟩)); (try any_goals (with_reducible rfl))))
        · have d1 : decide (([W, S, P] : List Int).getD k 0 < 1) = false := decide_eq_false c2
          have d2 : decide (1099511627776 < ([W, S, P] : List Int).getD k 0) = true := decide_eq_true (by omega)
          (have zx1 := @hkd; have zx2 := @d1; have zx3 := @d2; all_goals (try ((first | (with_reducible refine wp_id ?_) | (with_reducible refine does_id ?_) | (with_reducible refine ops_id ?_)); refine walk ?_; (repeat' (first | exact trivial | with_reducible refine And.intro ?_ ?_)); all_goals (repeat (first | (with_reducible refine ImpB.mk fun hb => ?_) | (with_reducible refine ImpK.mk fun hK => ?_) | (with_reducible refine ImpF.mk fun hF => ?_) | (with_reducible refine ImpQ.mk fun hp => ?_) | (with_reducible refine AllE.mk fun p => ?_) | (with_reducible refine AllR.mk fun rest => ?_) | (with_reducible refine AllK.mk fun K => ?_))))); repeat' (with_reducible refine And.intro ?_ ?_))
          (all_goals first | exact Int.natCast_nonneg _ | exact Int.ofNat_lt.2 (by assumption) | assumption | omega | exact Nat.le_refl _ | (exfalso; simp at hb; done) | (simp only [go_sem, decide_true, decide_false, Int.reduceToNat, Nat.min_eq_left, Nat.min_eq_right, Int.reducePow, Nat.reducePow, Int.reduceLE, Int.reduceLT, Int.reduceMul, Int.reduceAdd, Int.reduceSub, Int.reduceNeg, Bool.not_true, Bool.not_false, Bool.not_not, ↓reduceIte, Nat.reduceAdd, Nat.reduceSub, Nat.reduceMul, Nat.reduceEqDiff, reduceCtorEq, Nat.reduceLT, Nat.reduceLeDiff, Nat.reduceGT]; done) | (unfold capM; omega) | (simp only [List.length_drop, List.length_take, List.length_append, List.length_cons, List.length_nil]; omega) | skip)
          (focus (refine ⟨_, _, Gh.refl, [], rfl, ?_⟩; (refine ⟨?_, ?_, ?_⟩ <;> simp only [go_sem, List.range, List.range.loop, List.nodup_cons, List.nodup_nil, List.mem_cons, List.not_mem_nil, or_false, or_self, decide_true, decide_false, Int.reduceToNat, Nat.min_eq_left, Nat.min_eq_right, Int.reducePow, Nat.reducePow, Int.reduceLE, Int.reduceLT, Int.reduceMul, Int.reduceAdd, Int.reduceSub, Int.reduceNeg, Bool.not_true, Bool.not_false, Bool.not_not, ↓reduceIte, Nat.reduceAdd, Nat.reduceSub, Nat.reduceMul, Nat.reduceEqDiff, reduceCtorEq, Nat.reduceLT, Nat.reduceLeDiff, Nat.reduceGT]); (try any_goals (refine ⟨?_, ?_⟩)); (try any_goals (with_reducible rfl))))
    · have hkd : decide ((k : Int) < ((3 : Nat) : Int)) = false := decide_eq_false (by omega)
      obtain rfl : k = 3 := by omega
      have h3 := c3_all hc
      by_cases c4 : now < 0
      · have d4 : decide (now < 0) = true := decide_eq_true c4
        (have zx1 := @hkd; have zx2 := @d4; all_goals (try ((first | (with_reducible refine wp_id ?_) | (with_reducible refine does_id ?_) | (with_reducible refine ops_id ?_)); refine walk ?_; (repeat' (first | exact trivial | with_reducible refine And.intro ?_ ?_)); all_goals (repeat (first | (with_reducible refine ImpB.mk fun hb => ?_) | (with_reducible refine ImpK.mk fun hK => ?_) | (with_reducible refine ImpF.mk fun hF => ?_) | (with_reducible refine ImpQ.mk fun hp => ?_) | (with_reducible refine AllE.mk fun p => ?_) | (with_reducible refine AllR.mk fun rest => ?_) | (with_reducible refine AllK.mk fun K => ?_))))); repeat' (with_reducible refine And.intro ?_ ?_))
        (focus (refine ⟨_, _, Gh.refl, [], rfl, ?_⟩; (refine ⟨?_, ?_, ?_⟩ <;> simp only [go_sem, List.range, List.range.loop, List.nodup_cons, List.nodup_nil, List.mem_cons, List.not_mem_nil, or_false, or_self, decide_true, decide_false, Int.reduceToNat, Nat.min_eq_left, Nat.min_eq_right, Int.reducePow, Nat.reducePow, Int.reduceLE, Int.reduceLT, Int.reduceMul, Int.reduceAdd, Int.reduceSub, Int.reduceNeg, Bool.not_true, Bool.not_false, Bool.not_not, ↓reduceIte, Nat.reduceAdd, Nat.reduceSub, Nat.reduceMul, Nat.reduceEqDiff, reduceCtorEq, Nat.reduceLT, Nat.reduceLeDiff, Nat.reduceGT]); (try any_goals (refine ⟨?_, ?_⟩)); (try any_goals (with_reducible rfl))))
      · have d4 : decide (now < 0) = false := decide_eq_false c4
        have d5 : decide (1099511627776 < now) = true := decide_eq_true (by
          by_cases q : 1099511627776 < now
          · exact q
          · have : rightB W S P now = true := right_iff.2 (by omega)
            rw [hf] at this; cases this)
        (have zx1 := @hkd; have zx2 := @d4; have zx3 := @d5; all_goals (try ((first | (with_reducible refine wp_id ?_) | (with_reducible refine does_id ?_) | (with_reducible refine ops_id ?_)); refine walk ?_; (repeat' (first | exact trivial | with_reducible refine And.intro ?_ ?_)); all_goals (repeat (first | (with_reducible refine ImpB.mk fun hb => ?_) | (with_reducible refine ImpK.mk fun hK => ?_) | (with_reducible refine ImpF.mk fun hF => ?_) | (with_reducible refine ImpQ.mk fun hp => ?_) | (with_reducible refine AllE.mk fun p => ?_) | (with_reducible refine AllR.mk fun rest => ?_) | (with_reducible refine AllK.mk fun K => ?_))))); repeat' (with_reducible refine And.intro ?_ ?_))
        (focus (refine ⟨_, _, Gh.refl, [], rfl, ?_⟩; (refine ⟨?_, ?_, ?_⟩ <;> simp only [go_sem, List.range, List.range.loop, List.nodup_cons, List.nodup_nil, List.mem_cons, List.not_mem_nil, or_false, or_self, decide_true, decide_false, Int.reduceToNat, Nat.min_eq_left, Nat.min_eq_right, Int.reducePow, Nat.reducePow, Int.reduceLE, Int.reduceLT, Int.reduceMul, Int.reduceAdd, Int.reduceSub, Int.reduceNeg, Bool.not_true, Bool.not_false, Bool.not_not, ↓reduceIte, Nat.reduceAdd, Nat.reduceSub, Nat.reduceMul, Nat.reduceEqDiff, reduceCtorEq, Nat.reduceLT, Nat.reduceLeDiff, Nat.reduceGT]); (try any_goals (refine ⟨?_, ?_⟩)); (try any_goals (with_reducible rfl))))
theorem c_gnewF {h : List Ch} {K : KT} {W S P now : Int} (H : K (.tup [.lit (.pointer none), .int .i64 1]) h) (e1 : rightB W S P now = false) : Does Try.prog 7 [.agg [.int .i64 W, .int .i64 S, .int .i64 P], .int .i64 now] h K :=
  frame_pure (b_gnewF W S P now e1) (br_cons (br_agg (br_cons br_int (br_cons br_int (br_cons br_int br_nil)))) (br_cons br_int br_nil)) (.inl rfl) (fun _ => rfl) H
abbrev i_gnewF := Ctr.mk (i := 0) (g := 7) @c_gnewF
attribute [instance] i_gnewF
theorem b_gnewT (W S P now : Int) (ht : rightB W S P now = true) : DoesK Try.prog 0 7 [.agg [.int .i64 W, .int .i64 S, .int .i64 P], .int .i64 now] [] (EndF 0 (.tup [.ptr 0 0, .int .i64 0]) [.pack (Gd W S P now now now false 0 [] false)]) := by
  refine DoesK.close ?_
  obtain ⟨a1, a2, a3, a4, a5⟩ := right_iff.1 ht
  refine w_body (rs := [.tmp 4, .tmp 5]) (tm := [.agg [.int .i64 W, .int .i64 S, .int .i64 P], .int .i64 now, .any, .any, .any, .any, .any, .any, .any, .any, .any, .any, .any, .any, .any, .any, .any, .any, .any, .any, .any, .any, .any, .any, .any, .any, .any, .any, .any, .any, .any, .any, .any, .any, .any, .any, .any, .any, .any, .any]) fn_7 rfl rfl rfl rfl fun R hR => ?_
  (all_goals (try ((first | (with_reducible refine wp_id ?_) | (with_reducible refine does_id ?_) | (with_reducible refine ops_id ?_)); refine walk ?_; (repeat' (first | exact trivial | with_reducible refine And.intro ?_ ?_)); all_goals (repeat (first | (with_reducible refine ImpB.mk fun hb => ?_) | (with_reducible refine ImpK.mk fun hK => ?_) | (with_reducible refine ImpF.mk fun hF => ?_) | (with_reducible refine ImpQ.mk fun hp => ?_) | (with_reducible refine AllE.mk fun p => ?_) | (with_reducible refine AllR.mk fun rest => ?_) | (with_reducible refine AllK.mk fun K => ?_))))); repeat' (with_reducible refine And.intro ?_ ?_))
  any_goals ((try (refine w_seq fun K hK => ?_)); (try (refine w_block ?_)); refine w_loop (A := Nat) (fun k => k ≤ 3) (fun k => 3 - k) (fun k => [(16, .int .i64 k)]) (fun k => []) (0) (ws := ?ws3) (tk := ?tk3) ?hw3 ?ht3 ?hi ?h0 ?LH3; (case hw3 => simp only [go_sem, decide_true, decide_false, Int.reduceToNat, Nat.min_eq_left, Nat.min_eq_right, Int.reducePow, Nat.reducePow, Int.reduceLE, Int.reduceLT, Int.reduceMul, Int.reduceAdd, Int.reduceSub, Int.reduceNeg, Bool.not_true, Bool.not_false, Bool.not_not, ↓reduceIte, Nat.reduceAdd, Nat.reduceSub, Nat.reduceMul, Nat.reduceEqDiff, reduceCtorEq, Nat.reduceLT, Nat.reduceLeDiff, Nat.reduceGT]; exact rfl); (case ht3 => simp only [go_sem, decide_true, decide_false, Int.reduceToNat, Nat.min_eq_left, Nat.min_eq_right, Int.reducePow, Nat.reducePow, Int.reduceLE, Int.reduceLT, Int.reduceMul, Int.reduceAdd, Int.reduceSub, Int.reduceNeg, Bool.not_true, Bool.not_false, Bool.not_not, ↓reduceIte, Nat.reduceAdd, Nat.reduceSub, Nat.reduceMul, Nat.reduceEqDiff, reduceCtorEq, Nat.reduceLT, Nat.reduceLeDiff, Nat.reduceGT]; exact rfl); (case' LH3 => rintro k E t hx hE ht; simp only [go_sem] at ht; subst ht; simp only [go_sem]; try dsimp only at hx))
  case hi => exact Nat.zero_le _
  case h0 =>
    (focus (refine ⟨_, _, Gh.refl, [0, 1], rfl, ?_⟩; (refine ⟨?_, ?_, ?_⟩ <;> simp only [go_sem, List.range, List.range.loop, List.nodup_cons, List.nodup_nil, List.mem_cons, List.not_mem_nil, or_false, or_self, decide_true, decide_false, Int.reduceToNat, Nat.min_eq_left, Nat.min_eq_right, Int.reducePow, Nat.reducePow, Int.reduceLE, Int.reduceLT, Int.reduceMul, Int.reduceAdd, Int.reduceSub, Int.reduceNeg, Bool.not_true, Bool.not_false, Bool.not_not, ↓reduceIte, Nat.reduceAdd, Nat.reduceSub, Nat.reduceMul, Nat.reduceEqDiff, reduceCtorEq, Nat.reduceLT, Nat.reduceLeDiff, Nat.reduceGT]); (try any_goals (refine ⟨?_, ?_⟩)); (try any_goals (with_reducible rfl))))
    all_goals first | rfl | trace_state
  case LH3 =>
    have hk0' : k ≤ 3 := hx
    by_cases hk : k < 3
    · have hkd : decide ((k : Int) < ((3 : Nat) : Int)) = true := decide_eq_true (by omega)
      have hw : IntKind.i64.wrap ((k : Int) + 1) = ((k + 1 : Nat) : Int) := by rw [wrap_i64 _ (by omega) (by omega)]; omega
      have c1 : 1 ≤ ([W, S, P] : List Int).getD k 0 ∧ ([W, S, P] : List Int).getD k 0 ≤ 1099511627776 := by
        match k, hk with
        | 0, _ => exact a1
        | 1, _ => exact a2
        | 2, _ => exact a3
      have d1 : decide (([W, S, P] : List Int).getD k 0 < 1) = false := decide_eq_false (by omega)
      have d2 : decide (1099511627776 < ([W, S, P] : List Int).getD k 0) = false := decide_eq_false (by omega)
      (have zx1 := @hkd; have zx2 := @hw; have zx3 := @d1; have zx4 := @d2; all_goals (try ((first | (with_reducible refine wp_id ?_) | (with_reducible refine does_id ?_) | (with_reducible refine ops_id ?_)); refine walk ?_; (repeat' (first | exact trivial | with_reducible refine And.intro ?_ ?_)); all_goals (repeat (first | (with_reducible refine ImpB.mk fun hb => ?_) | (with_reducible refine ImpK.mk fun hK => ?_) | (with_reducible refine ImpF.mk fun hF => ?_) | (with_reducible refine ImpQ.mk fun hp => ?_) | (with_reducible refine AllE.mk fun p => ?_) | (with_reducible refine AllR.mk fun rest => ?_) | (with_reducible refine AllK.mk fun K => ?_))))); repeat' (with_reducible refine And.intro ?_ ?_))
      (all_goals first | exact Int.natCast_nonneg _ | exact Int.ofNat_lt.2 (by assumption) | assumption | omega | exact Nat.le_refl _ | (exfalso; simp at hb; done) | (simp only [go_sem, decide_true, decide_false, Int.reduceToNat, Nat.min_eq_left, Nat.min_eq_right, Int.reducePow, Nat.reducePow, Int.reduceLE, Int.reduceLT, Int.reduceMul, Int.reduceAdd, Int.reduceSub, Int.reduceNeg, Bool.not_true, Bool.not_false, Bool.not_not, ↓reduceIte, Nat.reduceAdd, Nat.reduceSub, Nat.reduceMul, Nat.reduceEqDiff, reduceCtorEq, Nat.reduceLT, Nat.reduceLeDiff, Nat.reduceGT]; done) | (unfold capM; omega) | (simp only [List.length_drop, List.length_take, List.length_append, List.length_cons, List.length_nil]; omega) | skip)
      refine ⟨k + 1, ⟨hk, by first | omega | (dsimp only; omega)⟩, ?_⟩
      (focus (refine ⟨_, _, Gh.refl, [0, 1], rfl, ?_⟩; (refine ⟨?_, ?_, ?_⟩ <;> simp only [go_sem, List.range, List.range.loop, List.nodup_cons, List.nodup_nil, List.mem_cons, List.not_mem_nil, or_false, or_self, decide_true, decide_false, Int.reduceToNat, Nat.min_eq_left, Nat.min_eq_right, Int.reducePow, Nat.reducePow, Int.reduceLE, Int.reduceLT, Int.reduceMul, Int.reduceAdd, Int.reduceSub, Int.reduceNeg, Bool.not_true, Bool.not_false, Bool.not_not, ↓reduceIte, Nat.reduceAdd, Nat.reduceSub, Nat.reduceMul, Nat.reduceEqDiff, reduceCtorEq, Nat.reduceLT, Nat.reduceLeDiff, Nat.reduceGT]); (try any_goals (refine ⟨?_, ?_⟩)); (try any_goals (with_reducible rfl))))
    · have hkd : decide ((k : Int) < ((3 : Nat) : Int)) = false := decide_eq_false (by omega)
      have d4 : decide (now < 0) = false := decide_eq_false (by omega)
      have d5 : decide (1099511627776 < now) = false := decide_eq_false (by omega)
      (have zx1 := @hkd; have zx2 := @d4; have zx3 := @d5; all_goals (try ((first | (with_reducible refine wp_id ?_) | (with_reducible refine does_id ?_) | (with_reducible refine ops_id ?_)); refine walk ?_; (repeat' (first | exact trivial | with_reducible refine And.intro ?_ ?_)); all_goals (repeat (first | (with_reducible refine ImpB.mk fun hb => ?_) | (with_reducible refine ImpK.mk fun hK => ?_) | (with_reducible refine ImpF.mk fun hF => ?_) | (with_reducible refine ImpQ.mk fun hp => ?_) | (with_reducible refine AllE.mk fun p => ?_) | (with_reducible refine AllR.mk fun rest => ?_) | (with_reducible refine AllK.mk fun K => ?_))))); repeat' (with_reducible refine And.intro ?_ ?_))
      (focus (refine ⟨_, _, gh_close (t := 3) (ts := [2]) (l := Gd W S P now now now false 0 [] false) ⟨⟨_, _, rfl⟩, ?_, by simp⟩, [3], rfl, ?_⟩; all_goals (refine ⟨?_, ?_, ?_⟩ <;> simp only [go_sem, List.range, List.range.loop, List.nodup_cons, List.nodup_nil, List.mem_cons, List.not_mem_nil, or_false, or_self, decide_true, decide_false, Int.reduceToNat, Nat.min_eq_left, Nat.min_eq_right, Int.reducePow, Nat.reducePow, Int.reduceLE, Int.reduceLT, Int.reduceMul, Int.reduceAdd, Int.reduceSub, Int.reduceNeg, Bool.not_true, Bool.not_false, Bool.not_not, ↓reduceIte, Nat.reduceAdd, Nat.reduceSub, Nat.reduceMul, Nat.reduceEqDiff, reduceCtorEq, Nat.reduceLT, Nat.reduceLeDiff, Nat.reduceGT]); (try any_goals (refine ⟨?_, ?_⟩)); (try any_goals (with_reducible rfl))))
      all_goals first | rfl | exact List.Perm.refl _ | trace_state
theorem c_gnewT {h : List Ch} {K : KT} {W S P now : Int} (H : K (.tup [.ptr h.length 0, .int .i64 0]) (h ++ [.pack (Gd W S P now now now false 0 [] false)])) (e1 : rightB W S P now = true) : Does Try.prog 7 [.agg [.int .i64 W, .int .i64 S, .int .i64 P], .int .i64 now] h K :=
  frame_new (b_gnewT W S P now e1) (br_cons (br_agg (br_cons br_int (br_cons br_int (br_cons br_int br_nil)))) (br_cons br_int br_nil)) (.inl rfl) (fun _ => rfl) (by simp [renA, renL, rhoC]) H
abbrev i_gnewT := Ctr.mk (i := 1) (g := 7) @c_gnewT
attribute [instance] i_gnewT
/-- the greatest time so far -/
def atT (now n : Int) : Int := if n ≤ 1099511627776 then max now n else now
section
variable (W S P now A H0 : Int) (don : Bool) (rt : Int) (kv : List (Int × Sw)) (al : Bool)
theorem b_gclock (n : Int) : DoesK Try.prog 1 20 [.ptr 0 0, .int .i64 n] [.pack (Gd W S P now A H0 don rt kv al)] (EndF 1 (.bool true) ([.pack (Gd W S P (atT now n) A H0 don rt kv al)] ++ [])) := by
  refine DoesK.close ?_
  by_cases c : n ≤ 1099511627776
  · have d : decide (n ≤ 1099511627776) = true := decide_eq_true c
    have e : atT now n = max now n := if_pos c
    rw [e]
    refine w_body (rs := [.tmp 4]) (tm := [.ptr 0 0, .int .i64 n, .any, .any, .any, .any, .any, .any, .any, .any, .any, .any, .any, .any, .any, .any, .any, .any, .any, .any, .any, .any, .any, .any, .any]) fn_20 rfl rfl rfl rfl fun R hR => ?_
    (have zx1 := @d; all_goals (try ((first | (with_reducible refine wp_id ?_) | (with_reducible refine does_id ?_) | (with_reducible refine ops_id ?_)); refine walk ?_; (repeat' (first | exact trivial | with_reducible refine And.intro ?_ ?_)); all_goals (repeat (first | (with_reducible refine ImpB.mk fun hb => ?_) | (with_reducible refine ImpK.mk fun hK => ?_) | (with_reducible refine ImpF.mk fun hF => ?_) | (with_reducible refine ImpQ.mk fun hp => ?_) | (with_reducible refine AllE.mk fun p => ?_) | (with_reducible refine AllR.mk fun rest => ?_) | (with_reducible refine AllK.mk fun K => ?_))))); repeat' (with_reducible refine And.intro ?_ ?_))
    (focus (refine ⟨_, _, gh_close (t := 0) (ts := [1]) (l := Gd W S P (max now n) A H0 don rt kv al) ⟨⟨_, _, rfl⟩, ?_, by simp⟩, [0], rfl, ?_⟩; all_goals (refine ⟨?_, ?_, ?_⟩ <;> simp only [go_sem, List.range, List.range.loop, List.nodup_cons, List.nodup_nil, List.mem_cons, List.not_mem_nil, or_false, or_self, decide_true, decide_false, Int.reduceToNat, Nat.min_eq_left, Nat.min_eq_right, Int.reducePow, Nat.reducePow, Int.reduceLE, Int.reduceLT, Int.reduceMul, Int.reduceAdd, Int.reduceSub, Int.reduceNeg, Bool.not_true, Bool.not_false, Bool.not_not, ↓reduceIte, Nat.reduceAdd, Nat.reduceSub, Nat.reduceMul, Nat.reduceEqDiff, reduceCtorEq, Nat.reduceLT, Nat.reduceLeDiff, Nat.reduceGT]); (try any_goals (refine ⟨?_, ?_⟩)); (try any_goals (with_reducible rfl))))
    all_goals first | rfl | exact List.Perm.refl _ | trace_state
  · have d : decide (n ≤ 1099511627776) = false := decide_eq_false c
    have e : atT now n = now := if_neg c
    rw [e]
    refine w_body (rs := [.tmp 4]) (tm := [.ptr 0 0, .int .i64 n, .any, .any, .any, .any, .any, .any, .any, .any, .any, .any, .any, .any, .any, .any, .any, .any, .any, .any, .any, .any, .any, .any, .any]) fn_20 rfl rfl rfl rfl fun R hR => ?_
    (have zx1 := @d; all_goals (try ((first | (with_reducible refine wp_id ?_) | (with_reducible refine does_id ?_) | (with_reducible refine ops_id ?_)); refine walk ?_; (repeat' (first | exact trivial | with_reducible refine And.intro ?_ ?_)); all_goals (repeat (first | (with_reducible refine ImpB.mk fun hb => ?_) | (with_reducible refine ImpK.mk fun hK => ?_) | (with_reducible refine ImpF.mk fun hF => ?_) | (with_reducible refine ImpQ.mk fun hp => ?_) | (with_reducible refine AllE.mk fun p => ?_) | (with_reducible refine AllR.mk fun rest => ?_) | (with_reducible refine AllK.mk fun K => ?_))))); repeat' (with_reducible refine And.intro ?_ ?_))
    (focus (refine ⟨_, _, gh_close (t := 0) (ts := [1]) (l := Gd W S P now A H0 don rt kv al) ⟨⟨_, _, rfl⟩, ?_, by simp⟩, [0], rfl, ?_⟩; all_goals (refine ⟨?_, ?_, ?_⟩ <;> simp only [go_sem, List.range, List.range.loop, List.nodup_cons, List.nodup_nil, List.mem_cons, List.not_mem_nil, or_false, or_self, decide_true, decide_false, Int.reduceToNat, Nat.min_eq_left, Nat.min_eq_right, Int.reducePow, Nat.reducePow, Int.reduceLE, Int.reduceLT, Int.reduceMul, Int.reduceAdd, Int.reduceSub, Int.reduceNeg, Bool.not_true, Bool.not_false, Bool.not_not, ↓reduceIte, Nat.reduceAdd, Nat.reduceSub, Nat.reduceMul, Nat.reduceEqDiff, reduceCtorEq, Nat.reduceLT, Nat.reduceLeDiff, Nat.reduceGT]); (try any_goals (refine ⟨?_, ?_⟩)); (try any_goals (with_reducible rfl))))
    all_goals first | rfl | exact List.Perm.refl _ | trace_state
end
theorem c_gclock {h : List Ch} {K : KT} {u : Nat} {W S P now A H0 rt n : Int} {don al : Bool} {kv : List (Int × Sw)} (H : K (.bool true) (h.set u (.pack (Gd W S P (atT now n) A H0 don rt kv al)))) (o : hth h u = .pack (Gd W S P now A H0 don rt kv al)) : Does Try.prog 20 [.ptr u 0, .int .i64 n] h K :=
  frame_obj0 (b_gclock W S P now A H0 don rt kv al n) o (by simp) (fitC_pack _) (br_cons (br_ptr rfl) (br_cons br_int br_nil)) (.inl rfl) (fun _ => rfl) rfl H
abbrev i_gclock := Ctr.mk (i := 0) (g := 20) @c_gclock
attribute [instance] i_gclock
theorem b_gclockN (n : Int) : DoesK Try.prog 0 20 [.lit (.pointer none), .int .i64 n] [] (EndF 0 (.bool false) []) := by
  refine DoesK.close ?_
  refine w_body (rs := [.tmp 4]) (tm := [.lit (.pointer none), .int .i64 n, .any, .any, .any, .any, .any, .any, .any, .any, .any, .any, .any, .any, .any, .any, .any, .any, .any, .any, .any, .any, .any, .any, .any]) fn_20 rfl rfl rfl rfl fun R hR => ?_
  (all_goals (try ((first | (with_reducible refine wp_id ?_) | (with_reducible refine does_id ?_) | (with_reducible refine ops_id ?_)); refine walk ?_; (repeat' (first | exact trivial | with_reducible refine And.intro ?_ ?_)); all_goals (repeat (first | (with_reducible refine ImpB.mk fun hb => ?_) | (with_reducible refine ImpK.mk fun hK => ?_) | (with_reducible refine ImpF.mk fun hF => ?_) | (with_reducible refine ImpQ.mk fun hp => ?_) | (with_reducible refine AllE.mk fun p => ?_) | (with_reducible refine AllR.mk fun rest => ?_) | (with_reducible refine AllK.mk fun K => ?_))))); repeat' (with_reducible refine And.intro ?_ ?_))
  (focus (refine ⟨_, _, Gh.refl, [], rfl, ?_⟩; (refine ⟨?_, ?_, ?_⟩ <;> simp only [go_sem, List.range, List.range.loop, List.nodup_cons, List.nodup_nil, List.mem_cons, List.not_mem_nil, or_false, or_self, decide_true, decide_false, Int.reduceToNat, Nat.min_eq_left, Nat.min_eq_right, Int.reducePow, Nat.reducePow, Int.reduceLE, Int.reduceLT, Int.reduceMul, Int.reduceAdd, Int.reduceSub, Int.reduceNeg, Bool.not_true, Bool.not_false, Bool.not_not, ↓reduceIte, Nat.reduceAdd, Nat.reduceSub, Nat.reduceMul, Nat.reduceEqDiff, reduceCtorEq, Nat.reduceLT, Nat.reduceLeDiff, Nat.reduceGT]); (try any_goals (refine ⟨?_, ?_⟩)); (try any_goals (with_reducible rfl))))
theorem c_gclockN {h : List Ch} {K : KT} {n : Int} (H : K (.bool false) h) : Does Try.prog 20 [.lit (.pointer none), .int .i64 n] h K :=
  frame_pure (b_gclockN n) (br_cons br_lit (br_cons br_int br_nil)) (.inl rfl) (fun _ => rfl) H
abbrev i_gclockN := Ctr.mk (i := 1) (g := 20) @c_gclockN
attribute [instance] i_gclockN
section
variable (W S P now A H0 : Int) (don : Bool) (rt : Int) (kv : List (Int × Sw)) (al : Bool)
end
theorem b_may (don : Bool) (rt now P : Int) (h1 : 0 ≤ now ∧ now ≤ 1099511627776) (h2 : 0 ≤ rt ∧ rt ≤ 1099511627776) : DoesK Try.prog 0 22 [.agg [.bool don, .int .i64 rt], .int .i64 now, .int .i64 P] [] (EndF 0 (.bool (!don || decide (P ≤ now - rt))) []) := by
  refine DoesK.close ?_
  have w1 : IntKind.i64.wrap (now - rt) = now - rt := wrap_i64 _ (by omega) (by omega)
  cases don
  · refine w_body (rs := [.tmp 6]) (tm := [.agg [.bool false, .int .i64 rt], .int .i64 now, .int .i64 P, .any, .any, .any, .any, .any, .any, .any, .any, .any, .any, .any, .any, .any, .any, .any]) fn_22 rfl rfl rfl rfl fun R hR => ?_
    (have zx1 := @w1; all_goals (try ((first | (with_reducible refine wp_id ?_) | (with_reducible refine does_id ?_) | (with_reducible refine ops_id ?_)); refine walk ?_; (repeat' (first | exact trivial | with_reducible refine And.intro ?_ ?_)); all_goals (repeat (first | (with_reducible refine ImpB.mk fun hb => ?_) | (with_reducible refine ImpK.mk fun hK => ?_) | (with_reducible refine ImpF.mk fun hF => ?_) | (with_reducible refine ImpQ.mk fun hp => ?_) | (with_reducible refine AllE.mk fun p => ?_) | (with_reducible refine AllR.mk fun rest => ?_) | (with_reducible refine AllK.mk fun K => ?_))))); repeat' (with_reducible refine And.intro ?_ ?_))
    (focus (refine ⟨_, _, Gh.refl, [], rfl, ?_⟩; (refine ⟨?_, ?_, ?_⟩ <;> simp only [go_sem, List.range, List.range.loop, List.nodup_cons, List.nodup_nil, List.mem_cons, List.not_mem_nil, or_false, or_self, decide_true, decide_false, Int.reduceToNat, Nat.min_eq_left, Nat.min_eq_right, Int.reducePow, Nat.reducePow, Int.reduceLE, Int.reduceLT, Int.reduceMul, Int.reduceAdd, Int.reduceSub, Int.reduceNeg, Bool.not_true, Bool.not_false, Bool.not_not, ↓reduceIte, Nat.reduceAdd, Nat.reduceSub, Nat.reduceMul, Nat.reduceEqDiff, reduceCtorEq, Nat.reduceLT, Nat.reduceLeDiff, Nat.reduceGT]); (try any_goals (refine ⟨?_, ?_⟩)); (try any_goals (with_reducible rfl))))
    all_goals first | rfl | trace_state
  · refine w_body (rs := [.tmp 6]) (tm := [.agg [.bool true, .int .i64 rt], .int .i64 now, .int .i64 P, .any, .any, .any, .any, .any, .any, .any, .any, .any, .any, .any, .any, .any, .any, .any]) fn_22 rfl rfl rfl rfl fun R hR => ?_
    (have zx1 := @w1; all_goals (try ((first | (with_reducible refine wp_id ?_) | (with_reducible refine does_id ?_) | (with_reducible refine ops_id ?_)); refine walk ?_; (repeat' (first | exact trivial | with_reducible refine And.intro ?_ ?_)); all_goals (repeat (first | (with_reducible refine ImpB.mk fun hb => ?_) | (with_reducible refine ImpK.mk fun hK => ?_) | (with_reducible refine ImpF.mk fun hF => ?_) | (with_reducible refine ImpQ.mk fun hp => ?_) | (with_reducible refine AllE.mk fun p => ?_) | (with_reducible refine AllR.mk fun rest => ?_) | (with_reducible refine AllK.mk fun K => ?_))))); repeat' (with_reducible refine And.intro ?_ ?_))
    (focus (refine ⟨_, _, Gh.refl, [], rfl, ?_⟩; (refine ⟨?_, ?_, ?_⟩ <;> simp only [go_sem, List.range, List.range.loop, List.nodup_cons, List.nodup_nil, List.mem_cons, List.not_mem_nil, or_false, or_self, decide_true, decide_false, Int.reduceToNat, Nat.min_eq_left, Nat.min_eq_right, Int.reducePow, Nat.reducePow, Int.reduceLE, Int.reduceLT, Int.reduceMul, Int.reduceAdd, Int.reduceSub, Int.reduceNeg, Bool.not_true, Bool.not_false, Bool.not_not, ↓reduceIte, Nat.reduceAdd, Nat.reduceSub, Nat.reduceMul, Nat.reduceEqDiff, reduceCtorEq, Nat.reduceLT, Nat.reduceLeDiff, Nat.reduceGT]); (try any_goals (refine ⟨?_, ?_⟩)); (try any_goals (with_reducible rfl))))
    all_goals first | rfl | trace_state
theorem c_may {h : List Ch} {K : KT} {don : Bool} {rt now P : Int} (H : K (.bool (!don || decide (P ≤ now - rt))) h) (s1 : 0 ≤ now ∧ now ≤ 1099511627776) (s2 : 0 ≤ rt ∧ rt ≤ 1099511627776) : Does Try.prog 22 [.agg [.bool don, .int .i64 rt], .int .i64 now, .int .i64 P] h K :=
  frame_pure (b_may don rt now P s1 s2) (br_cons (br_agg (br_cons br_bool (br_cons br_int br_nil))) (br_cons br_int (br_cons br_int br_nil))) (.inl rfl) (fun _ => rfl) H
abbrev i_may := Ctr.mk (i := 0) (g := 22) @c_may
attribute [instance] i_may
end Go.V

set_option maxRecDepth 100000
set_option maxHeartbeats 1000000
namespace Go.Proofs
open Go.Shelf Go.Sort
shelf_lay_g SlLaysM.n5 Slgm 5 at Try 23 as Try.mSortZ
end Go.Proofs
namespace Go.V
open Go.Proofs Go.Sort
/-- the integers in order -/
def sortZ (l : List Int) : List Int := l.mergeSort fun x y => decide (x ≤ y)
theorem sortZ_len (l : List Int) : (sortZ l).length = l.length := List.length_mergeSort _
theorem sortZ_perm (l : List Int) : (sortZ l).Perm l := List.mergeSort_perm _ _
theorem ints_of {R : RO} : ∀ {xs : List Int} {l : List Value}, LRel R [] (xs.flatMap (Ety.enc .int)) l → l = xs.map (Value.int .i64)
  | [], _, h => by cases h; rfl
  | x :: xs, _, h => by
    rw [List.flatMap_cons] at h
    cases h with
    | cons h1 h2 =>
      cases h1
      rw [ints_of (xs := xs) h2]
      rfl
theorem of_ints {R : RO} : ∀ (xs : List Int), LRel R [] (xs.flatMap (Ety.enc .int)) (xs.map (Value.int .i64))
  | [] => .nil
  | _ :: xs => .cons .int (of_ints xs)
theorem sort_int {P : Program} {g : FuncId} (hr : Here P g)
    (hc : ∀ (blk off cap : Nat) (ss : List Int) (w : World), Holds (Value.int .i64) w blk off ss.toArray → blk < w.heap.size → ss.length < 4611686018427387904 →
      Calls P g #[.slice (some ⟨blk, off, none⟩) ss.length cap] w fun e w' => e = .returned (.tuple #[]) ∧ ∃ n os, w' = grow (putRow (Value.int .i64) (Sort.ahead w n) blk off (ss.mergeSort fun x y => decide (x ≤ y)).toArray) os)
    (hc0 : ∀ (p : Option Addr) (cap : Nat) (w : World), Calls P g #[.slice p 0 cap] w fun e w' => e = .returned (.tuple #[]) ∧ w' = w)
    {h : List Ch} {K : KT} {t : Nat} {xs : List Int} {n : Nat} (hn : n = xs.length) (hx : xs.length ≤ 1099511627776) (H : K (.tup []) (h.set t (.rows .int (sortZ xs)))) (o : hth h t = .rows .int xs) : Does P g [.sl t .int 0 n] h K := by
  refine ⟨hr, fun R μ w vs hv H0 => ?_⟩
  have hg := hth_get o (by simp)
  cases hv with
  | cons hv h2 =>
  cases h2
  have hz : n = 0 → K (.tup []) h := fun e => by
    rw [e] at hn
    have : xs = [] := List.eq_nil_of_length_eq_zero hn.symm
    subst this
    have hs : sortZ [] = [] := List.eq_nil_of_length_eq_zero (sortZ_len [])
    rw [hs, ← o, set_hth rfl (by rw [o]; simp)] at H
    exact H
  generalize hN : n = N at hv
  cases hv with
  | sl0 hl =>
    refine (hc0 _ _ _).mono ?_
    rintro e w' ⟨rfl, rfl⟩
    exact ⟨_, R, μ, h, .tup [], rfl, hz hN, .tup .nil, H0, Ext.refl _, Step.refl _ _ _⟩
  | sl h1 hcap hl hm =>
    rename_i b cap c
    obtain ⟨B, hB, hr1, hown⟩ := H0.rel.get hg
    have : B = .blk b cap := by rw [h1] at hB; exact (Option.some.inj hB).symm
    subst this
    rcases hr1 with ⟨hx, _⟩ | ⟨b', cap', arr, ty, hx, hb, hsz, hlen, hmx, hrel⟩
    · cases hx
    · cases hx
      rw [show Ety.sz .int = 1 from rfl, Nat.mul_one] at hrel hsz
      have ht := ints_of hrel
      have hH := holds_of_blockI hb ht
      have hbl : b < w.heap.size := (Array.getElem?_eq_some_iff.1 hb).1
      subst hN
      subst hn
      rw [Nat.zero_mul]
      refine (hc b 0 c xs w hH hbl (by omega)).mono ?_
      rintro e w' ⟨rfl, m, os, rfl⟩
      have hg2 := grownBy_sortedI (w := w) (g := b) (n := m) (os := os) (sortZ xs).toArray
      obtain ⟨g1, g2, g3, g4, g5⟩ := hg2
      obtain ⟨H1, hst⟩ := H0.set (w' := grow (putRow (Value.int .i64) (Sort.ahead w m) b 0 (sortZ xs).toArray) os) (c' := .rows .int (sortZ xs)) hg hB (by simp [ownC]) (fun k hk hne => g5 k hk (fun e => hne (by simp only [ownC, List.mem_singleton]; exact Option.some.inj e))) g4
        (.inr ⟨b, cap, _, ty, rfl, heap_sortedI _ hb, by simp only [putCells, Array.size_mapIdx, hsz]; exact (Nat.mul_one _).symm, by rw [sortZ_len]; exact hlen, hmx, by
          rw [show Ety.sz .int = 1 from rfl, Nat.mul_one, take_putCellsI arr _ (by rw [sortZ_len]; omega)]
          exact of_ints _⟩) rfl rfl rfl
      exact ⟨_, R, μ, _, .tup [], rfl, H, .tup .nil, H1, Ext.refl _, hst⟩
theorem c_sortz {h : List Ch} {K : KT} {t : Nat} {xs : List Int} {n : Nat} (H : K (.tup []) (h.set t (.rows .int (sortZ xs)))) (o : hth h t = .rows .int xs) (s1 : n = xs.length) (s2 : xs.length ≤ 1099511627776) : Does Try.prog 23 [.sl t .int 0 n] h K :=
  sort_int ⟨_, fn_23, rfl, rfl⟩ (AnyM.slices_Sort_int Try.mSortZ) (AnyM.slices_Sort_int_none Try.mSortZ) s1 s2 H o
abbrev i_sortz := Ctr.mk (i := 0) (g := 23) @c_sortz
attribute [instance] i_sortz
end Go.V
