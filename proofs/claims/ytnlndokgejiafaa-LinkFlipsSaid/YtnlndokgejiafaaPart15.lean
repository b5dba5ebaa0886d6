/-
  The laws of the link: LinkDelivers.
-/
import Derived.Test.YtnlndokgejiafaaPart14
set_option linter.unusedVariables false
set_option linter.unusedSimpArgs false
set_option maxRecDepth 100000
set_option maxHeartbeats 16000000
namespace Go.V
open Go.Proofs
theorem b_delivers (D : Nat) (og : Rng) (ms : List Int) (l : List (List UInt8)) (hD : D ≤ 255) (hm : ms.length ≤ 9223372036854775807) (hl : l.length ≤ 9223372036854775807) : DoesK Try.prog 0 3 [.int .u8 (D : Int), .agg [.int .i64 og.from_, .int .i64 og.to_], .ro .int ms, .ro .bytes l] [] (EndF 0 (.bool true) []) := by
  refine DoesK.close ?_
  by_cases c1 : 60 < l.length
  · have d : decide ((60 : Int) < (l.length : Int)) = true := decide_eq_true (by omega)
    refine w_body (rs := [.tmp 8]) (tm := [.int .u8 (D : Int), .agg [.int .i64 og.from_, .int .i64 og.to_], .ro .int ms, .ro .bytes l, .any, .any, .any, .any, .any, .any, .any, .any, .any, .any, .any, .any, .any, .any, .any, .any, .any, .any, .any, .any, .any, .any, .any, .any, .any, .any, .any, .any, .any, .any, .any, .any, .any, .any, .any, .any, .any, .any, .any, .any, .any, .any, .any, .any, .any, .any, .any, .any, .any, .any, .any, .any, .any, .any, .any, .any, .any, .any, .any, .any, .any, .any, .any, .any, .any, .any, .any, .any, .any, .any, .any, .any, .any, .any, .any, .any, .any, .any, .any, .any, .any, .any, .any, .any, .any, .any, .any, .any, .any, .any, .any, .any, .any, .any, .any, .any, .any, .any, .any, .any, .any, .any, .any, .any, .any, .any, .any, .any, .any, .any, .any, .any, .any, .any, .any, .any, .any, .any, .any, .any, .any, .any, .any, .any, .any, .any, .any, .any, .any, .any, .any, .any, .any, .any, .any, .any, .any, .any, .any, .any, .any, .any, .any, .any, .any, .any, .any, .any, .any, .any, .any, .any, .any, .any, .any, .any, .any, .any, .any, .any, .any, .any, .any, .any]) fn_3 rfl rfl rfl rfl fun R hR => ?_
    (have zx1 := @d; all_goals (try ((first | (with_reducible refine wp_id ?_) | (with_reducible refine does_id ?_) | (with_reducible refine ops_id ?_)); refine walk ?_; (repeat' (first | exact trivial | with_reducible refine And.intro ?_ ?_)); all_goals (repeat (first | (with_reducible refine ImpB.mk fun hb => ?_) | (with_reducible refine ImpK.mk fun hK => ?_) | (with_reducible refine ImpF.mk fun hF => ?_) | (with_reducible refine ImpQ.mk fun hp => ?_) | (with_reducible refine AllE.mk fun p => ?_) | (with_reducible refine AllR.mk fun rest => ?_) | (with_reducible refine AllK.mk fun K => ?_))))); repeat' (with_reducible refine And.intro ?_ ?_))
    (focus (refine ⟨_, _, Gh.refl, [], rfl, ?_⟩; (refine ⟨?_, ?_, ?_⟩ <;> simp only [go_sem, List.range, List.range.loop, List.nodup_cons, List.nodup_nil, List.mem_cons, List.not_mem_nil, or_false, or_self, decide_true, decide_false, Int.reduceToNat, Nat.min_eq_left, Nat.min_eq_right, Int.reducePow, Nat.reducePow, Int.reduceLE, Int.reduceLT, Int.reduceMul, Int.reduceAdd, Int.reduceSub, Int.reduceNeg, Bool.not_true, Bool.not_false, Bool.not_not, ↓reduceIte, Nat.reduceAdd, Nat.reduceSub, Nat.reduceMul, Nat.reduceEqDiff, reduceCtorEq, Nat.reduceLT, Nat.reduceLeDiff, Nat.reduceGT]); (try any_goals (refine ⟨?_, ?_⟩)); (try any_goals (with_reducible rfl))))
  have d1 : decide ((60 : Int) < (l.length : Int)) = false := decide_eq_false (by omega)
  by_cases c2 : 60 < ms.length
  · have d : decide ((60 : Int) < (ms.length : Int)) = true := decide_eq_true (by omega)
    refine w_body (rs := [.tmp 8]) (tm := [.int .u8 (D : Int), .agg [.int .i64 og.from_, .int .i64 og.to_], .ro .int ms, .ro .bytes l, .any, .any, .any, .any, .any, .any, .any, .any, .any, .any, .any, .any, .any, .any, .any, .any, .any, .any, .any, .any, .any, .any, .any, .any, .any, .any, .any, .any, .any, .any, .any, .any, .any, .any, .any, .any, .any, .any, .any, .any, .any, .any, .any, .any, .any, .any, .any, .any, .any, .any, .any, .any, .any, .any, .any, .any, .any, .any, .any, .any, .any, .any, .any, .any, .any, .any, .any, .any, .any, .any, .any, .any, .any, .any, .any, .any, .any, .any, .any, .any, .any, .any, .any, .any, .any, .any, .any, .any, .any, .any, .any, .any, .any, .any, .any, .any, .any, .any, .any, .any, .any, .any, .any, .any, .any, .any, .any, .any, .any, .any, .any, .any, .any, .any, .any, .any, .any, .any, .any, .any, .any, .any, .any, .any, .any, .any, .any, .any, .any, .any, .any, .any, .any, .any, .any, .any, .any, .any, .any, .any, .any, .any, .any, .any, .any, .any, .any, .any, .any, .any, .any, .any, .any, .any, .any, .any, .any, .any, .any, .any, .any, .any, .any, .any]) fn_3 rfl rfl rfl rfl fun R hR => ?_
    (have zx1 := @d1; have zx2 := @d; all_goals (try ((first | (with_reducible refine wp_id ?_) | (with_reducible refine does_id ?_) | (with_reducible refine ops_id ?_)); refine walk ?_; (repeat' (first | exact trivial | with_reducible refine And.intro ?_ ?_)); all_goals (repeat (first | (with_reducible refine ImpB.mk fun hb => ?_) | (with_reducible refine ImpK.mk fun hK => ?_) | (with_reducible refine ImpF.mk fun hF => ?_) | (with_reducible refine ImpQ.mk fun hp => ?_) | (with_reducible refine AllE.mk fun p => ?_) | (with_reducible refine AllR.mk fun rest => ?_) | (with_reducible refine AllK.mk fun K => ?_))))); repeat' (with_reducible refine And.intro ?_ ?_))
    (focus (refine ⟨_, _, Gh.refl, [], rfl, ?_⟩; (refine ⟨?_, ?_, ?_⟩ <;> simp only [go_sem, List.range, List.range.loop, List.nodup_cons, List.nodup_nil, List.mem_cons, List.not_mem_nil, or_false, or_self, decide_true, decide_false, Int.reduceToNat, Nat.min_eq_left, Nat.min_eq_right, Int.reducePow, Nat.reducePow, Int.reduceLE, Int.reduceLT, Int.reduceMul, Int.reduceAdd, Int.reduceSub, Int.reduceNeg, Bool.not_true, Bool.not_false, Bool.not_not, ↓reduceIte, Nat.reduceAdd, Nat.reduceSub, Nat.reduceMul, Nat.reduceEqDiff, reduceCtorEq, Nat.reduceLT, Nat.reduceLeDiff, Nat.reduceGT]); (try any_goals (refine ⟨?_, ?_⟩)); (try any_goals (with_reducible rfl))))
  have d2 : decide ((60 : Int) < (ms.length : Int)) = false := decide_eq_false (by omega)
  have hro : RoLit := .mk
  have z0 : IntKind.i64.wrap (D : Int) = (D : Int) := wrap_i64 _ (by omega) (by omega)
  refine w_body (rs := [.tmp 8]) (tm := [.int .u8 (D : Int), .agg [.int .i64 og.from_, .int .i64 og.to_], .ro .int ms, .ro .bytes l, .any, .any, .any, .any, .any, .any, .any, .any, .any, .any, .any, .any, .any, .any, .any, .any, .any, .any, .any, .any, .any, .any, .any, .any, .any, .any, .any, .any, .any, .any, .any, .any, .any, .any, .any, .any, .any, .any, .any, .any, .any, .any, .any, .any, .any, .any, .any, .any, .any, .any, .any, .any, .any, .any, .any, .any, .any, .any, .any, .any, .any, .any, .any, .any, .any, .any, .any, .any, .any, .any, .any, .any, .any, .any, .any, .any, .any, .any, .any, .any, .any, .any, .any, .any, .any, .any, .any, .any, .any, .any, .any, .any, .any, .any, .any, .any, .any, .any, .any, .any, .any, .any, .any, .any, .any, .any, .any, .any, .any, .any, .any, .any, .any, .any, .any, .any, .any, .any, .any, .any, .any, .any, .any, .any, .any, .any, .any, .any, .any, .any, .any, .any, .any, .any, .any, .any, .any, .any, .any, .any, .any, .any, .any, .any, .any, .any, .any, .any, .any, .any, .any, .any, .any, .any, .any, .any, .any, .any, .any, .any, .any, .any, .any, .any]) fn_3 rfl rfl rfl rfl fun R hR => ?_
  (have zx1 := @d1; have zx2 := @d2; all_goals (try ((first | (with_reducible refine wp_id ?_) | (with_reducible refine does_id ?_) | (with_reducible refine ops_id ?_)); refine walk ?_; (repeat' (first | exact trivial | with_reducible refine And.intro ?_ ?_)); all_goals (repeat (first | (with_reducible refine ImpB.mk fun hb => ?_) | (with_reducible refine ImpK.mk fun hK => ?_) | (with_reducible refine ImpF.mk fun hF => ?_) | (with_reducible refine ImpQ.mk fun hp => ?_) | (with_reducible refine AllE.mk fun p => ?_) | (with_reducible refine AllR.mk fun rest => ?_) | (with_reducible refine AllK.mk fun K => ?_))))); repeat' (with_reducible refine And.intro ?_ ?_))
  any_goals ((try (refine w_seq fun K hK => ?_)); (try (refine w_block ?_)); refine w_loop (A := Nat) (fun i => i ≤ ms.length ∧ ∀ j, j < i → 0 ≤ ms.getD j 0) (fun i => ms.length - i) (fun i => [(9, .int .i64 i)]) (fun _ => []) (0) (ws := ?ws1) (tk := ?tk1) ?hw1 ?ht1 ?hi ?h0 ?LH1; (case hw1 => simp only [go_sem, decide_true, decide_false, Int.reduceToNat, Nat.min_eq_left, Nat.min_eq_right, Int.reducePow, Nat.reducePow, Int.reduceLE, Int.reduceLT, Int.reduceMul, Int.reduceAdd, Int.reduceSub, Int.reduceNeg, Bool.not_true, Bool.not_false, Bool.not_not, ↓reduceIte, Nat.reduceAdd, Nat.reduceSub, Nat.reduceMul, Nat.reduceEqDiff, reduceCtorEq, Nat.reduceLT, Nat.reduceLeDiff, Nat.reduceGT]; exact rfl); (case ht1 => simp only [go_sem, decide_true, decide_false, Int.reduceToNat, Nat.min_eq_left, Nat.min_eq_right, Int.reducePow, Nat.reducePow, Int.reduceLE, Int.reduceLT, Int.reduceMul, Int.reduceAdd, Int.reduceSub, Int.reduceNeg, Bool.not_true, Bool.not_false, Bool.not_not, ↓reduceIte, Nat.reduceAdd, Nat.reduceSub, Nat.reduceMul, Nat.reduceEqDiff, reduceCtorEq, Nat.reduceLT, Nat.reduceLeDiff, Nat.reduceGT]; exact rfl); (case' LH1 => rintro i E t hx hE ht; simp only [go_sem] at ht; subst ht; simp only [go_sem]; try dsimp only at hx))
  case hi => exact ⟨Nat.zero_le _, fun j hj => absurd hj (by omega)⟩
  case h0 => (focus (refine ⟨_, _, Gh.refl, [0], rfl, ?_⟩; (refine ⟨?_, ?_, ?_⟩ <;> simp only [go_sem, List.range, List.range.loop, List.nodup_cons, List.nodup_nil, List.mem_cons, List.not_mem_nil, or_false, or_self, decide_true, decide_false, Int.reduceToNat, Nat.min_eq_left, Nat.min_eq_right, Int.reducePow, Nat.reducePow, Int.reduceLE, Int.reduceLT, Int.reduceMul, Int.reduceAdd, Int.reduceSub, Int.reduceNeg, Bool.not_true, Bool.not_false, Bool.not_not, ↓reduceIte, Nat.reduceAdd, Nat.reduceSub, Nat.reduceMul, Nat.reduceEqDiff, reduceCtorEq, Nat.reduceLT, Nat.reduceLeDiff, Nat.reduceGT]); (try any_goals (refine ⟨?_, ?_⟩)); (try any_goals (with_reducible rfl))))
  case LH1 =>
    obtain ⟨hi0, hno⟩ := hx
    have hw : IntKind.i64.wrap ((i : Int) + 1) = ((i + 1 : Nat) : Int) := by rw [wrap_i64 _ (by omega) (by omega)]; omega
    by_cases hi : i < ms.length
    · have hid : decide ((i : Int) < (ms.length : Int)) = true := decide_eq_true (by omega)
      by_cases c : ms.getD i 0 < 0
      · have cd : decide (ms.getD i 0 < 0) = true := decide_eq_true c
        (have zx1 := @hid; have zx2 := @hw; have zx3 := @cd; all_goals (try ((first | (with_reducible refine wp_id ?_) | (with_reducible refine does_id ?_) | (with_reducible refine ops_id ?_)); refine walk ?_; (repeat' (first | exact trivial | with_reducible refine And.intro ?_ ?_)); all_goals (repeat (first | (with_reducible refine ImpB.mk fun hb => ?_) | (with_reducible refine ImpK.mk fun hK => ?_) | (with_reducible refine ImpF.mk fun hF => ?_) | (with_reducible refine ImpQ.mk fun hp => ?_) | (with_reducible refine AllE.mk fun p => ?_) | (with_reducible refine AllR.mk fun rest => ?_) | (with_reducible refine AllK.mk fun K => ?_))))); repeat' (with_reducible refine And.intro ?_ ?_))
        all_goals first | exact Int.natCast_nonneg _ | omega | skip
        (focus (refine ⟨_, _, Gh.refl, [], rfl, ?_⟩; (refine ⟨?_, ?_, ?_⟩ <;> simp only [go_sem, List.range, List.range.loop, List.nodup_cons, List.nodup_nil, List.mem_cons, List.not_mem_nil, or_false, or_self, decide_true, decide_false, Int.reduceToNat, Nat.min_eq_left, Nat.min_eq_right, Int.reducePow, Nat.reducePow, Int.reduceLE, Int.reduceLT, Int.reduceMul, Int.reduceAdd, Int.reduceSub, Int.reduceNeg, Bool.not_true, Bool.not_false, Bool.not_not, ↓reduceIte, Nat.reduceAdd, Nat.reduceSub, Nat.reduceMul, Nat.reduceEqDiff, reduceCtorEq, Nat.reduceLT, Nat.reduceLeDiff, Nat.reduceGT]); (try any_goals (refine ⟨?_, ?_⟩)); (try any_goals (with_reducible rfl))))
      · have cd : decide (ms.getD i 0 < 0) = false := decide_eq_false c
        (have zx1 := @hid; have zx2 := @hw; have zx3 := @cd; all_goals (try ((first | (with_reducible refine wp_id ?_) | (with_reducible refine does_id ?_) | (with_reducible refine ops_id ?_)); refine walk ?_; (repeat' (first | exact trivial | with_reducible refine And.intro ?_ ?_)); all_goals (repeat (first | (with_reducible refine ImpB.mk fun hb => ?_) | (with_reducible refine ImpK.mk fun hK => ?_) | (with_reducible refine ImpF.mk fun hF => ?_) | (with_reducible refine ImpQ.mk fun hp => ?_) | (with_reducible refine AllE.mk fun p => ?_) | (with_reducible refine AllR.mk fun rest => ?_) | (with_reducible refine AllK.mk fun K => ?_))))); repeat' (with_reducible refine And.intro ?_ ?_))
        all_goals first | exact Int.natCast_nonneg _ | omega | skip
        refine ⟨i + 1, ⟨⟨by first | omega | (dsimp only; omega), fun j hj => ?_⟩, by first | omega | (dsimp only; omega)⟩, ?_⟩
        · by_cases e : j = i
          · rw [e]; omega
          · exact hno j (by omega)
        (focus (refine ⟨_, _, Gh.refl, [0], rfl, ?_⟩; (refine ⟨?_, ?_, ?_⟩ <;> simp only [go_sem, List.range, List.range.loop, List.nodup_cons, List.nodup_nil, List.mem_cons, List.not_mem_nil, or_false, or_self, decide_true, decide_false, Int.reduceToNat, Nat.min_eq_left, Nat.min_eq_right, Int.reducePow, Nat.reducePow, Int.reduceLE, Int.reduceLT, Int.reduceMul, Int.reduceAdd, Int.reduceSub, Int.reduceNeg, Bool.not_true, Bool.not_false, Bool.not_not, ↓reduceIte, Nat.reduceAdd, Nat.reduceSub, Nat.reduceMul, Nat.reduceEqDiff, reduceCtorEq, Nat.reduceLT, Nat.reduceLeDiff, Nat.reduceGT]); (try any_goals (refine ⟨?_, ?_⟩)); (try any_goals (with_reducible rfl))))
    · have hid : decide ((i : Int) < (ms.length : Int)) = false := decide_eq_false (by omega)
      have hfit : fitsB ⟨(D : Int), [og], ms, []⟩ = true := by
        have h1 : ms.any negInt = false := List.any_eq_false.2 fun x hx => by
          obtain ⟨j, hj, rfl⟩ := List.getElem_of_mem hx
          have := hno j (by omega)
          rw [getEq hj] at this
          unfold negInt
          simp only [decide_eq_true_eq]
          omega
        have h2 : decide (0 ≤ (D : Int)) = true := decide_eq_true (by omega)
        have h3 : decide ((D : Int) ≤ 1099511627776) = true := decide_eq_true (by omega)
        unfold fitsB
        dsimp only
        rw [h1, h2, h3]
        rfl
      have hok0 := ok_new hfit (by simp) (by omega) (by simp)
      have hl1 : ([og] : List Rng).length ≤ 1000000 := by simp
      have hl2 : ([] : List Flp).length ≤ 1000000 := by simp
      (have zx1 := @hid; have zx2 := @z0; all_goals (try ((first | (with_reducible refine wp_id ?_) | (with_reducible refine does_id ?_) | (with_reducible refine ops_id ?_)); refine walk ?_; (repeat' (first | exact trivial | with_reducible refine And.intro ?_ ?_)); all_goals (repeat (first | (with_reducible refine ImpB.mk fun hb => ?_) | (with_reducible refine ImpK.mk fun hK => ?_) | (with_reducible refine ImpF.mk fun hF => ?_) | (with_reducible refine ImpQ.mk fun hp => ?_) | (with_reducible refine AllE.mk fun p => ?_) | (with_reducible refine AllR.mk fun rest => ?_) | (with_reducible refine AllK.mk fun K => ?_))))); repeat' (with_reducible refine And.intro ?_ ?_))
      all_goals first | exact Int.natCast_nonneg _ | omega | exact hl1 | exact hl2 | (refine ⟨?_, ?_, ?_⟩ <;> first | omega | decide | (simp; done)) | skip
      refine Wp.ghost (gh_adopt (s := 12) .bytes trivial) ?_
      simp only [go_sem, decide_true, decide_false, Int.reduceToNat, Nat.min_eq_left, Nat.min_eq_right, Int.reducePow, Nat.reducePow, Int.reduceLE, Int.reduceLT, Int.reduceMul, Int.reduceAdd, Int.reduceSub, Int.reduceNeg, Bool.not_true, Bool.not_false, Bool.not_not, ↓reduceIte, Nat.reduceAdd, Nat.reduceSub, Nat.reduceMul, Nat.reduceEqDiff, reduceCtorEq, Nat.reduceLT, Nat.reduceLeDiff, Nat.reduceGT]
      refine Wp.ghost (gh_adopt (s := 13) .bytes trivial) ?_
      simp only [go_sem, decide_true, decide_false, Int.reduceToNat, Nat.min_eq_left, Nat.min_eq_right, Int.reducePow, Nat.reducePow, Int.reduceLE, Int.reduceLT, Int.reduceMul, Int.reduceAdd, Int.reduceSub, Int.reduceNeg, Bool.not_true, Bool.not_false, Bool.not_not, ↓reduceIte, Nat.reduceAdd, Nat.reduceSub, Nat.reduceMul, Nat.reduceEqDiff, reduceCtorEq, Nat.reduceLT, Nat.reduceLeDiff, Nat.reduceGT]
      any_goals ((try (refine w_seq fun K hK => ?_)); (try (refine w_block ?_)); refine w_loop (A := Nat) (fun k => k ≤ l.length + D + 1 ∧ okL ⟨⟨(D : Int), [og], ms, []⟩, nwK k, (min k l.length : Nat), PF ⟨(D : Int), [og], ms, []⟩ D l k⟩) (fun k => l.length + D + 1 - k) (fun k => [(10, .ptr 1 0), (12, .sl 2 .bytes 0 (WF ⟨(D : Int), [og], ms, []⟩ l k).length), (13, .sl 3 .bytes 0 (GF ⟨(D : Int), [og], ms, []⟩ D l k).length), (14, .int .i64 k)]) (fun k => [(1, LKF ⟨⟨(D : Int), [og], ms, []⟩, nwK k, (min k l.length : Nat), PF ⟨(D : Int), [og], ms, []⟩ D l k⟩), (2, .rows .bytes (WF ⟨(D : Int), [og], ms, []⟩ l k)), (3, .rows .bytes (GF ⟨(D : Int), [og], ms, []⟩ D l k))]) (0) (ws := ?ws2) (tk := ?tk2) ?hw2 ?ht2 ?hi_1 ?h0_1 ?LH2; (case hw2 => simp only [go_sem, decide_true, decide_false, Int.reduceToNat, Nat.min_eq_left, Nat.min_eq_right, Int.reducePow, Nat.reducePow, Int.reduceLE, Int.reduceLT, Int.reduceMul, Int.reduceAdd, Int.reduceSub, Int.reduceNeg, Bool.not_true, Bool.not_false, Bool.not_not, ↓reduceIte, Nat.reduceAdd, Nat.reduceSub, Nat.reduceMul, Nat.reduceEqDiff, reduceCtorEq, Nat.reduceLT, Nat.reduceLeDiff, Nat.reduceGT]; exact rfl); (case ht2 => simp only [go_sem, decide_true, decide_false, Int.reduceToNat, Nat.min_eq_left, Nat.min_eq_right, Int.reducePow, Nat.reducePow, Int.reduceLE, Int.reduceLT, Int.reduceMul, Int.reduceAdd, Int.reduceSub, Int.reduceNeg, Bool.not_true, Bool.not_false, Bool.not_not, ↓reduceIte, Nat.reduceAdd, Nat.reduceSub, Nat.reduceMul, Nat.reduceEqDiff, reduceCtorEq, Nat.reduceLT, Nat.reduceLeDiff, Nat.reduceGT]; exact rfl); (case' LH2 => rintro k E t hx hE ht; simp only [go_sem] at ht; subst ht; simp only [go_sem]; try dsimp only at hx))
      case hi_1 =>
        obtain ⟨g1, g2, g3⟩ := F_0 (c := ⟨(D : Int), [og], ms, []⟩) (D := D) (l := l)
        refine ⟨Nat.zero_le _, ?_⟩
        rw [g2, Nat.zero_min, nw_0]
        exact hok0
      case h0_1 =>
        obtain ⟨g1, g2, g3⟩ := F_0 (c := ⟨(D : Int), [og], ms, []⟩) (D := D) (l := l)
        (try dsimp only)
        rw [g1, g2, g3, Nat.zero_min, nw_0]
        (focus (refine ⟨_, _, Gh.refl, [0, 1, 2, 3], rfl, ?_⟩; (refine ⟨?_, ?_, ?_⟩ <;> simp only [go_sem, List.range, List.range.loop, List.nodup_cons, List.nodup_nil, List.mem_cons, List.not_mem_nil, or_false, or_self, decide_true, decide_false, Int.reduceToNat, Nat.min_eq_left, Nat.min_eq_right, Int.reducePow, Nat.reducePow, Int.reduceLE, Int.reduceLT, Int.reduceMul, Int.reduceAdd, Int.reduceSub, Int.reduceNeg, Bool.not_true, Bool.not_false, Bool.not_not, ↓reduceIte, Nat.reduceAdd, Nat.reduceSub, Nat.reduceMul, Nat.reduceEqDiff, reduceCtorEq, Nat.reduceLT, Nat.reduceLeDiff, Nat.reduceGT]); (try any_goals (refine ⟨?_, ?_⟩)); (try any_goals (with_reducible rfl))))
        all_goals first | rfl | exact rfl | trace_state
      case LH2 =>
        obtain ⟨hk0, hok⟩ := hx
        have hWl := WF_len (c := ⟨(D : Int), [og], ms, []⟩) (l := l) (k := k)
        have hGl := GF_len (c := ⟨(D : Int), [og], ms, []⟩) (D := D) (l := l) (k := k)
        have hw : IntKind.i64.wrap ((k : Int) + 1) = ((k + 1 : Nat) : Int) := by rw [wrap_i64 _ (by omega) (by omega)]; omega
        have w1 : IntKind.i64.wrap ((l.length : Int) + (D : Int)) = ((l.length + D : Nat) : Int) := by rw [wrap_i64 _ (by omega) (by omega)]; omega
        have hnw1 := nw_next (k := k)
        by_cases hk : k ≤ l.length + D
        · have hkd : decide ((k : Int) ≤ ((l.length + D : Nat) : Int)) = true := decide_eq_true (by omega)
          have hat := nw_at (k := k) (by omega)
          by_cases hn : k < l.length
          · have hnd : decide ((k : Int) < (l.length : Int)) = true := decide_eq_true (by omega)
            have hmin : min k l.length = k := by omega
            have hmn1 : ((min (k + 1) l.length : Nat) : Int) = (k : Int) + 1 := by omega
            rw [hmin] at hok ⊢
            by_cases h20 : 20 < (l.getD k []).length
            · have d : decide ((20 : Int) < ((l.getD k []).length : Int)) = true := decide_eq_true (by omega)
              (have zx1 := @hkd; have zx2 := @z0; have zx3 := @w1; have zx4 := @hnd; have zx5 := @d; all_goals (try ((first | (with_reducible refine wp_id ?_) | (with_reducible refine does_id ?_) | (with_reducible refine ops_id ?_)); refine walk ?_; (repeat' (first | exact trivial | with_reducible refine And.intro ?_ ?_)); all_goals (repeat (first | (with_reducible refine ImpB.mk fun hb => ?_) | (with_reducible refine ImpK.mk fun hK => ?_) | (with_reducible refine ImpF.mk fun hF => ?_) | (with_reducible refine ImpQ.mk fun hp => ?_) | (with_reducible refine AllE.mk fun p => ?_) | (with_reducible refine AllR.mk fun rest => ?_) | (with_reducible refine AllK.mk fun K => ?_))))); repeat' (with_reducible refine And.intro ?_ ?_))
              all_goals first | exact Int.natCast_nonneg _ | omega | skip
              (focus (refine ⟨_, _, Gh.refl, [], rfl, ?_⟩; (refine ⟨?_, ?_, ?_⟩ <;> simp only [go_sem, List.range, List.range.loop, List.nodup_cons, List.nodup_nil, List.mem_cons, List.not_mem_nil, or_false, or_self, decide_true, decide_false, Int.reduceToNat, Nat.min_eq_left, Nat.min_eq_right, Int.reducePow, Nat.reducePow, Int.reduceLE, Int.reduceLT, Int.reduceMul, Int.reduceAdd, Int.reduceSub, Int.reduceNeg, Bool.not_true, Bool.not_false, Bool.not_not, ↓reduceIte, Nat.reduceAdd, Nat.reduceSub, Nat.reduceMul, Nat.reduceEqDiff, reduceCtorEq, Nat.reduceLT, Nat.reduceLeDiff, Nat.reduceGT]); (try any_goals (refine ⟨?_, ?_⟩)); (try any_goals (with_reducible rfl))))
            have d20 : decide ((20 : Int) < ((l.getD k []).length : Int)) = false := decide_eq_false (by omega)
            have hb20 : (l.getD k []).length ≤ 1000000 := by omega
            have hS : sendK ⟨⟨(D : Int), [og], ms, []⟩, nwK k, (k : Int), PF ⟨(D : Int), [og], ms, []⟩ D l k⟩ (k : Int) (l.getD k []) = ⟨⟨(D : Int), [og], ms, []⟩, (k : Int), (k : Int) + 1, MF ⟨(D : Int), [og], ms, []⟩ D l k⟩ := send_at hn (by omega) rfl rfl
            have hR := recv_at (c := ⟨(D : Int), [og], ms, []⟩) (D := D) (l := l) (k := k) (N := (k : Int)) (s := (k : Int) + 1) atL_self
            have hO := out_at (c := ⟨(D : Int), [og], ms, []⟩) (D := D) (l := l) (k := k) (N := (k : Int)) (s := (k : Int) + 1) atL_self
            have ok1 := hok.send (k : Int) hb20
            rw [hS] at ok1
            have ok2 := ok1.recv (k : Int)
            rw [hR] at ok2
            have hWn := WF_next (c := ⟨(D : Int), [og], ms, []⟩) hn
            obtain ⟨lo, hlo⟩ : ∃ lo, lostB ⟨(D : Int), [og], ms, []⟩ (k : Int) (k : Int) = lo := ⟨_, rfl⟩
            rw [hlo] at hWn
            have hlo2 : (decide (og.from_ ≤ (k : Int)) && decide ((k : Int) < og.to_) || ms.any fun x => decide (x = (k : Int))) = lo := by
              rw [← hlo]
              unfold lostB hasB
              dsimp only
              rw [List.any_cons, List.any_nil, Bool.or_false]
              congr 1
              rw [Bool.eq_iff_iff, List.any_eq_true, List.contains_iff_mem]
              exact ⟨fun ⟨x, h1, h2⟩ => of_decide_eq_true h2 ▸ h1, fun h => ⟨_, h, decide_eq_true rfl⟩⟩
            by_cases cA : og.from_ ≤ (k : Int)
            · have dA : decide (og.from_ ≤ (k : Int)) = true := decide_eq_true cA
              obtain ⟨o0, ho0⟩ : ∃ o0, decide ((k : Int) < og.to_) = o0 := ⟨_, rfl⟩
              rw [dA, ho0, Bool.true_and] at hlo2
              (have zx1 := @hkd; have zx2 := @z0; have zx3 := @w1; have zx4 := @hnd; have zx5 := @d20; have zx6 := @hS; have zx7 := @dA; have zx8 := @ho0; all_goals (try ((first | (with_reducible refine wp_id ?_) | (with_reducible refine does_id ?_) | (with_reducible refine ops_id ?_)); refine walk ?_; (repeat' (first | exact trivial | with_reducible refine And.intro ?_ ?_)); all_goals (repeat (first | (with_reducible refine ImpB.mk fun hb => ?_) | (with_reducible refine ImpK.mk fun hK => ?_) | (with_reducible refine ImpF.mk fun hF => ?_) | (with_reducible refine ImpQ.mk fun hp => ?_) | (with_reducible refine AllE.mk fun p => ?_) | (with_reducible refine AllR.mk fun rest => ?_) | (with_reducible refine AllK.mk fun K => ?_))))); repeat' (with_reducible refine And.intro ?_ ?_))
              all_goals first | exact Int.natCast_nonneg _ | exact hok | omega | (dsimp only; omega) | skip
              any_goals ((try (refine w_seq fun K hK => ?_)); (try (refine w_block ?_)); refine w_loop (A := Nat) (fun i => i ≤ ms.length) (fun i => ms.length - i) (fun i => [(14, .int .i64 k), (15, .bool (o0 || (ms.take i).any fun x => decide (x = (k : Int)))), (16, .int .i64 i)]) (fun _ => []) (0) (ws := ?ws3) (tk := ?tk3) ?hw3 ?ht3 ?hi_2 ?h0_2 ?LH3; (case hw3 => simp only [go_sem, decide_true, decide_false, Int.reduceToNat, Nat.min_eq_left, Nat.min_eq_right, Int.reducePow, Nat.reducePow, Int.reduceLE, Int.reduceLT, Int.reduceMul, Int.reduceAdd, Int.reduceSub, Int.reduceNeg, Bool.not_true, Bool.not_false, Bool.not_not, ↓reduceIte, Nat.reduceAdd, Nat.reduceSub, Nat.reduceMul, Nat.reduceEqDiff, reduceCtorEq, Nat.reduceLT, Nat.reduceLeDiff, Nat.reduceGT]; exact rfl); (case ht3 => simp only [go_sem, decide_true, decide_false, Int.reduceToNat, Nat.min_eq_left, Nat.min_eq_right, Int.reducePow, Nat.reducePow, Int.reduceLE, Int.reduceLT, Int.reduceMul, Int.reduceAdd, Int.reduceSub, Int.reduceNeg, Bool.not_true, Bool.not_false, Bool.not_not, ↓reduceIte, Nat.reduceAdd, Nat.reduceSub, Nat.reduceMul, Nat.reduceEqDiff, reduceCtorEq, Nat.reduceLT, Nat.reduceLeDiff, Nat.reduceGT]; exact rfl); (case' LH3 => rintro i E t hx hE ht; simp only [go_sem] at ht; subst ht; simp only [go_sem]; try dsimp only at hx))
              case hi_2 =>  exact Nat.zero_le _
              case h0_2 => (focus (refine ⟨_, _, Gh.refl, [0, 1, 2, 3], rfl, ?_⟩; (refine ⟨?_, ?_, ?_⟩ <;> simp only [go_sem, List.range, List.range.loop, List.nodup_cons, List.nodup_nil, List.mem_cons, List.not_mem_nil, or_false, or_self, decide_true, decide_false, Int.reduceToNat, Nat.min_eq_left, Nat.min_eq_right, Int.reducePow, Nat.reducePow, Int.reduceLE, Int.reduceLT, Int.reduceMul, Int.reduceAdd, Int.reduceSub, Int.reduceNeg, Bool.not_true, Bool.not_false, Bool.not_not, ↓reduceIte, Nat.reduceAdd, Nat.reduceSub, Nat.reduceMul, Nat.reduceEqDiff, reduceCtorEq, Nat.reduceLT, Nat.reduceLeDiff, Nat.reduceGT]); (try any_goals (refine ⟨?_, ?_⟩)); (try any_goals (with_reducible rfl)))); (all_goals first | rfl | exact rfl | (simp; done) | trace_state)
              case LH3 =>
                have hi0 : i ≤ ms.length := hx
                have hwi : IntKind.i64.wrap ((i : Int) + 1) = ((i + 1 : Nat) : Int) := by rw [wrap_i64 _ (by omega) (by omega)]; omega
                obtain ⟨bb, hbb⟩ : ∃ bb, (o0 || (ms.take i).any fun x => decide (x = (k : Int))) = bb := ⟨_, rfl⟩
                rw [hbb]
                by_cases hi : i < ms.length
                · have hid : decide ((i : Int) < (ms.length : Int)) = true := decide_eq_true (by omega)
                  have hnx : (o0 || (ms.take (i + 1)).any fun x => decide (x = (k : Int))) = (bb || decide (ms.getD i 0 = (k : Int))) := by
                    rw [getT (z := (0 : Int)) hi, List.any_append, List.any_cons, List.any_nil, Bool.or_false, ← hbb, Bool.or_assoc]
                  cases bb
                  · (have zx1 := @hid; have zx2 := @hwi; all_goals (try ((first | (with_reducible refine wp_id ?_) | (with_reducible refine does_id ?_) | (with_reducible refine ops_id ?_)); refine walk ?_; (repeat' (first | exact trivial | with_reducible refine And.intro ?_ ?_)); all_goals (repeat (first | (with_reducible refine ImpB.mk fun hb => ?_) | (with_reducible refine ImpK.mk fun hK => ?_) | (with_reducible refine ImpF.mk fun hF => ?_) | (with_reducible refine ImpQ.mk fun hp => ?_) | (with_reducible refine AllE.mk fun p => ?_) | (with_reducible refine AllR.mk fun rest => ?_) | (with_reducible refine AllK.mk fun K => ?_))))); repeat' (with_reducible refine And.intro ?_ ?_))
                    all_goals first | exact Int.natCast_nonneg _ | omega | skip
                    refine ⟨i + 1, ⟨by first | omega | (dsimp only; omega), by first | omega | (dsimp only; omega)⟩, ?_⟩
                    dsimp only
                    rw [hnx]
                    (focus (refine ⟨_, _, Gh.refl, [0, 1, 2, 3], rfl, ?_⟩; (refine ⟨?_, ?_, ?_⟩ <;> simp only [go_sem, List.range, List.range.loop, List.nodup_cons, List.nodup_nil, List.mem_cons, List.not_mem_nil, or_false, or_self, decide_true, decide_false, Int.reduceToNat, Nat.min_eq_left, Nat.min_eq_right, Int.reducePow, Nat.reducePow, Int.reduceLE, Int.reduceLT, Int.reduceMul, Int.reduceAdd, Int.reduceSub, Int.reduceNeg, Bool.not_true, Bool.not_false, Bool.not_not, ↓reduceIte, Nat.reduceAdd, Nat.reduceSub, Nat.reduceMul, Nat.reduceEqDiff, reduceCtorEq, Nat.reduceLT, Nat.reduceLeDiff, Nat.reduceGT]); (try any_goals (refine ⟨?_, ?_⟩)); (try any_goals (with_reducible rfl))))
                    all_goals first | rfl | exact rfl | trace_state
                  · (have zx1 := @hid; have zx2 := @hwi; all_goals (try ((first | (with_reducible refine wp_id ?_) | (with_reducible refine does_id ?_) | (with_reducible refine ops_id ?_)); refine walk ?_; (repeat' (first | exact trivial | with_reducible refine And.intro ?_ ?_)); all_goals (repeat (first | (with_reducible refine ImpB.mk fun hb => ?_) | (with_reducible refine ImpK.mk fun hK => ?_) | (with_reducible refine ImpF.mk fun hF => ?_) | (with_reducible refine ImpQ.mk fun hp => ?_) | (with_reducible refine AllE.mk fun p => ?_) | (with_reducible refine AllR.mk fun rest => ?_) | (with_reducible refine AllK.mk fun K => ?_))))); repeat' (with_reducible refine And.intro ?_ ?_))
                    all_goals first | exact Int.natCast_nonneg _ | omega | skip
                    refine ⟨i + 1, ⟨by first | omega | (dsimp only; omega), by first | omega | (dsimp only; omega)⟩, ?_⟩
                    dsimp only
                    rw [hnx]
                    (focus (refine ⟨_, _, Gh.refl, [0, 1, 2, 3], rfl, ?_⟩; (refine ⟨?_, ?_, ?_⟩ <;> simp only [go_sem, List.range, List.range.loop, List.nodup_cons, List.nodup_nil, List.mem_cons, List.not_mem_nil, or_false, or_self, decide_true, decide_false, Int.reduceToNat, Nat.min_eq_left, Nat.min_eq_right, Int.reducePow, Nat.reducePow, Int.reduceLE, Int.reduceLT, Int.reduceMul, Int.reduceAdd, Int.reduceSub, Int.reduceNeg, Bool.not_true, Bool.not_false, Bool.not_not, ↓reduceIte, Nat.reduceAdd, Nat.reduceSub, Nat.reduceMul, Nat.reduceEqDiff, reduceCtorEq, Nat.reduceLT, Nat.reduceLeDiff, Nat.reduceGT]); (try any_goals (refine ⟨?_, ?_⟩)); (try any_goals (with_reducible rfl))))
                    all_goals first | rfl | exact rfl | trace_state
                · have hid : decide ((i : Int) < (ms.length : Int)) = false := decide_eq_false (by omega)
                  rw [List.take_of_length_le (by omega), hlo2] at hbb
                  subst hbb
                  cases lo
                  · rw [if_neg (by decide)] at hWn
                    rcases OF_one (c := ⟨(D : Int), [og], ms, []⟩) (D := D) (l := l) (k := k) with hOe | ⟨hDk, hkn, hOe⟩
                    · rw [hOe] at hO
                      have e01 : decide ((0 : Int) = 1) = false := rfl
                      have hs2 : (k : Int) + 1 ≤ 1000000 := by omega
                      (have zx1 := @hid; have zx2 := @z0; have zx3 := @hR; have zx4 := @hO; have zx5 := @hw; have zx6 := @e01; all_goals (try ((first | (with_reducible refine wp_id ?_) | (with_reducible refine does_id ?_) | (with_reducible refine ops_id ?_)); refine walk ?_; (repeat' (first | exact trivial | with_reducible refine And.intro ?_ ?_)); all_goals (repeat (first | (with_reducible refine ImpB.mk fun hb => ?_) | (with_reducible refine ImpK.mk fun hK => ?_) | (with_reducible refine ImpF.mk fun hF => ?_) | (with_reducible refine ImpQ.mk fun hp => ?_) | (with_reducible refine AllE.mk fun p => ?_) | (with_reducible refine AllR.mk fun rest => ?_) | (with_reducible refine AllK.mk fun K => ?_))))); repeat' (with_reducible refine And.intro ?_ ?_))
                      all_goals first | omega | exact hok | exact ok1 | exact hs2 | skip
                      refine ⟨k + 1, ⟨⟨by first | omega | (dsimp only; omega), by rw [hnw1, hmn1]; exact ok2⟩, by first | omega | (dsimp only; omega)⟩, ?_⟩
                      (try dsimp only)
                      rw [hnw1, hmn1, hWn, GF_next, hOe]
                      (try rw [List.append_nil])
                      (focus (refine ⟨_, _, Gh.refl, [0, 1, 4, 5], rfl, ?_⟩; (refine ⟨?_, ?_, ?_⟩ <;> simp only [go_sem, List.range, List.range.loop, List.nodup_cons, List.nodup_nil, List.mem_cons, List.not_mem_nil, or_false, or_self, decide_true, decide_false, Int.reduceToNat, Nat.min_eq_left, Nat.min_eq_right, Int.reducePow, Nat.reducePow, Int.reduceLE, Int.reduceLT, Int.reduceMul, Int.reduceAdd, Int.reduceSub, Int.reduceNeg, Bool.not_true, Bool.not_false, Bool.not_not, ↓reduceIte, Nat.reduceAdd, Nat.reduceSub, Nat.reduceMul, Nat.reduceEqDiff, reduceCtorEq, Nat.reduceLT, Nat.reduceLeDiff, Nat.reduceGT]); (try any_goals (refine ⟨?_, ?_⟩)); (try any_goals (with_reducible rfl))))
                      all_goals first | rfl | exact rfl | (simp only [List.length_append, List.length_cons, List.length_nil]; done) | (simp only [List.length_append, List.length_cons, List.length_nil]; omega) | trace_state
                    · rw [hOe] at hO
                      have hx0 : ([ltK l (k - D)] : List (List UInt8)).getD 0 [] = l.getD (k - D) [] := rfl
                      have hwd : IntKind.i64.wrap ((k : Int) - (D : Int)) = ((k - D : Nat) : Int) := by rw [wrap_i64 _ (by omega) (by omega)]; omega
                      have hkD : decide ((k : Int) < (D : Int)) = false := decide_eq_false (by omega)
                      have hs2 : (k : Int) + 1 ≤ 1000000 := by omega
                      (have zx1 := @hid; have zx2 := @z0; have zx3 := @hR; have zx4 := @hO; have zx5 := @hw; have zx6 := @hx0; have zx7 := @hwd; have zx8 := @hkD; all_goals (try ((first | (with_reducible refine wp_id ?_) | (with_reducible refine does_id ?_) | (with_reducible refine ops_id ?_)); refine walk ?_; (repeat' (first | exact trivial | with_reducible refine And.intro ?_ ?_)); all_goals (repeat (first | (with_reducible refine ImpB.mk fun hb => ?_) | (with_reducible refine ImpK.mk fun hK => ?_) | (with_reducible refine ImpF.mk fun hF => ?_) | (with_reducible refine ImpQ.mk fun hp => ?_) | (with_reducible refine AllE.mk fun p => ?_) | (with_reducible refine AllR.mk fun rest => ?_) | (with_reducible refine AllK.mk fun K => ?_))))); repeat' (with_reducible refine And.intro ?_ ?_))
                      all_goals first | omega | exact hok | exact ok1 | exact hs2 | skip
                      refine ⟨k + 1, ⟨⟨by first | omega | (dsimp only; omega), by rw [hnw1, hmn1]; exact ok2⟩, by first | omega | (dsimp only; omega)⟩, ?_⟩
                      (try dsimp only)
                      rw [hnw1, hmn1, hWn, GF_next, hOe]
                      (try rw [List.append_nil])
                      (focus (refine ⟨_, _, Gh.refl, [0, 1, 4, 5], rfl, ?_⟩; (refine ⟨?_, ?_, ?_⟩ <;> simp only [go_sem, List.range, List.range.loop, List.nodup_cons, List.nodup_nil, List.mem_cons, List.not_mem_nil, or_false, or_self, decide_true, decide_false, Int.reduceToNat, Nat.min_eq_left, Nat.min_eq_right, Int.reducePow, Nat.reducePow, Int.reduceLE, Int.reduceLT, Int.reduceMul, Int.reduceAdd, Int.reduceSub, Int.reduceNeg, Bool.not_true, Bool.not_false, Bool.not_not, ↓reduceIte, Nat.reduceAdd, Nat.reduceSub, Nat.reduceMul, Nat.reduceEqDiff, reduceCtorEq, Nat.reduceLT, Nat.reduceLeDiff, Nat.reduceGT]); (try any_goals (refine ⟨?_, ?_⟩)); (try any_goals (with_reducible rfl))))
                      all_goals first | rfl | exact rfl | (simp only [List.length_append, List.length_cons, List.length_nil]; done) | (simp only [List.length_append, List.length_cons, List.length_nil]; omega) | trace_state
                  · rw [if_pos rfl] at hWn
                    rcases OF_one (c := ⟨(D : Int), [og], ms, []⟩) (D := D) (l := l) (k := k) with hOe | ⟨hDk, hkn, hOe⟩
                    · rw [hOe] at hO
                      have e01 : decide ((0 : Int) = 1) = false := rfl
                      have hs2 : (k : Int) + 1 ≤ 1000000 := by omega
                      (have zx1 := @hid; have zx2 := @z0; have zx3 := @hR; have zx4 := @hO; have zx5 := @hw; have zx6 := @e01; all_goals (try ((first | (with_reducible refine wp_id ?_) | (with_reducible refine does_id ?_) | (with_reducible refine ops_id ?_)); refine walk ?_; (repeat' (first | exact trivial | with_reducible refine And.intro ?_ ?_)); all_goals (repeat (first | (with_reducible refine ImpB.mk fun hb => ?_) | (with_reducible refine ImpK.mk fun hK => ?_) | (with_reducible refine ImpF.mk fun hF => ?_) | (with_reducible refine ImpQ.mk fun hp => ?_) | (with_reducible refine AllE.mk fun p => ?_) | (with_reducible refine AllR.mk fun rest => ?_) | (with_reducible refine AllK.mk fun K => ?_))))); repeat' (with_reducible refine And.intro ?_ ?_))
                      all_goals first | omega | exact hok | exact ok1 | exact hs2 | skip
                      refine ⟨k + 1, ⟨⟨by first | omega | (dsimp only; omega), by rw [hnw1, hmn1]; exact ok2⟩, by first | omega | (dsimp only; omega)⟩, ?_⟩
                      (try dsimp only)
                      rw [hnw1, hmn1, hWn, GF_next, hOe]
                      (try rw [List.append_nil])
                      (focus (refine ⟨_, _, Gh.refl, [0, 1, 2, 4], rfl, ?_⟩; (refine ⟨?_, ?_, ?_⟩ <;> simp only [go_sem, List.range, List.range.loop, List.nodup_cons, List.nodup_nil, List.mem_cons, List.not_mem_nil, or_false, or_self, decide_true, decide_false, Int.reduceToNat, Nat.min_eq_left, Nat.min_eq_right, Int.reducePow, Nat.reducePow, Int.reduceLE, Int.reduceLT, Int.reduceMul, Int.reduceAdd, Int.reduceSub, Int.reduceNeg, Bool.not_true, Bool.not_false, Bool.not_not, ↓reduceIte, Nat.reduceAdd, Nat.reduceSub, Nat.reduceMul, Nat.reduceEqDiff, reduceCtorEq, Nat.reduceLT, Nat.reduceLeDiff, Nat.reduceGT]); (try any_goals (refine ⟨?_, ?_⟩)); (try any_goals (with_reducible rfl))))
                      all_goals first | rfl | exact rfl | (simp only [List.length_append, List.length_cons, List.length_nil]; done) | (simp only [List.length_append, List.length_cons, List.length_nil]; omega) | trace_state
                    · rw [hOe] at hO
                      have hx0 : ([ltK l (k - D)] : List (List UInt8)).getD 0 [] = l.getD (k - D) [] := rfl
                      have hwd : IntKind.i64.wrap ((k : Int) - (D : Int)) = ((k - D : Nat) : Int) := by rw [wrap_i64 _ (by omega) (by omega)]; omega
                      have hkD : decide ((k : Int) < (D : Int)) = false := decide_eq_false (by omega)
                      have hs2 : (k : Int) + 1 ≤ 1000000 := by omega
                      (have zx1 := @hid; have zx2 := @z0; have zx3 := @hR; have zx4 := @hO; have zx5 := @hw; have zx6 := @hx0; have zx7 := @hwd; have zx8 := @hkD; all_goals (try ((first | (with_reducible refine wp_id ?_) | (with_reducible refine does_id ?_) | (with_reducible refine ops_id ?_)); refine walk ?_; (repeat' (first | exact trivial | with_reducible refine And.intro ?_ ?_)); all_goals (repeat (first | (with_reducible refine ImpB.mk fun hb => ?_) | (with_reducible refine ImpK.mk fun hK => ?_) | (with_reducible refine ImpF.mk fun hF => ?_) | (with_reducible refine ImpQ.mk fun hp => ?_) | (with_reducible refine AllE.mk fun p => ?_) | (with_reducible refine AllR.mk fun rest => ?_) | (with_reducible refine AllK.mk fun K => ?_))))); repeat' (with_reducible refine And.intro ?_ ?_))
                      all_goals first | omega | exact hok | exact ok1 | exact hs2 | skip
                      refine ⟨k + 1, ⟨⟨by first | omega | (dsimp only; omega), by rw [hnw1, hmn1]; exact ok2⟩, by first | omega | (dsimp only; omega)⟩, ?_⟩
                      (try dsimp only)
                      rw [hnw1, hmn1, hWn, GF_next, hOe]
                      (try rw [List.append_nil])
                      (focus (refine ⟨_, _, Gh.refl, [0, 1, 2, 4], rfl, ?_⟩; (refine ⟨?_, ?_, ?_⟩ <;> simp only [go_sem, List.range, List.range.loop, List.nodup_cons, List.nodup_nil, List.mem_cons, List.not_mem_nil, or_false, or_self, decide_true, decide_false, Int.reduceToNat, Nat.min_eq_left, Nat.min_eq_right, Int.reducePow, Nat.reducePow, Int.reduceLE, Int.reduceLT, Int.reduceMul, Int.reduceAdd, Int.reduceSub, Int.reduceNeg, Bool.not_true, Bool.not_false, Bool.not_not, ↓reduceIte, Nat.reduceAdd, Nat.reduceSub, Nat.reduceMul, Nat.reduceEqDiff, reduceCtorEq, Nat.reduceLT, Nat.reduceLeDiff, Nat.reduceGT]); (try any_goals (refine ⟨?_, ?_⟩)); (try any_goals (with_reducible rfl))))
                      all_goals first | rfl | exact rfl | (simp only [List.length_append, List.length_cons, List.length_nil]; done) | (simp only [List.length_append, List.length_cons, List.length_nil]; omega) | trace_state
            · have dA : decide (og.from_ ≤ (k : Int)) = false := decide_eq_false cA
              rw [dA, Bool.false_and] at hlo2
              (have zx1 := @hkd; have zx2 := @z0; have zx3 := @w1; have zx4 := @hnd; have zx5 := @d20; have zx6 := @hS; have zx7 := @dA; all_goals (try ((first | (with_reducible refine wp_id ?_) | (with_reducible refine does_id ?_) | (with_reducible refine ops_id ?_)); refine walk ?_; (repeat' (first | exact trivial | with_reducible refine And.intro ?_ ?_)); all_goals (repeat (first | (with_reducible refine ImpB.mk fun hb => ?_) | (with_reducible refine ImpK.mk fun hK => ?_) | (with_reducible refine ImpF.mk fun hF => ?_) | (with_reducible refine ImpQ.mk fun hp => ?_) | (with_reducible refine AllE.mk fun p => ?_) | (with_reducible refine AllR.mk fun rest => ?_) | (with_reducible refine AllK.mk fun K => ?_))))); repeat' (with_reducible refine And.intro ?_ ?_))
              all_goals first | exact Int.natCast_nonneg _ | exact hok | omega | (dsimp only; omega) | skip
              any_goals ((try (refine w_seq fun K hK => ?_)); (try (refine w_block ?_)); refine w_loop (A := Nat) (fun i => i ≤ ms.length) (fun i => ms.length - i) (fun i => [(14, .int .i64 k), (15, .bool (false || (ms.take i).any fun x => decide (x = (k : Int)))), (16, .int .i64 i)]) (fun _ => []) (0) (ws := ?ws4) (tk := ?tk4) ?hw4 ?ht4 ?hi_3 ?h0_3 ?LH4; (case hw4 => simp only [go_sem, decide_true, decide_false, Int.reduceToNat, Nat.min_eq_left, Nat.min_eq_right, Int.reducePow, Nat.reducePow, Int.reduceLE, Int.reduceLT, Int.reduceMul, Int.reduceAdd, Int.reduceSub, Int.reduceNeg, Bool.not_true, Bool.not_false, Bool.not_not, ↓reduceIte, Nat.reduceAdd, Nat.reduceSub, Nat.reduceMul, Nat.reduceEqDiff, reduceCtorEq, Nat.reduceLT, Nat.reduceLeDiff, Nat.reduceGT]; exact rfl); (case ht4 => simp only [go_sem, decide_true, decide_false, Int.reduceToNat, Nat.min_eq_left, Nat.min_eq_right, Int.reducePow, Nat.reducePow, Int.reduceLE, Int.reduceLT, Int.reduceMul, Int.reduceAdd, Int.reduceSub, Int.reduceNeg, Bool.not_true, Bool.not_false, Bool.not_not, ↓reduceIte, Nat.reduceAdd, Nat.reduceSub, Nat.reduceMul, Nat.reduceEqDiff, reduceCtorEq, Nat.reduceLT, Nat.reduceLeDiff, Nat.reduceGT]; exact rfl); (case' LH4 => rintro i E t hx hE ht; simp only [go_sem] at ht; subst ht; simp only [go_sem]; try dsimp only at hx))
              case hi_3 =>  exact Nat.zero_le _
              case h0_3 => (focus (refine ⟨_, _, Gh.refl, [0, 1, 2, 3], rfl, ?_⟩; (refine ⟨?_, ?_, ?_⟩ <;> simp only [go_sem, List.range, List.range.loop, List.nodup_cons, List.nodup_nil, List.mem_cons, List.not_mem_nil, or_false, or_self, decide_true, decide_false, Int.reduceToNat, Nat.min_eq_left, Nat.min_eq_right, Int.reducePow, Nat.reducePow, Int.reduceLE, Int.reduceLT, Int.reduceMul, Int.reduceAdd, Int.reduceSub, Int.reduceNeg, Bool.not_true, Bool.not_false, Bool.not_not, ↓reduceIte, Nat.reduceAdd, Nat.reduceSub, Nat.reduceMul, Nat.reduceEqDiff, reduceCtorEq, Nat.reduceLT, Nat.reduceLeDiff, Nat.reduceGT]); (try any_goals (refine ⟨?_, ?_⟩)); (try any_goals (with_reducible rfl)))); (all_goals first | rfl | exact rfl | (simp; done) | trace_state)
              case LH4 =>
                have hi0 : i ≤ ms.length := hx
                have hwi : IntKind.i64.wrap ((i : Int) + 1) = ((i + 1 : Nat) : Int) := by rw [wrap_i64 _ (by omega) (by omega)]; omega
                obtain ⟨bb, hbb⟩ : ∃ bb, (false || (ms.take i).any fun x => decide (x = (k : Int))) = bb := ⟨_, rfl⟩
                rw [hbb]
                by_cases hi : i < ms.length
                · have hid : decide ((i : Int) < (ms.length : Int)) = true := decide_eq_true (by omega)
                  have hnx : (false || (ms.take (i + 1)).any fun x => decide (x = (k : Int))) = (bb || decide (ms.getD i 0 = (k : Int))) := by
                    rw [getT (z := (0 : Int)) hi, List.any_append, List.any_cons, List.any_nil, Bool.or_false, ← hbb, Bool.or_assoc]
                  cases bb
                  · (have zx1 := @hid; have zx2 := @hwi; all_goals (try ((first | (with_reducible refine wp_id ?_) | (with_reducible refine does_id ?_) | (with_reducible refine ops_id ?_)); refine walk ?_; (repeat' (first | exact trivial | with_reducible refine And.intro ?_ ?_)); all_goals (repeat (first | (with_reducible refine ImpB.mk fun hb => ?_) | (with_reducible refine ImpK.mk fun hK => ?_) | (with_reducible refine ImpF.mk fun hF => ?_) | (with_reducible refine ImpQ.mk fun hp => ?_) | (with_reducible refine AllE.mk fun p => ?_) | (with_reducible refine AllR.mk fun rest => ?_) | (with_reducible refine AllK.mk fun K => ?_))))); repeat' (with_reducible refine And.intro ?_ ?_))
                    all_goals first | exact Int.natCast_nonneg _ | omega | skip
                    refine ⟨i + 1, ⟨by first | omega | (dsimp only; omega), by first | omega | (dsimp only; omega)⟩, ?_⟩
                    dsimp only
                    rw [hnx]
                    (focus (refine ⟨_, _, Gh.refl, [0, 1, 2, 3], rfl, ?_⟩; (refine ⟨?_, ?_, ?_⟩ <;> simp only [go_sem, List.range, List.range.loop, List.nodup_cons, List.nodup_nil, List.mem_cons, List.not_mem_nil, or_false, or_self, decide_true, decide_false, Int.reduceToNat, Nat.min_eq_left, Nat.min_eq_right, Int.reducePow, Nat.reducePow, Int.reduceLE, Int.reduceLT, Int.reduceMul, Int.reduceAdd, Int.reduceSub, Int.reduceNeg, Bool.not_true, Bool.not_false, Bool.not_not, ↓reduceIte, Nat.reduceAdd, Nat.reduceSub, Nat.reduceMul, Nat.reduceEqDiff, reduceCtorEq, Nat.reduceLT, Nat.reduceLeDiff, Nat.reduceGT]); (try any_goals (refine ⟨?_, ?_⟩)); (try any_goals (with_reducible rfl))))
                    all_goals first | rfl | exact rfl | trace_state
                  · (have zx1 := @hid; have zx2 := @hwi; all_goals (try ((first | (with_reducible refine wp_id ?_) | (with_reducible refine does_id ?_) | (with_reducible refine ops_id ?_)); refine walk ?_; (repeat' (first | exact trivial | with_reducible refine And.intro ?_ ?_)); all_goals (repeat (first | (with_reducible refine ImpB.mk fun hb => ?_) | (with_reducible refine ImpK.mk fun hK => ?_) | (with_reducible refine ImpF.mk fun hF => ?_) | (with_reducible refine ImpQ.mk fun hp => ?_) | (with_reducible refine AllE.mk fun p => ?_) | (with_reducible refine AllR.mk fun rest => ?_) | (with_reducible refine AllK.mk fun K => ?_))))); repeat' (with_reducible refine And.intro ?_ ?_))
                    all_goals first | exact Int.natCast_nonneg _ | omega | skip
                    refine ⟨i + 1, ⟨by first | omega | (dsimp only; omega), by first | omega | (dsimp only; omega)⟩, ?_⟩
                    dsimp only
                    rw [hnx]
                    (focus (refine ⟨_, _, Gh.refl, [0, 1, 2, 3], rfl, ?_⟩; (refine ⟨?_, ?_, ?_⟩ <;> simp only [go_sem, List.range, List.range.loop, List.nodup_cons, List.nodup_nil, List.mem_cons, List.not_mem_nil, or_false, or_self, decide_true, decide_false, Int.reduceToNat, Nat.min_eq_left, Nat.min_eq_right, Int.reducePow, Nat.reducePow, Int.reduceLE, Int.reduceLT, Int.reduceMul, Int.reduceAdd, Int.reduceSub, Int.reduceNeg, Bool.not_true, Bool.not_false, Bool.not_not, ↓reduceIte, Nat.reduceAdd, Nat.reduceSub, Nat.reduceMul, Nat.reduceEqDiff, reduceCtorEq, Nat.reduceLT, Nat.reduceLeDiff, Nat.reduceGT]); (try any_goals (refine ⟨?_, ?_⟩)); (try any_goals (with_reducible rfl))))
                    all_goals first | rfl | exact rfl | trace_state
                · have hid : decide ((i : Int) < (ms.length : Int)) = false := decide_eq_false (by omega)
                  rw [List.take_of_length_le (by omega), hlo2] at hbb
                  subst hbb
                  cases lo
                  · rw [if_neg (by decide)] at hWn
                    rcases OF_one (c := ⟨(D : Int), [og], ms, []⟩) (D := D) (l := l) (k := k) with hOe | ⟨hDk, hkn, hOe⟩
                    · rw [hOe] at hO
                      have e01 : decide ((0 : Int) = 1) = false := rfl
                      have hs2 : (k : Int) + 1 ≤ 1000000 := by omega
                      (have zx1 := @hid; have zx2 := @z0; have zx3 := @hR; have zx4 := @hO; have zx5 := @hw; have zx6 := @e01; all_goals (try ((first | (with_reducible refine wp_id ?_) | (with_reducible refine does_id ?_) | (with_reducible refine ops_id ?_)); refine walk ?_; (repeat' (first | exact trivial | with_reducible refine And.intro ?_ ?_)); all_goals (repeat (first | (with_reducible refine ImpB.mk fun hb => ?_) | (with_reducible refine ImpK.mk fun hK => ?_) | (with_reducible refine ImpF.mk fun hF => ?_) | (with_reducible refine ImpQ.mk fun hp => ?_) | (with_reducible refine AllE.mk fun p => ?_) | (with_reducible refine AllR.mk fun rest => ?_) | (with_reducible refine AllK.mk fun K => ?_))))); repeat' (with_reducible refine And.intro ?_ ?_))
                      all_goals first | omega | exact hok | exact ok1 | exact hs2 | skip
                      refine ⟨k + 1, ⟨⟨by first | omega | (dsimp only; omega), by rw [hnw1, hmn1]; exact ok2⟩, by first | omega | (dsimp only; omega)⟩, ?_⟩
                      (try dsimp only)
                      rw [hnw1, hmn1, hWn, GF_next, hOe]
                      (try rw [List.append_nil])
                      (focus (refine ⟨_, _, Gh.refl, [0, 1, 4, 5], rfl, ?_⟩; (refine ⟨?_, ?_, ?_⟩ <;> simp only [go_sem, List.range, List.range.loop, List.nodup_cons, List.nodup_nil, List.mem_cons, List.not_mem_nil, or_false, or_self, decide_true, decide_false, Int.reduceToNat, Nat.min_eq_left, Nat.min_eq_right, Int.reducePow, Nat.reducePow, Int.reduceLE, Int.reduceLT, Int.reduceMul, Int.reduceAdd, Int.reduceSub, Int.reduceNeg, Bool.not_true, Bool.not_false, Bool.not_not, ↓reduceIte, Nat.reduceAdd, Nat.reduceSub, Nat.reduceMul, Nat.reduceEqDiff, reduceCtorEq, Nat.reduceLT, Nat.reduceLeDiff, Nat.reduceGT]); (try any_goals (refine ⟨?_, ?_⟩)); (try any_goals (with_reducible rfl))))
                      all_goals first | rfl | exact rfl | (simp only [List.length_append, List.length_cons, List.length_nil]; done) | (simp only [List.length_append, List.length_cons, List.length_nil]; omega) | trace_state
                    · rw [hOe] at hO
                      have hx0 : ([ltK l (k - D)] : List (List UInt8)).getD 0 [] = l.getD (k - D) [] := rfl
                      have hwd : IntKind.i64.wrap ((k : Int) - (D : Int)) = ((k - D : Nat) : Int) := by rw [wrap_i64 _ (by omega) (by omega)]; omega
                      have hkD : decide ((k : Int) < (D : Int)) = false := decide_eq_false (by omega)
                      have hs2 : (k : Int) + 1 ≤ 1000000 := by omega
                      (have zx1 := @hid; have zx2 := @z0; have zx3 := @hR; have zx4 := @hO; have zx5 := @hw; have zx6 := @hx0; have zx7 := @hwd; have zx8 := @hkD; all_goals (try ((first | (with_reducible refine wp_id ?_) | (with_reducible refine does_id ?_) | (with_reducible refine ops_id ?_)); refine walk ?_; (repeat' (first | exact trivial | with_reducible refine And.intro ?_ ?_)); all_goals (repeat (first | (with_reducible refine ImpB.mk fun hb => ?_) | (with_reducible refine ImpK.mk fun hK => ?_) | (with_reducible refine ImpF.mk fun hF => ?_) | (with_reducible refine ImpQ.mk fun hp => ?_) | (with_reducible refine AllE.mk fun p => ?_) | (with_reducible refine AllR.mk fun rest => ?_) | (with_reducible refine AllK.mk fun K => ?_))))); repeat' (with_reducible refine And.intro ?_ ?_))
                      all_goals first | omega | exact hok | exact ok1 | exact hs2 | skip
                      refine ⟨k + 1, ⟨⟨by first | omega | (dsimp only; omega), by rw [hnw1, hmn1]; exact ok2⟩, by first | omega | (dsimp only; omega)⟩, ?_⟩
                      (try dsimp only)
                      rw [hnw1, hmn1, hWn, GF_next, hOe]
                      (try rw [List.append_nil])
                      (focus (refine ⟨_, _, Gh.refl, [0, 1, 4, 5], rfl, ?_⟩; (refine ⟨?_, ?_, ?_⟩ <;> simp only [go_sem, List.range, List.range.loop, List.nodup_cons, List.nodup_nil, List.mem_cons, List.not_mem_nil, or_false, or_self, decide_true, decide_false, Int.reduceToNat, Nat.min_eq_left, Nat.min_eq_right, Int.reducePow, Nat.reducePow, Int.reduceLE, Int.reduceLT, Int.reduceMul, Int.reduceAdd, Int.reduceSub, Int.reduceNeg, Bool.not_true, Bool.not_false, Bool.not_not, ↓reduceIte, Nat.reduceAdd, Nat.reduceSub, Nat.reduceMul, Nat.reduceEqDiff, reduceCtorEq, Nat.reduceLT, Nat.reduceLeDiff, Nat.reduceGT]); (try any_goals (refine ⟨?_, ?_⟩)); (try any_goals (with_reducible rfl))))
                      all_goals first | rfl | exact rfl | (simp only [List.length_append, List.length_cons, List.length_nil]; done) | (simp only [List.length_append, List.length_cons, List.length_nil]; omega) | trace_state
                  · rw [if_pos rfl] at hWn
                    rcases OF_one (c := ⟨(D : Int), [og], ms, []⟩) (D := D) (l := l) (k := k) with hOe | ⟨hDk, hkn, hOe⟩
                    · rw [hOe] at hO
                      have e01 : decide ((0 : Int) = 1) = false := rfl
                      have hs2 : (k : Int) + 1 ≤ 1000000 := by omega
                      (have zx1 := @hid; have zx2 := @z0; have zx3 := @hR; have zx4 := @hO; have zx5 := @hw; have zx6 := @e01; all_goals (try ((first | (with_reducible refine wp_id ?_) | (with_reducible refine does_id ?_) | (with_reducible refine ops_id ?_)); refine walk ?_; (repeat' (first | exact trivial | with_reducible refine And.intro ?_ ?_)); all_goals (repeat (first | (with_reducible refine ImpB.mk fun hb => ?_) | (with_reducible refine ImpK.mk fun hK => ?_) | (with_reducible refine ImpF.mk fun hF => ?_) | (with_reducible refine ImpQ.mk fun hp => ?_) | (with_reducible refine AllE.mk fun p => ?_) | (with_reducible refine AllR.mk fun rest => ?_) | (with_reducible refine AllK.mk fun K => ?_))))); repeat' (with_reducible refine And.intro ?_ ?_))
                      all_goals first | omega | exact hok | exact ok1 | exact hs2 | skip
                      refine ⟨k + 1, ⟨⟨by first | omega | (dsimp only; omega), by rw [hnw1, hmn1]; exact ok2⟩, by first | omega | (dsimp only; omega)⟩, ?_⟩
                      (try dsimp only)
                      rw [hnw1, hmn1, hWn, GF_next, hOe]
                      (try rw [List.append_nil])
                      (focus (refine ⟨_, _, Gh.refl, [0, 1, 2, 4], rfl, ?_⟩; (refine ⟨?_, ?_, ?_⟩ <;> simp only [go_sem, List.range, List.range.loop, List.nodup_cons, List.nodup_nil, List.mem_cons, List.not_mem_nil, or_false, or_self, decide_true, decide_false, Int.reduceToNat, Nat.min_eq_left, Nat.min_eq_right, Int.reducePow, Nat.reducePow, Int.reduceLE, Int.reduceLT, Int.reduceMul, Int.reduceAdd, Int.reduceSub, Int.reduceNeg, Bool.not_true, Bool.not_false, Bool.not_not, ↓reduceIte, Nat.reduceAdd, Nat.reduceSub, Nat.reduceMul, Nat.reduceEqDiff, reduceCtorEq, Nat.reduceLT, Nat.reduceLeDiff, Nat.reduceGT]); (try any_goals (refine ⟨?_, ?_⟩)); (try any_goals (with_reducible rfl))))
                      all_goals first | rfl | exact rfl | (simp only [List.length_append, List.length_cons, List.length_nil]; done) | (simp only [List.length_append, List.length_cons, List.length_nil]; omega) | trace_state
                    · rw [hOe] at hO
                      have hx0 : ([ltK l (k - D)] : List (List UInt8)).getD 0 [] = l.getD (k - D) [] := rfl
                      have hwd : IntKind.i64.wrap ((k : Int) - (D : Int)) = ((k - D : Nat) : Int) := by rw [wrap_i64 _ (by omega) (by omega)]; omega
                      have hkD : decide ((k : Int) < (D : Int)) = false := decide_eq_false (by omega)
                      have hs2 : (k : Int) + 1 ≤ 1000000 := by omega
                      (have zx1 := @hid; have zx2 := @z0; have zx3 := @hR; have zx4 := @hO; have zx5 := @hw; have zx6 := @hx0; have zx7 := @hwd; have zx8 := @hkD; all_goals (try ((first | (with_reducible refine wp_id ?_) | (with_reducible refine does_id ?_) | (with_reducible refine ops_id ?_)); refine walk ?_; (repeat' (first | exact trivial | with_reducible refine And.intro ?_ ?_)); all_goals (repeat (first | (with_reducible refine ImpB.mk fun hb => ?_) | (with_reducible refine ImpK.mk fun hK => ?_) | (with_reducible refine ImpF.mk fun hF => ?_) | (with_reducible refine ImpQ.mk fun hp => ?_) | (with_reducible refine AllE.mk fun p => ?_) | (with_reducible refine AllR.mk fun rest => ?_) | (with_reducible refine AllK.mk fun K => ?_))))); repeat' (with_reducible refine And.intro ?_ ?_))
                      all_goals first | omega | exact hok | exact ok1 | exact hs2 | skip
                      refine ⟨k + 1, ⟨⟨by first | omega | (dsimp only; omega), by rw [hnw1, hmn1]; exact ok2⟩, by first | omega | (dsimp only; omega)⟩, ?_⟩
                      (try dsimp only)
                      rw [hnw1, hmn1, hWn, GF_next, hOe]
                      (try rw [List.append_nil])
                      (focus (refine ⟨_, _, Gh.refl, [0, 1, 2, 4], rfl, ?_⟩; (refine ⟨?_, ?_, ?_⟩ <;> simp only [go_sem, List.range, List.range.loop, List.nodup_cons, List.nodup_nil, List.mem_cons, List.not_mem_nil, or_false, or_self, decide_true, decide_false, Int.reduceToNat, Nat.min_eq_left, Nat.min_eq_right, Int.reducePow, Nat.reducePow, Int.reduceLE, Int.reduceLT, Int.reduceMul, Int.reduceAdd, Int.reduceSub, Int.reduceNeg, Bool.not_true, Bool.not_false, Bool.not_not, ↓reduceIte, Nat.reduceAdd, Nat.reduceSub, Nat.reduceMul, Nat.reduceEqDiff, reduceCtorEq, Nat.reduceLT, Nat.reduceLeDiff, Nat.reduceGT]); (try any_goals (refine ⟨?_, ?_⟩)); (try any_goals (with_reducible rfl))))
                      all_goals first | rfl | exact rfl | (simp only [List.length_append, List.length_cons, List.length_nil]; done) | (simp only [List.length_append, List.length_cons, List.length_nil]; omega) | trace_state
          · have hnd : decide ((k : Int) < (l.length : Int)) = false := decide_eq_false (by omega)
            have hmin : min k l.length = l.length := by omega
            have hmn1 : ((min (k + 1) l.length : Nat) : Int) = (l.length : Int) := by omega
            rw [hmin] at hok ⊢
            have ok1 := hok
            have hR := recv_at (c := ⟨(D : Int), [og], ms, []⟩) (D := D) (l := l) (k := k) (N := nwK k) (s := (l.length : Int)) hat
            have hO := out_at (c := ⟨(D : Int), [og], ms, []⟩) (D := D) (l := l) (k := k) (N := nwK k) (s := (l.length : Int)) hat
            rw [MF_stop hn] at hR hO
            have ok2 := hok.recv (k : Int)
            rw [hR] at ok2
            have hWn := WF_stop (c := ⟨(D : Int), [og], ms, []⟩) hn
            rcases OF_one (c := ⟨(D : Int), [og], ms, []⟩) (D := D) (l := l) (k := k) with hOe | ⟨hDk, hkn, hOe⟩
            · rw [hOe] at hO
              have e01 : decide ((0 : Int) = 1) = false := rfl
              have hs2 : (l.length : Int) ≤ 1000000 := by omega
              (have zx1 := @hkd; have zx2 := @z0; have zx3 := @w1; have zx4 := @hnd; have zx5 := @hR; have zx6 := @hO; have zx7 := @hw; have zx8 := @e01; all_goals (try ((first | (with_reducible refine wp_id ?_) | (with_reducible refine does_id ?_) | (with_reducible refine ops_id ?_)); refine walk ?_; (repeat' (first | exact trivial | with_reducible refine And.intro ?_ ?_)); all_goals (repeat (first | (with_reducible refine ImpB.mk fun hb => ?_) | (with_reducible refine ImpK.mk fun hK => ?_) | (with_reducible refine ImpF.mk fun hF => ?_) | (with_reducible refine ImpQ.mk fun hp => ?_) | (with_reducible refine AllE.mk fun p => ?_) | (with_reducible refine AllR.mk fun rest => ?_) | (with_reducible refine AllK.mk fun K => ?_))))); repeat' (with_reducible refine And.intro ?_ ?_))
              all_goals first | omega | exact hok | exact ok1 | exact hs2 | skip
              refine ⟨k + 1, ⟨⟨by first | omega | (dsimp only; omega), by rw [hnw1, hmn1]; exact ok2⟩, by first | omega | (dsimp only; omega)⟩, ?_⟩
              (try dsimp only)
              rw [hnw1, hmn1, hWn, GF_next, hOe]
              (try rw [List.append_nil])
              (focus (refine ⟨_, _, Gh.refl, [0, 1, 2, 4], rfl, ?_⟩; (refine ⟨?_, ?_, ?_⟩ <;> simp only [go_sem, List.range, List.range.loop, List.nodup_cons, List.nodup_nil, List.mem_cons, List.not_mem_nil, or_false, or_self, decide_true, decide_false, Int.reduceToNat, Nat.min_eq_left, Nat.min_eq_right, Int.reducePow, Nat.reducePow, Int.reduceLE, Int.reduceLT, Int.reduceMul, Int.reduceAdd, Int.reduceSub, Int.reduceNeg, Bool.not_true, Bool.not_false, Bool.not_not, ↓reduceIte, Nat.reduceAdd, Nat.reduceSub, Nat.reduceMul, Nat.reduceEqDiff, reduceCtorEq, Nat.reduceLT, Nat.reduceLeDiff, Nat.reduceGT]); (try any_goals (refine ⟨?_, ?_⟩)); (try any_goals (with_reducible rfl))))
              all_goals first | rfl | exact rfl | (simp only [List.length_append, List.length_cons, List.length_nil]; done) | (simp only [List.length_append, List.length_cons, List.length_nil]; omega) | trace_state
            · rw [hOe] at hO
              have hx0 : ([ltK l (k - D)] : List (List UInt8)).getD 0 [] = l.getD (k - D) [] := rfl
              have hwd : IntKind.i64.wrap ((k : Int) - (D : Int)) = ((k - D : Nat) : Int) := by rw [wrap_i64 _ (by omega) (by omega)]; omega
              have hkD : decide ((k : Int) < (D : Int)) = false := decide_eq_false (by omega)
              have hs2 : (l.length : Int) ≤ 1000000 := by omega
              (have zx1 := @hkd; have zx2 := @z0; have zx3 := @w1; have zx4 := @hnd; have zx5 := @hR; have zx6 := @hO; have zx7 := @hw; have zx8 := @hx0; have zx9 := @hwd; have zx10 := @hkD; all_goals (try ((first | (with_reducible refine wp_id ?_) | (with_reducible refine does_id ?_) | (with_reducible refine ops_id ?_)); refine walk ?_; (repeat' (first | exact trivial | with_reducible refine And.intro ?_ ?_)); all_goals (repeat (first | (with_reducible refine ImpB.mk fun hb => ?_) | (with_reducible refine ImpK.mk fun hK => ?_) | (with_reducible refine ImpF.mk fun hF => ?_) | (with_reducible refine ImpQ.mk fun hp => ?_) | (with_reducible refine AllE.mk fun p => ?_) | (with_reducible refine AllR.mk fun rest => ?_) | (with_reducible refine AllK.mk fun K => ?_))))); repeat' (with_reducible refine And.intro ?_ ?_))
              all_goals first | omega | exact hok | exact ok1 | exact hs2 | skip
              refine ⟨k + 1, ⟨⟨by first | omega | (dsimp only; omega), by rw [hnw1, hmn1]; exact ok2⟩, by first | omega | (dsimp only; omega)⟩, ?_⟩
              (try dsimp only)
              rw [hnw1, hmn1, hWn, GF_next, hOe]
              (try rw [List.append_nil])
              (focus (refine ⟨_, _, Gh.refl, [0, 1, 2, 4], rfl, ?_⟩; (refine ⟨?_, ?_, ?_⟩ <;> simp only [go_sem, List.range, List.range.loop, List.nodup_cons, List.nodup_nil, List.mem_cons, List.not_mem_nil, or_false, or_self, decide_true, decide_false, Int.reduceToNat, Nat.min_eq_left, Nat.min_eq_right, Int.reducePow, Nat.reducePow, Int.reduceLE, Int.reduceLT, Int.reduceMul, Int.reduceAdd, Int.reduceSub, Int.reduceNeg, Bool.not_true, Bool.not_false, Bool.not_not, ↓reduceIte, Nat.reduceAdd, Nat.reduceSub, Nat.reduceMul, Nat.reduceEqDiff, reduceCtorEq, Nat.reduceLT, Nat.reduceLeDiff, Nat.reduceGT]); (try any_goals (refine ⟨?_, ?_⟩)); (try any_goals (with_reducible rfl))))
              all_goals first | rfl | exact rfl | (simp only [List.length_append, List.length_cons, List.length_nil]; done) | (simp only [List.length_append, List.length_cons, List.length_nil]; omega) | trace_state
        · have hkd : decide ((k : Int) ≤ ((l.length + D : Nat) : Int)) = false := decide_eq_false (by omega)
          obtain rfl : k = l.length + D + 1 := by omega
          have hg := GF_all (c := ⟨(D : Int), [og], ms, []⟩) (D := D) (l := l)
          have hp := PF_none (c := ⟨(D : Int), [og], ms, []⟩) (D := D) (l := l)
          have hmin : min (l.length + D + 1) l.length = l.length := by omega
          rw [hg, hp, hmin]
          (have zx1 := @hkd; have zx2 := @z0; have zx3 := @w1; all_goals (try ((first | (with_reducible refine wp_id ?_) | (with_reducible refine does_id ?_) | (with_reducible refine ops_id ?_)); refine walk ?_; (repeat' (first | exact trivial | with_reducible refine And.intro ?_ ?_)); all_goals (repeat (first | (with_reducible refine ImpB.mk fun hb => ?_) | (with_reducible refine ImpK.mk fun hK => ?_) | (with_reducible refine ImpF.mk fun hF => ?_) | (with_reducible refine ImpQ.mk fun hp => ?_) | (with_reducible refine AllE.mk fun p => ?_) | (with_reducible refine AllR.mk fun rest => ?_) | (with_reducible refine AllK.mk fun K => ?_))))); repeat' (with_reducible refine And.intro ?_ ?_))
          all_goals first | exact Int.natCast_nonneg _ | omega | skip
          (focus (refine ⟨_, _, Gh.refl, [], rfl, ?_⟩; (refine ⟨?_, ?_, ?_⟩ <;> simp only [go_sem, List.range, List.range.loop, List.nodup_cons, List.nodup_nil, List.mem_cons, List.not_mem_nil, or_false, or_self, decide_true, decide_false, Int.reduceToNat, Nat.min_eq_left, Nat.min_eq_right, Int.reducePow, Nat.reducePow, Int.reduceLE, Int.reduceLT, Int.reduceMul, Int.reduceAdd, Int.reduceSub, Int.reduceNeg, Bool.not_true, Bool.not_false, Bool.not_not, ↓reduceIte, Nat.reduceAdd, Nat.reduceSub, Nat.reduceMul, Nat.reduceEqDiff, reduceCtorEq, Nat.reduceLT, Nat.reduceLeDiff, Nat.reduceGT]); (try any_goals (refine ⟨?_, ?_⟩)); (try any_goals (with_reducible rfl))))
theorem b_deliversA (d : Int) (og : Rng) (ms : List Int) (l : List (List UInt8)) (hd : 0 ≤ d ∧ d ≤ 255) (hm : ms.length ≤ 9223372036854775807) (hl : l.length ≤ 9223372036854775807) : DoesK Try.prog 0 3 [.int .u8 d, .agg [.int .i64 og.from_, .int .i64 og.to_], .ro .int ms, .ro .bytes l] [] (EndF 0 (.bool true) []) := by
  have e : d = (d.toNat : Int) := by omega
  rw [e]
  exact b_delivers d.toNat og ms l (by omega) hm hl
end Go.V
