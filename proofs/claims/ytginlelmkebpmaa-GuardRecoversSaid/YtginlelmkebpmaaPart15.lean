/-
  The guard: GuardRecovers.
-/
import Derived.Test.YtginlelmkebpmaaPart14
set_option linter.unusedVariables false
set_option linter.unusedSimpArgs false
set_option maxRecDepth 100000
set_option maxHeartbeats 16000000
namespace Go.V
open Go.Proofs
def hrT (heard : Bool) (t : Nat) : Nat := if heard then t - 1 else 0
theorem wdT_le (al : Bool) (w t : Nat) : wdT al w t ≤ t := by
  unfold wdT
  split
  · omega
  · have := Nat.mul_div_le (t - 1) w
    omega
theorem swT_le (he : Bool) (s p t : Nat) : swT he s p t ≤ t := by
  unfold swT
  split
  · rename_i h
    unfold swD at h
    simp at h
    have := Nat.mul_div_le (t - 1 - s) p
    omega
  · omega
theorem hrT_le (he : Bool) (t : Nat) : hrT he t ≤ t := by
  unfold hrT
  split <;> omega
theorem wdT_1 (al : Bool) (w : Nat) : wdT al w 1 = 0 := by
  unfold wdT
  split <;> simp
theorem swD_1 (he : Bool) (s : Nat) (h : 1 ≤ s) : swD he s 1 = false := by
  unfold swD
  rw [decide_eq_false (by omega), Bool.and_false]
theorem swT_1 (he : Bool) (s p : Nat) (h : 1 ≤ s) : swT he s p 1 = 0 := by
  unfold swT
  rw [swD_1 he s h]; rfl
theorem atT_up {t : Nat} (h1 : 1 ≤ t) (h2 : t ≤ 201) : atT ((t - 1 : Nat) : Int) t = t := by
  unfold atT
  rw [if_pos (by omega)]
  omega
theorem atT_id {t : Nat} (h2 : t ≤ 201) : atT (t : Int) t = t := by
  unfold atT
  rw [if_pos (by omega)]
  omega
theorem swT_n {he : Bool} {s p t : Nat} (h : t ≤ s) : swT he s p t = 0 := by
  unfold swT swD
  rw [decide_eq_false (by omega), Bool.and_false]; rfl
theorem sw_yes {s p t : Nat} {x : Int} (hx : x = t) (h : swD false s t = false ∨ p ≤ t - swT false s p t) (h2 : swT false s p t ≤ t) : (!swD false s t || decide ((p : Int) ≤ x - ((swT false s p t : Nat) : Int))) = true := by
  subst hx
  rcases h with h | h
  · rw [h]; rfl
  · rw [decide_eq_true (by omega), Bool.or_true]
theorem sw_no {s p t : Nat} {x : Int} (hx : x = t) (h : ¬ (swD false s t = false ∨ p ≤ t - swT false s p t)) (h2 : swT false s p t ≤ t) : (!swD false s t || decide ((p : Int) ≤ x - ((swT false s p t : Nat) : Int))) = false := by
  subst hx
  have h1 : swD false s t = true := by
    cases q : swD false s t
    · exact absurd (.inl q) h
    · rfl
  have h3 : ¬ p ≤ t - swT false s p t := fun q => h (.inr q)
  rw [h1, decide_eq_false (by omega)]; rfl
theorem b_rec00 (w s p : Nat) (hw0 : 1 ≤ w ∧ w ≤ 1099511627776) (hs0 : 1 ≤ s ∧ s ≤ 1099511627776) (hp0 : 1 ≤ p ∧ p ≤ 1099511627776) : DoesK Try.prog 0 4 [.agg [.int .i64 w, .int .i64 s, .int .i64 p], .bool false, .bool false] [] (EndF 0 (.bool true) []) := by
  refine DoesK.close ?_
  have hr : rightB w s p 0 = true := right_iff.2 (by omega)
  refine w_body (rs := [.tmp 6]) (tm := [.agg [.int .i64 w, .int .i64 s, .int .i64 p], .bool false, .bool false, .any, .any, .any, .any, .any, .any, .any, .any, .any, .any, .any, .any, .any, .any, .any, .any, .any, .any, .any, .any, .any, .any, .any, .any, .any, .any, .any, .any, .any, .any, .any, .any, .any, .any, .any, .any, .any, .any, .any, .any, .any, .any, .any, .any, .any, .any, .any, .any, .any, .any, .any, .any, .any, .any, .any, .any, .any, .any, .any, .any, .any, .any, .any, .any, .any, .any, .any, .any, .any, .any, .any, .any, .any, .any, .any, .any, .any, .any, .any, .any, .any, .any, .any, .any, .any, .any, .any, .any, .any, .any, .any, .any, .any, .any, .any, .any, .any, .any, .any, .any, .any, .any, .any, .any, .any, .any, .any, .any]) fn_4 rfl rfl rfl rfl fun R hR => ?_
  (have zx1 := @hr; all_goals (try ((first | (with_reducible refine wp_id ?_) | (with_reducible refine does_id ?_) | (with_reducible refine ops_id ?_)); refine walk ?_; (repeat' (first | exact trivial | with_reducible refine And.intro ?_ ?_)); all_goals (repeat (first | (with_reducible refine ImpB.mk fun hb => ?_) | (with_reducible refine ImpK.mk fun hK => ?_) | (with_reducible refine ImpF.mk fun hF => ?_) | (with_reducible refine ImpQ.mk fun hp => ?_) | (with_reducible refine AllE.mk fun p => ?_) | (with_reducible refine AllR.mk fun rest => ?_) | (with_reducible refine AllK.mk fun K => ?_))))); repeat' (with_reducible refine And.intro ?_ ?_))
  any_goals ((try (refine w_seq fun K hK => ?_)); (try (refine w_block ?_)); refine w_loop (A := Nat) (fun t => 1 ≤ t ∧ t ≤ 201) (fun t => 201 - t) (fun t => [(9, .int .i64 t)]) (fun t => [(1, .pack (Gd w s p ((t - 1 : Nat) : Int) ((wdT false w t : Nat) : Int) ((hrT false t : Nat) : Int) (swD false s t) ((swT false s p t : Nat) : Int) [] false))]) (1) (ws := ?ws1) (tk := ?tk1) ?hw1 ?ht1 ?hi ?h0 ?LH1; (case hw1 => simp only [go_sem, decide_true, decide_false, Int.reduceToNat, Nat.min_eq_left, Nat.min_eq_right, Int.reducePow, Nat.reducePow, Int.reduceLE, Int.reduceLT, Int.reduceMul, Int.reduceAdd, Int.reduceSub, Int.reduceNeg, Bool.not_true, Bool.not_false, Bool.not_not, ↓reduceIte, Nat.reduceAdd, Nat.reduceSub, Nat.reduceMul, Nat.reduceEqDiff, reduceCtorEq, Nat.reduceLT, Nat.reduceLeDiff, Nat.reduceGT]; exact rfl); (case ht1 => simp only [go_sem, decide_true, decide_false, Int.reduceToNat, Nat.min_eq_left, Nat.min_eq_right, Int.reducePow, Nat.reducePow, Int.reduceLE, Int.reduceLT, Int.reduceMul, Int.reduceAdd, Int.reduceSub, Int.reduceNeg, Bool.not_true, Bool.not_false, Bool.not_not, ↓reduceIte, Nat.reduceAdd, Nat.reduceSub, Nat.reduceMul, Nat.reduceEqDiff, reduceCtorEq, Nat.reduceLT, Nat.reduceLeDiff, Nat.reduceGT]; exact rfl); (case' LH1 => rintro t E t hx hE ht; simp only [go_sem] at ht; subst ht; simp only [go_sem]; try dsimp only at hx))
  case hi => exact ⟨Nat.le_refl _, by omega⟩
  case h0 =>
    rw [wdT_1, swD_1 _ _ hs0.1, swT_1 _ _ _ hs0.1]
    (focus (refine ⟨_, _, Gh.refl, [0, 1], rfl, ?_⟩; (refine ⟨?_, ?_, ?_⟩ <;> simp only [go_sem, List.range, List.range.loop, List.nodup_cons, List.nodup_nil, List.mem_cons, List.not_mem_nil, or_false, or_self, decide_true, decide_false, Int.reduceToNat, Nat.min_eq_left, Nat.min_eq_right, Int.reducePow, Nat.reducePow, Int.reduceLE, Int.reduceLT, Int.reduceMul, Int.reduceAdd, Int.reduceSub, Int.reduceNeg, Bool.not_true, Bool.not_false, Bool.not_not, ↓reduceIte, Nat.reduceAdd, Nat.reduceSub, Nat.reduceMul, Nat.reduceEqDiff, reduceCtorEq, Nat.reduceLT, Nat.reduceLeDiff, Nat.reduceGT]); (try any_goals (refine ⟨?_, ?_⟩)); (try any_goals (with_reducible rfl))))
    all_goals rfl
  case LH1 =>
    obtain ⟨ht1, ht2⟩ := hx
    by_cases hk : t ≤ 200
    · have hk1 : decide ((t : Int) ≤ 200) = true := decide_eq_true (by omega)
      have hw : IntKind.i64.wrap ((t : Int) + 1) = ((t + 1 : Nat) : Int) := by rw [wrap_i64 _ (by omega) (by omega)]; omega
      have n0 := atT_up ht1 ht2
      have n1 := atT_id ht2
      have l1 := wdT_le false w t
      have l2 := swT_le false s p t
      have l3 := hrT_le false t
      have l4 : hrT false t = 0 := rfl
      have f1 := wd_fire (W := w) (t := t) hw0.1 ht1
      have f2 := sw_fire (S := s) (P := p) (t := t) hs0.1 hp0.1 ht1
      by_cases c1 : w ≤ t - wdT false w t
      · have c3 := f1.1.1 c1
        by_cases c2 : s ≤ t
        · by_cases c4 : swD false s t = false ∨ p ≤ t - swT false s p t
          · have c5 := (f2.1.1 ⟨c2, c4⟩).2
            have e1 : decide ((w : Int) ≤ atT ((t - 1 : Nat) : Int) t - ((wdT false w t : Nat) : Int)) = true := decide_eq_true (by rw [n0]; omega)
            have e2 : decide ((s : Int) ≤ atT ((t - 1 : Nat) : Int) t - ((hrT false t : Nat) : Int)) = true := decide_eq_true (by rw [n0]; omega)
            have e3 := sw_yes n0 c4 l2
            have r1 : 0 ≤ atT ((t - 1 : Nat) : Int) t ∧ atT ((t - 1 : Nat) : Int) t ≤ 1099511627776 := by rw [n0]; omega
            (have zx1 := @hk1; have zx2 := @hw; have zx3 := @n0; have zx4 := @n1; all_goals (try ((first | (with_reducible refine wp_id ?_) | (with_reducible refine does_id ?_) | (with_reducible refine ops_id ?_)); refine walk ?_; (repeat' (first | exact trivial | with_reducible refine And.intro ?_ ?_)); all_goals (repeat (first | (with_reducible refine ImpB.mk fun hb => ?_) | (with_reducible refine ImpK.mk fun hK => ?_) | (with_reducible refine ImpF.mk fun hF => ?_) | (with_reducible refine ImpQ.mk fun hp => ?_) | (with_reducible refine AllE.mk fun p => ?_) | (with_reducible refine AllR.mk fun rest => ?_) | (with_reducible refine AllK.mk fun K => ?_))))); repeat' (with_reducible refine And.intro ?_ ?_))
            all_goals first | exact r1 | omega | skip
            any_goals ((try (refine w_seq fun K hK => ?_)); (try (refine w_block ?_)); refine w_loop (A := Nat) (fun i => i ≤ 3) (fun i => 3 - i) (fun i => [(14, .int .i64 i), (10, .int .i64 (if 1 ≤ i then 1 else 0)), (11, .int .i64 (if 2 ≤ i then 1 else 0)), (12, .int .i64 (if 3 ≤ i then 1 else 0))]) (fun i => []) (0) (ws := ?ws2) (tk := ?tk2) ?hw2 ?ht2 ?hi_1 ?h0_1 ?LH2; (case hw2 => simp only [go_sem, decide_true, decide_false, Int.reduceToNat, Nat.min_eq_left, Nat.min_eq_right, Int.reducePow, Nat.reducePow, Int.reduceLE, Int.reduceLT, Int.reduceMul, Int.reduceAdd, Int.reduceSub, Int.reduceNeg, Bool.not_true, Bool.not_false, Bool.not_not, ↓reduceIte, Nat.reduceAdd, Nat.reduceSub, Nat.reduceMul, Nat.reduceEqDiff, reduceCtorEq, Nat.reduceLT, Nat.reduceLeDiff, Nat.reduceGT]; exact rfl); (case ht2 => simp only [go_sem, decide_true, decide_false, Int.reduceToNat, Nat.min_eq_left, Nat.min_eq_right, Int.reducePow, Nat.reducePow, Int.reduceLE, Int.reduceLT, Int.reduceMul, Int.reduceAdd, Int.reduceSub, Int.reduceNeg, Bool.not_true, Bool.not_false, Bool.not_not, ↓reduceIte, Nat.reduceAdd, Nat.reduceSub, Nat.reduceMul, Nat.reduceEqDiff, reduceCtorEq, Nat.reduceLT, Nat.reduceLeDiff, Nat.reduceGT]; exact rfl); (case' LH2 => rintro i E t hx hE ht; simp only [go_sem] at ht; subst ht; simp only [go_sem]; try dsimp only at hx))
            case hi_1 => exact Nat.zero_le _
            case h0_1 =>
              (focus (refine ⟨_, _, Gh.refl, [0, 1, 2], rfl, ?_⟩; (refine ⟨?_, ?_, ?_⟩ <;> simp only [go_sem, List.range, List.range.loop, List.nodup_cons, List.nodup_nil, List.mem_cons, List.not_mem_nil, or_false, or_self, decide_true, decide_false, Int.reduceToNat, Nat.min_eq_left, Nat.min_eq_right, Int.reducePow, Nat.reducePow, Int.reduceLE, Int.reduceLT, Int.reduceMul, Int.reduceAdd, Int.reduceSub, Int.reduceNeg, Bool.not_true, Bool.not_false, Bool.not_not, ↓reduceIte, Nat.reduceAdd, Nat.reduceSub, Nat.reduceMul, Nat.reduceEqDiff, reduceCtorEq, Nat.reduceLT, Nat.reduceLeDiff, Nat.reduceGT]); (try any_goals (refine ⟨?_, ?_⟩)); (try any_goals (with_reducible rfl))))
              all_goals first | rfl | trace_state
            case LH2 =>
              have hi : i ≤ 3 := hx
              obtain rfl | rfl | rfl | rfl : i = 0 ∨ i = 1 ∨ i = 2 ∨ i = 3 := by omega
              · have y1 : ([⟨(t : Int), 3, 0⟩, ⟨(t : Int), 4, 0⟩, ⟨(t : Int), 1, 0⟩] : List Rcy).getD 0 Rcy.zero = ⟨(t : Int), 3, 0⟩ := rfl
                have y2 : decide ((0 : Int) < ((3 : Nat) : Int)) = true := by decide
                have y3 : decide ((3 : Int) = 3) = true := by decide
                have y4 : decide ((3 : Int) = 4) = false := by decide
                (have zx1 := @y1; have zx2 := @y2; have zx3 := @y3; have zx4 := @y4; all_goals (try ((first | (with_reducible refine wp_id ?_) | (with_reducible refine does_id ?_) | (with_reducible refine ops_id ?_)); refine walk ?_; (repeat' (first | exact trivial | with_reducible refine And.intro ?_ ?_)); all_goals (repeat (first | (with_reducible refine ImpB.mk fun hb => ?_) | (with_reducible refine ImpK.mk fun hK => ?_) | (with_reducible refine ImpF.mk fun hF => ?_) | (with_reducible refine ImpQ.mk fun hp => ?_) | (with_reducible refine AllE.mk fun p => ?_) | (with_reducible refine AllR.mk fun rest => ?_) | (with_reducible refine AllK.mk fun K => ?_))))); repeat' (with_reducible refine And.intro ?_ ?_))
                all_goals first | decide | skip
                refine ⟨1, ⟨by decide, by decide⟩, ?_⟩
                (focus (refine ⟨_, _, Gh.refl, [0, 1, 2], rfl, ?_⟩; (refine ⟨?_, ?_, ?_⟩ <;> simp only [go_sem, List.range, List.range.loop, List.nodup_cons, List.nodup_nil, List.mem_cons, List.not_mem_nil, or_false, or_self, decide_true, decide_false, Int.reduceToNat, Nat.min_eq_left, Nat.min_eq_right, Int.reducePow, Nat.reducePow, Int.reduceLE, Int.reduceLT, Int.reduceMul, Int.reduceAdd, Int.reduceSub, Int.reduceNeg, Bool.not_true, Bool.not_false, Bool.not_not, ↓reduceIte, Nat.reduceAdd, Nat.reduceSub, Nat.reduceMul, Nat.reduceEqDiff, reduceCtorEq, Nat.reduceLT, Nat.reduceLeDiff, Nat.reduceGT]); (try any_goals (refine ⟨?_, ?_⟩)); (try any_goals (with_reducible rfl))))
                all_goals first | rfl | trace_state
              · have y1 : ([⟨(t : Int), 3, 0⟩, ⟨(t : Int), 4, 0⟩, ⟨(t : Int), 1, 0⟩] : List Rcy).getD 1 Rcy.zero = ⟨(t : Int), 4, 0⟩ := rfl
                have y2 : decide ((1 : Int) < ((3 : Nat) : Int)) = true := by decide
                have y3 : decide ((4 : Int) = 3) = false := by decide
                have y4 : decide ((4 : Int) = 4) = true := by decide
                (have zx1 := @y1; have zx2 := @y2; have zx3 := @y3; have zx4 := @y4; all_goals (try ((first | (with_reducible refine wp_id ?_) | (with_reducible refine does_id ?_) | (with_reducible refine ops_id ?_)); refine walk ?_; (repeat' (first | exact trivial | with_reducible refine And.intro ?_ ?_)); all_goals (repeat (first | (with_reducible refine ImpB.mk fun hb => ?_) | (with_reducible refine ImpK.mk fun hK => ?_) | (with_reducible refine ImpF.mk fun hF => ?_) | (with_reducible refine ImpQ.mk fun hp => ?_) | (with_reducible refine AllE.mk fun p => ?_) | (with_reducible refine AllR.mk fun rest => ?_) | (with_reducible refine AllK.mk fun K => ?_))))); repeat' (with_reducible refine And.intro ?_ ?_))
                all_goals first | decide | skip
                refine ⟨2, ⟨by decide, by decide⟩, ?_⟩
                (focus (refine ⟨_, _, Gh.refl, [0, 1, 2], rfl, ?_⟩; (refine ⟨?_, ?_, ?_⟩ <;> simp only [go_sem, List.range, List.range.loop, List.nodup_cons, List.nodup_nil, List.mem_cons, List.not_mem_nil, or_false, or_self, decide_true, decide_false, Int.reduceToNat, Nat.min_eq_left, Nat.min_eq_right, Int.reducePow, Nat.reducePow, Int.reduceLE, Int.reduceLT, Int.reduceMul, Int.reduceAdd, Int.reduceSub, Int.reduceNeg, Bool.not_true, Bool.not_false, Bool.not_not, ↓reduceIte, Nat.reduceAdd, Nat.reduceSub, Nat.reduceMul, Nat.reduceEqDiff, reduceCtorEq, Nat.reduceLT, Nat.reduceLeDiff, Nat.reduceGT]); (try any_goals (refine ⟨?_, ?_⟩)); (try any_goals (with_reducible rfl))))
                all_goals first | rfl | trace_state
              · have y1 : ([⟨(t : Int), 3, 0⟩, ⟨(t : Int), 4, 0⟩, ⟨(t : Int), 1, 0⟩] : List Rcy).getD 2 Rcy.zero = ⟨(t : Int), 1, 0⟩ := rfl
                have y2 : decide (((2 : Nat) : Int) < ((3 : Nat) : Int)) = true := by decide
                have y3 : decide ((1 : Int) = 3) = false := by decide
                have y4 : decide ((1 : Int) = 4) = false := by decide
                (have zx1 := @y1; have zx2 := @y2; have zx3 := @y3; have zx4 := @y4; all_goals (try ((first | (with_reducible refine wp_id ?_) | (with_reducible refine does_id ?_) | (with_reducible refine ops_id ?_)); refine walk ?_; (repeat' (first | exact trivial | with_reducible refine And.intro ?_ ?_)); all_goals (repeat (first | (with_reducible refine ImpB.mk fun hb => ?_) | (with_reducible refine ImpK.mk fun hK => ?_) | (with_reducible refine ImpF.mk fun hF => ?_) | (with_reducible refine ImpQ.mk fun hp => ?_) | (with_reducible refine AllE.mk fun p => ?_) | (with_reducible refine AllR.mk fun rest => ?_) | (with_reducible refine AllK.mk fun K => ?_))))); repeat' (with_reducible refine And.intro ?_ ?_))
                all_goals first | decide | skip
                refine ⟨3, ⟨by decide, by decide⟩, ?_⟩
                (focus (refine ⟨_, _, Gh.refl, [0, 1, 2], rfl, ?_⟩; (refine ⟨?_, ?_, ?_⟩ <;> simp only [go_sem, List.range, List.range.loop, List.nodup_cons, List.nodup_nil, List.mem_cons, List.not_mem_nil, or_false, or_self, decide_true, decide_false, Int.reduceToNat, Nat.min_eq_left, Nat.min_eq_right, Int.reducePow, Nat.reducePow, Int.reduceLE, Int.reduceLT, Int.reduceMul, Int.reduceAdd, Int.reduceSub, Int.reduceNeg, Bool.not_true, Bool.not_false, Bool.not_not, ↓reduceIte, Nat.reduceAdd, Nat.reduceSub, Nat.reduceMul, Nat.reduceEqDiff, reduceCtorEq, Nat.reduceLT, Nat.reduceLeDiff, Nat.reduceGT]); (try any_goals (refine ⟨?_, ?_⟩)); (try any_goals (with_reducible rfl))))
                all_goals first | rfl | trace_state
              · have y2 : decide (((3 : Nat) : Int) < ((3 : Nat) : Int)) = false := by decide
                have y3 : 1 ≤ 3 := by decide
                have y4 : 2 ≤ 3 := by decide
                have y5 : 3 ≤ 3 := by decide
                have d5 : decide (Int.tmod (t : Int) (w : Int) = 0) = true := by rw [← Int.ofNat_tmod]; exact decide_eq_true (by omega)
                have d6 : decide ((s : Int) ≤ (t : Int)) = true := decide_eq_true (by omega)
                have d7 : IntKind.i64.wrap ((t : Int) - (s : Int)) = ((t - s : Nat) : Int) := by rw [wrap_i64 _ (by omega) (by omega)]; omega
                have d8 : decide (Int.tmod ((t - s : Nat) : Int) (p : Int) = 0) = true := by rw [← Int.ofNat_tmod]; exact decide_eq_true (by omega)
                (have zx1 := @hw; have zx2 := @y2; have zx3 := @y3; have zx4 := @y4; have zx5 := @y5; have zx6 := @d5; have zx7 := @d6; have zx8 := @d7; have zx9 := @d8; all_goals (try ((first | (with_reducible refine wp_id ?_) | (with_reducible refine does_id ?_) | (with_reducible refine ops_id ?_)); refine walk ?_; (repeat' (first | exact trivial | with_reducible refine And.intro ?_ ?_)); all_goals (repeat (first | (with_reducible refine ImpB.mk fun hb => ?_) | (with_reducible refine ImpK.mk fun hK => ?_) | (with_reducible refine ImpF.mk fun hF => ?_) | (with_reducible refine ImpQ.mk fun hp => ?_) | (with_reducible refine AllE.mk fun p => ?_) | (with_reducible refine AllR.mk fun rest => ?_) | (with_reducible refine AllK.mk fun K => ?_))))); repeat' (with_reducible refine And.intro ?_ ?_))
                all_goals first | omega | skip
                refine ⟨t + 1, ⟨⟨by omega, by omega⟩, by first | omega | (dsimp only; omega)⟩, ?_⟩
                (focus (refine ⟨_, _, Gh.refl, [0, 1], rfl, ?_⟩; (refine ⟨?_, ?_, ?_⟩ <;> simp only [go_sem, List.range, List.range.loop, List.nodup_cons, List.nodup_nil, List.mem_cons, List.not_mem_nil, or_false, or_self, decide_true, decide_false, Int.reduceToNat, Nat.min_eq_left, Nat.min_eq_right, Int.reducePow, Nat.reducePow, Int.reduceLE, Int.reduceLT, Int.reduceMul, Int.reduceAdd, Int.reduceSub, Int.reduceNeg, Bool.not_true, Bool.not_false, Bool.not_not, ↓reduceIte, Nat.reduceAdd, Nat.reduceSub, Nat.reduceMul, Nat.reduceEqDiff, reduceCtorEq, Nat.reduceLT, Nat.reduceLeDiff, Nat.reduceGT]); (try any_goals (refine ⟨?_, ?_⟩)); (try any_goals (with_reducible rfl))))
                have gA : wdT false w (t + 1) = t := f1.2.trans (if_pos (f1.1.1 c1))
                have gD : swD false s (t + 1) = true := f2.2.1.trans (decide_eq_true c2)
                have gT : swT false s p (t + 1) = t := (f2.2.2 c2).trans (if_pos (f2.1.1 ⟨c2, c4⟩).2)
                all_goals first | rfl | (simp only [gA, gD, gT]; rfl) | trace_state
          · have c5 : ¬ (t - s) % p = 0 := fun q => c4 (f2.1.2 ⟨c2, q⟩).2
            have e1 : decide ((w : Int) ≤ atT ((t - 1 : Nat) : Int) t - ((wdT false w t : Nat) : Int)) = true := decide_eq_true (by rw [n0]; omega)
            have e2 : decide ((s : Int) ≤ atT ((t - 1 : Nat) : Int) t - ((hrT false t : Nat) : Int)) = true := decide_eq_true (by rw [n0]; omega)
            have e3 := sw_no n0 c4 l2
            have r1 : 0 ≤ atT ((t - 1 : Nat) : Int) t ∧ atT ((t - 1 : Nat) : Int) t ≤ 1099511627776 := by rw [n0]; omega
            (have zx1 := @hk1; have zx2 := @hw; have zx3 := @n0; have zx4 := @n1; all_goals (try ((first | (with_reducible refine wp_id ?_) | (with_reducible refine does_id ?_) | (with_reducible refine ops_id ?_)); refine walk ?_; (repeat' (first | exact trivial | with_reducible refine And.intro ?_ ?_)); all_goals (repeat (first | (with_reducible refine ImpB.mk fun hb => ?_) | (with_reducible refine ImpK.mk fun hK => ?_) | (with_reducible refine ImpF.mk fun hF => ?_) | (with_reducible refine ImpQ.mk fun hp => ?_) | (with_reducible refine AllE.mk fun p => ?_) | (with_reducible refine AllR.mk fun rest => ?_) | (with_reducible refine AllK.mk fun K => ?_))))); repeat' (with_reducible refine And.intro ?_ ?_))
            all_goals first | exact r1 | omega | skip
            any_goals ((try (refine w_seq fun K hK => ?_)); (try (refine w_block ?_)); refine w_loop (A := Nat) (fun i => i ≤ 1) (fun i => 1 - i) (fun i => [(14, .int .i64 i), (10, .int .i64 (if 1 ≤ i then 1 else 0)), (11, .int .i64 0), (12, .int .i64 0)]) (fun i => []) (0) (ws := ?ws3) (tk := ?tk3) ?hw3 ?ht3 ?hi_2 ?h0_2 ?LH3; (case hw3 => simp only [go_sem, decide_true, decide_false, Int.reduceToNat, Nat.min_eq_left, Nat.min_eq_right, Int.reducePow, Nat.reducePow, Int.reduceLE, Int.reduceLT, Int.reduceMul, Int.reduceAdd, Int.reduceSub, Int.reduceNeg, Bool.not_true, Bool.not_false, Bool.not_not, ↓reduceIte, Nat.reduceAdd, Nat.reduceSub, Nat.reduceMul, Nat.reduceEqDiff, reduceCtorEq, Nat.reduceLT, Nat.reduceLeDiff, Nat.reduceGT]; exact rfl); (case ht3 => simp only [go_sem, decide_true, decide_false, Int.reduceToNat, Nat.min_eq_left, Nat.min_eq_right, Int.reducePow, Nat.reducePow, Int.reduceLE, Int.reduceLT, Int.reduceMul, Int.reduceAdd, Int.reduceSub, Int.reduceNeg, Bool.not_true, Bool.not_false, Bool.not_not, ↓reduceIte, Nat.reduceAdd, Nat.reduceSub, Nat.reduceMul, Nat.reduceEqDiff, reduceCtorEq, Nat.reduceLT, Nat.reduceLeDiff, Nat.reduceGT]; exact rfl); (case' LH3 => rintro i E t hx hE ht; simp only [go_sem] at ht; subst ht; simp only [go_sem]; try dsimp only at hx))
            case hi_2 => exact Nat.zero_le _
            case h0_2 =>
              (focus (refine ⟨_, _, Gh.refl, [0, 1, 2], rfl, ?_⟩; (refine ⟨?_, ?_, ?_⟩ <;> simp only [go_sem, List.range, List.range.loop, List.nodup_cons, List.nodup_nil, List.mem_cons, List.not_mem_nil, or_false, or_self, decide_true, decide_false, Int.reduceToNat, Nat.min_eq_left, Nat.min_eq_right, Int.reducePow, Nat.reducePow, Int.reduceLE, Int.reduceLT, Int.reduceMul, Int.reduceAdd, Int.reduceSub, Int.reduceNeg, Bool.not_true, Bool.not_false, Bool.not_not, ↓reduceIte, Nat.reduceAdd, Nat.reduceSub, Nat.reduceMul, Nat.reduceEqDiff, reduceCtorEq, Nat.reduceLT, Nat.reduceLeDiff, Nat.reduceGT]); (try any_goals (refine ⟨?_, ?_⟩)); (try any_goals (with_reducible rfl))))
              all_goals first | rfl | trace_state
            case LH3 =>
              have hi : i ≤ 1 := hx
              obtain rfl | rfl : i = 0 ∨ i = 1 := by omega
              · have y1 : ([⟨(t : Int), 3, 0⟩] : List Rcy).getD 0 Rcy.zero = ⟨(t : Int), 3, 0⟩ := rfl
                have y2 : decide ((0 : Int) < ((1 : Nat) : Int)) = true := by decide
                have y3 : decide ((3 : Int) = 3) = true := by decide
                have y4 : decide ((3 : Int) = 4) = false := by decide
                (have zx1 := @y1; have zx2 := @y2; have zx3 := @y3; have zx4 := @y4; all_goals (try ((first | (with_reducible refine wp_id ?_) | (with_reducible refine does_id ?_) | (with_reducible refine ops_id ?_)); refine walk ?_; (repeat' (first | exact trivial | with_reducible refine And.intro ?_ ?_)); all_goals (repeat (first | (with_reducible refine ImpB.mk fun hb => ?_) | (with_reducible refine ImpK.mk fun hK => ?_) | (with_reducible refine ImpF.mk fun hF => ?_) | (with_reducible refine ImpQ.mk fun hp => ?_) | (with_reducible refine AllE.mk fun p => ?_) | (with_reducible refine AllR.mk fun rest => ?_) | (with_reducible refine AllK.mk fun K => ?_))))); repeat' (with_reducible refine And.intro ?_ ?_))
                all_goals first | decide | skip
                refine ⟨1, ⟨by decide, by decide⟩, ?_⟩
                (focus (refine ⟨_, _, Gh.refl, [0, 1, 2], rfl, ?_⟩; (refine ⟨?_, ?_, ?_⟩ <;> simp only [go_sem, List.range, List.range.loop, List.nodup_cons, List.nodup_nil, List.mem_cons, List.not_mem_nil, or_false, or_self, decide_true, decide_false, Int.reduceToNat, Nat.min_eq_left, Nat.min_eq_right, Int.reducePow, Nat.reducePow, Int.reduceLE, Int.reduceLT, Int.reduceMul, Int.reduceAdd, Int.reduceSub, Int.reduceNeg, Bool.not_true, Bool.not_false, Bool.not_not, ↓reduceIte, Nat.reduceAdd, Nat.reduceSub, Nat.reduceMul, Nat.reduceEqDiff, reduceCtorEq, Nat.reduceLT, Nat.reduceLeDiff, Nat.reduceGT]); (try any_goals (refine ⟨?_, ?_⟩)); (try any_goals (with_reducible rfl))))
                all_goals first | rfl | trace_state
              · have y2 : decide ((1 : Int) < ((1 : Nat) : Int)) = false := by decide
                have y3 : 1 ≤ 1 := by decide
                have d5 : decide (Int.tmod (t : Int) (w : Int) = 0) = true := by rw [← Int.ofNat_tmod]; exact decide_eq_true (by omega)
                have d6 : decide ((s : Int) ≤ (t : Int)) = true := decide_eq_true (by omega)
                have d7 : IntKind.i64.wrap ((t : Int) - (s : Int)) = ((t - s : Nat) : Int) := by rw [wrap_i64 _ (by omega) (by omega)]; omega
                have d8 : decide (Int.tmod ((t - s : Nat) : Int) (p : Int) = 0) = false := by rw [← Int.ofNat_tmod]; exact decide_eq_false (by omega)
                (have zx1 := @hw; have zx2 := @y2; have zx3 := @y3; have zx4 := @d5; have zx5 := @d6; have zx6 := @d7; have zx7 := @d8; all_goals (try ((first | (with_reducible refine wp_id ?_) | (with_reducible refine does_id ?_) | (with_reducible refine ops_id ?_)); refine walk ?_; (repeat' (first | exact trivial | with_reducible refine And.intro ?_ ?_)); all_goals (repeat (first | (with_reducible refine ImpB.mk fun hb => ?_) | (with_reducible refine ImpK.mk fun hK => ?_) | (with_reducible refine ImpF.mk fun hF => ?_) | (with_reducible refine ImpQ.mk fun hp => ?_) | (with_reducible refine AllE.mk fun p => ?_) | (with_reducible refine AllR.mk fun rest => ?_) | (with_reducible refine AllK.mk fun K => ?_))))); repeat' (with_reducible refine And.intro ?_ ?_))
                all_goals first | omega | skip
                refine ⟨t + 1, ⟨⟨by omega, by omega⟩, by first | omega | (dsimp only; omega)⟩, ?_⟩
                (focus (refine ⟨_, _, Gh.refl, [0, 1], rfl, ?_⟩; (refine ⟨?_, ?_, ?_⟩ <;> simp only [go_sem, List.range, List.range.loop, List.nodup_cons, List.nodup_nil, List.mem_cons, List.not_mem_nil, or_false, or_self, decide_true, decide_false, Int.reduceToNat, Nat.min_eq_left, Nat.min_eq_right, Int.reducePow, Nat.reducePow, Int.reduceLE, Int.reduceLT, Int.reduceMul, Int.reduceAdd, Int.reduceSub, Int.reduceNeg, Bool.not_true, Bool.not_false, Bool.not_not, ↓reduceIte, Nat.reduceAdd, Nat.reduceSub, Nat.reduceMul, Nat.reduceEqDiff, reduceCtorEq, Nat.reduceLT, Nat.reduceLeDiff, Nat.reduceGT]); (try any_goals (refine ⟨?_, ?_⟩)); (try any_goals (with_reducible rfl))))
                have gA : wdT false w (t + 1) = t := f1.2.trans (if_pos (f1.1.1 c1))
                have gD : swD false s (t + 1) = swD false s t := by have q := f2.2.1.trans (decide_eq_true c2); rw [q]; cases q2 : swD false s t; exact absurd (.inl q2) c4; rfl
                have gT : swT false s p (t + 1) = swT false s p t := (f2.2.2 c2).trans (if_neg (fun q => c4 (f2.1.2 ⟨c2, q⟩).2))
                all_goals first | rfl | (simp only [gA, gD, gT]; rfl) | trace_state
        · skip
          have e1 : decide ((w : Int) ≤ atT ((t - 1 : Nat) : Int) t - ((wdT false w t : Nat) : Int)) = true := decide_eq_true (by rw [n0]; omega)
          have e2 : decide ((s : Int) ≤ atT ((t - 1 : Nat) : Int) t - ((hrT false t : Nat) : Int)) = false := decide_eq_false (by rw [n0]; omega)
          have r1 : 0 ≤ atT ((t - 1 : Nat) : Int) t ∧ atT ((t - 1 : Nat) : Int) t ≤ 1099511627776 := by rw [n0]; omega
          (have zx1 := @hk1; have zx2 := @hw; have zx3 := @n0; have zx4 := @n1; all_goals (try ((first | (with_reducible refine wp_id ?_) | (with_reducible refine does_id ?_) | (with_reducible refine ops_id ?_)); refine walk ?_; (repeat' (first | exact trivial | with_reducible refine And.intro ?_ ?_)); all_goals (repeat (first | (with_reducible refine ImpB.mk fun hb => ?_) | (with_reducible refine ImpK.mk fun hK => ?_) | (with_reducible refine ImpF.mk fun hF => ?_) | (with_reducible refine ImpQ.mk fun hp => ?_) | (with_reducible refine AllE.mk fun p => ?_) | (with_reducible refine AllR.mk fun rest => ?_) | (with_reducible refine AllK.mk fun K => ?_))))); repeat' (with_reducible refine And.intro ?_ ?_))
          all_goals first | exact r1 | omega | skip
          any_goals ((try (refine w_seq fun K hK => ?_)); (try (refine w_block ?_)); refine w_loop (A := Nat) (fun i => i ≤ 1) (fun i => 1 - i) (fun i => [(14, .int .i64 i), (10, .int .i64 (if 1 ≤ i then 1 else 0)), (11, .int .i64 0), (12, .int .i64 0)]) (fun i => []) (0) (ws := ?ws4) (tk := ?tk4) ?hw4 ?ht4 ?hi_3 ?h0_3 ?LH4; (case hw4 => simp only [go_sem, decide_true, decide_false, Int.reduceToNat, Nat.min_eq_left, Nat.min_eq_right, Int.reducePow, Nat.reducePow, Int.reduceLE, Int.reduceLT, Int.reduceMul, Int.reduceAdd, Int.reduceSub, Int.reduceNeg, Bool.not_true, Bool.not_false, Bool.not_not, ↓reduceIte, Nat.reduceAdd, Nat.reduceSub, Nat.reduceMul, Nat.reduceEqDiff, reduceCtorEq, Nat.reduceLT, Nat.reduceLeDiff, Nat.reduceGT]; exact rfl); (case ht4 => simp only [go_sem, decide_true, decide_false, Int.reduceToNat, Nat.min_eq_left, Nat.min_eq_right, Int.reducePow, Nat.reducePow, Int.reduceLE, Int.reduceLT, Int.reduceMul, Int.reduceAdd, Int.reduceSub, Int.reduceNeg, Bool.not_true, Bool.not_false, Bool.not_not, ↓reduceIte, Nat.reduceAdd, Nat.reduceSub, Nat.reduceMul, Nat.reduceEqDiff, reduceCtorEq, Nat.reduceLT, Nat.reduceLeDiff, Nat.reduceGT]; exact rfl); (case' LH4 => rintro i E t hx hE ht; simp only [go_sem] at ht; subst ht; simp only [go_sem]; try dsimp only at hx))
          case hi_3 => exact Nat.zero_le _
          case h0_3 =>
            (focus (refine ⟨_, _, Gh.refl, [0, 1, 2], rfl, ?_⟩; (refine ⟨?_, ?_, ?_⟩ <;> simp only [go_sem, List.range, List.range.loop, List.nodup_cons, List.nodup_nil, List.mem_cons, List.not_mem_nil, or_false, or_self, decide_true, decide_false, Int.reduceToNat, Nat.min_eq_left, Nat.min_eq_right, Int.reducePow, Nat.reducePow, Int.reduceLE, Int.reduceLT, Int.reduceMul, Int.reduceAdd, Int.reduceSub, Int.reduceNeg, Bool.not_true, Bool.not_false, Bool.not_not, ↓reduceIte, Nat.reduceAdd, Nat.reduceSub, Nat.reduceMul, Nat.reduceEqDiff, reduceCtorEq, Nat.reduceLT, Nat.reduceLeDiff, Nat.reduceGT]); (try any_goals (refine ⟨?_, ?_⟩)); (try any_goals (with_reducible rfl))))
            all_goals first | rfl | trace_state
          case LH4 =>
            have hi : i ≤ 1 := hx
            obtain rfl | rfl : i = 0 ∨ i = 1 := by omega
            · have y1 : ([⟨(t : Int), 3, 0⟩] : List Rcy).getD 0 Rcy.zero = ⟨(t : Int), 3, 0⟩ := rfl
              have y2 : decide ((0 : Int) < ((1 : Nat) : Int)) = true := by decide
              have y3 : decide ((3 : Int) = 3) = true := by decide
              have y4 : decide ((3 : Int) = 4) = false := by decide
              (have zx1 := @y1; have zx2 := @y2; have zx3 := @y3; have zx4 := @y4; all_goals (try ((first | (with_reducible refine wp_id ?_) | (with_reducible refine does_id ?_) | (with_reducible refine ops_id ?_)); refine walk ?_; (repeat' (first | exact trivial | with_reducible refine And.intro ?_ ?_)); all_goals (repeat (first | (with_reducible refine ImpB.mk fun hb => ?_) | (with_reducible refine ImpK.mk fun hK => ?_) | (with_reducible refine ImpF.mk fun hF => ?_) | (with_reducible refine ImpQ.mk fun hp => ?_) | (with_reducible refine AllE.mk fun p => ?_) | (with_reducible refine AllR.mk fun rest => ?_) | (with_reducible refine AllK.mk fun K => ?_))))); repeat' (with_reducible refine And.intro ?_ ?_))
              all_goals first | decide | skip
              refine ⟨1, ⟨by decide, by decide⟩, ?_⟩
              (focus (refine ⟨_, _, Gh.refl, [0, 1, 2], rfl, ?_⟩; (refine ⟨?_, ?_, ?_⟩ <;> simp only [go_sem, List.range, List.range.loop, List.nodup_cons, List.nodup_nil, List.mem_cons, List.not_mem_nil, or_false, or_self, decide_true, decide_false, Int.reduceToNat, Nat.min_eq_left, Nat.min_eq_right, Int.reducePow, Nat.reducePow, Int.reduceLE, Int.reduceLT, Int.reduceMul, Int.reduceAdd, Int.reduceSub, Int.reduceNeg, Bool.not_true, Bool.not_false, Bool.not_not, ↓reduceIte, Nat.reduceAdd, Nat.reduceSub, Nat.reduceMul, Nat.reduceEqDiff, reduceCtorEq, Nat.reduceLT, Nat.reduceLeDiff, Nat.reduceGT]); (try any_goals (refine ⟨?_, ?_⟩)); (try any_goals (with_reducible rfl))))
              all_goals first | rfl | trace_state
            · have y2 : decide ((1 : Int) < ((1 : Nat) : Int)) = false := by decide
              have y3 : 1 ≤ 1 := by decide
              have d5 : decide (Int.tmod (t : Int) (w : Int) = 0) = true := by rw [← Int.ofNat_tmod]; exact decide_eq_true (by omega)
              have d6 : decide ((s : Int) ≤ (t : Int)) = false := decide_eq_false (by omega)
              (have zx1 := @hw; have zx2 := @y2; have zx3 := @y3; have zx4 := @d5; have zx5 := @d6; all_goals (try ((first | (with_reducible refine wp_id ?_) | (with_reducible refine does_id ?_) | (with_reducible refine ops_id ?_)); refine walk ?_; (repeat' (first | exact trivial | with_reducible refine And.intro ?_ ?_)); all_goals (repeat (first | (with_reducible refine ImpB.mk fun hb => ?_) | (with_reducible refine ImpK.mk fun hK => ?_) | (with_reducible refine ImpF.mk fun hF => ?_) | (with_reducible refine ImpQ.mk fun hp => ?_) | (with_reducible refine AllE.mk fun p => ?_) | (with_reducible refine AllR.mk fun rest => ?_) | (with_reducible refine AllK.mk fun K => ?_))))); repeat' (with_reducible refine And.intro ?_ ?_))
              all_goals first | omega | skip
              refine ⟨t + 1, ⟨⟨by omega, by omega⟩, by first | omega | (dsimp only; omega)⟩, ?_⟩
              (focus (refine ⟨_, _, Gh.refl, [0, 1], rfl, ?_⟩; (refine ⟨?_, ?_, ?_⟩ <;> simp only [go_sem, List.range, List.range.loop, List.nodup_cons, List.nodup_nil, List.mem_cons, List.not_mem_nil, or_false, or_self, decide_true, decide_false, Int.reduceToNat, Nat.min_eq_left, Nat.min_eq_right, Int.reducePow, Nat.reducePow, Int.reduceLE, Int.reduceLT, Int.reduceMul, Int.reduceAdd, Int.reduceSub, Int.reduceNeg, Bool.not_true, Bool.not_false, Bool.not_not, ↓reduceIte, Nat.reduceAdd, Nat.reduceSub, Nat.reduceMul, Nat.reduceEqDiff, reduceCtorEq, Nat.reduceLT, Nat.reduceLeDiff, Nat.reduceGT]); (try any_goals (refine ⟨?_, ?_⟩)); (try any_goals (with_reducible rfl))))
              have gA : wdT false w (t + 1) = t := f1.2.trans (if_pos (f1.1.1 c1))
              have gD : swD false s (t + 1) = swD false s t := by unfold swD; rw [decide_eq_false (by omega), decide_eq_false (by omega)]
              have gT : swT false s p (t + 1) = swT false s p t := by rw [swT_n (by omega), swT_n (by omega)]
              all_goals first | rfl | (simp only [gA, gD, gT]; rfl) | trace_state
      · have c3 : ¬ t % w = 0 := fun q => c1 (f1.1.2 q)
        by_cases c2 : s ≤ t
        · by_cases c4 : swD false s t = false ∨ p ≤ t - swT false s p t
          · have c5 := (f2.1.1 ⟨c2, c4⟩).2
            have e1 : decide ((w : Int) ≤ atT ((t - 1 : Nat) : Int) t - ((wdT false w t : Nat) : Int)) = false := decide_eq_false (by rw [n0]; omega)
            have e2 : decide ((s : Int) ≤ atT ((t - 1 : Nat) : Int) t - ((hrT false t : Nat) : Int)) = true := decide_eq_true (by rw [n0]; omega)
            have e3 := sw_yes n0 c4 l2
            have r1 : 0 ≤ atT ((t - 1 : Nat) : Int) t ∧ atT ((t - 1 : Nat) : Int) t ≤ 1099511627776 := by rw [n0]; omega
            (have zx1 := @hk1; have zx2 := @hw; have zx3 := @n0; have zx4 := @n1; all_goals (try ((first | (with_reducible refine wp_id ?_) | (with_reducible refine does_id ?_) | (with_reducible refine ops_id ?_)); refine walk ?_; (repeat' (first | exact trivial | with_reducible refine And.intro ?_ ?_)); all_goals (repeat (first | (with_reducible refine ImpB.mk fun hb => ?_) | (with_reducible refine ImpK.mk fun hK => ?_) | (with_reducible refine ImpF.mk fun hF => ?_) | (with_reducible refine ImpQ.mk fun hp => ?_) | (with_reducible refine AllE.mk fun p => ?_) | (with_reducible refine AllR.mk fun rest => ?_) | (with_reducible refine AllK.mk fun K => ?_))))); repeat' (with_reducible refine And.intro ?_ ?_))
            all_goals first | exact r1 | omega | skip
            any_goals ((try (refine w_seq fun K hK => ?_)); (try (refine w_block ?_)); refine w_loop (A := Nat) (fun i => i ≤ 2) (fun i => 2 - i) (fun i => [(14, .int .i64 i), (10, .int .i64 0), (11, .int .i64 (if 1 ≤ i then 1 else 0)), (12, .int .i64 (if 2 ≤ i then 1 else 0))]) (fun i => []) (0) (ws := ?ws5) (tk := ?tk5) ?hw5 ?ht5 ?hi_4 ?h0_4 ?LH5; (case hw5 => simp only [go_sem, decide_true, decide_false, Int.reduceToNat, Nat.min_eq_left, Nat.min_eq_right, Int.reducePow, Nat.reducePow, Int.reduceLE, Int.reduceLT, Int.reduceMul, Int.reduceAdd, Int.reduceSub, Int.reduceNeg, Bool.not_true, Bool.not_false, Bool.not_not, ↓reduceIte, Nat.reduceAdd, Nat.reduceSub, Nat.reduceMul, Nat.reduceEqDiff, reduceCtorEq, Nat.reduceLT, Nat.reduceLeDiff, Nat.reduceGT]; exact rfl); (case ht5 => simp only [go_sem, decide_true, decide_false, Int.reduceToNat, Nat.min_eq_left, Nat.min_eq_right, Int.reducePow, Nat.reducePow, Int.reduceLE, Int.reduceLT, Int.reduceMul, Int.reduceAdd, Int.reduceSub, Int.reduceNeg, Bool.not_true, Bool.not_false, Bool.not_not, ↓reduceIte, Nat.reduceAdd, Nat.reduceSub, Nat.reduceMul, Nat.reduceEqDiff, reduceCtorEq, Nat.reduceLT, Nat.reduceLeDiff, Nat.reduceGT]; exact rfl); (case' LH5 => rintro i E t hx hE ht; simp only [go_sem] at ht; subst ht; simp only [go_sem]; try dsimp only at hx))
            case hi_4 => exact Nat.zero_le _
            case h0_4 =>
              (focus (refine ⟨_, _, Gh.refl, [0, 1, 2], rfl, ?_⟩; (refine ⟨?_, ?_, ?_⟩ <;> simp only [go_sem, List.range, List.range.loop, List.nodup_cons, List.nodup_nil, List.mem_cons, List.not_mem_nil, or_false, or_self, decide_true, decide_false, Int.reduceToNat, Nat.min_eq_left, Nat.min_eq_right, Int.reducePow, Nat.reducePow, Int.reduceLE, Int.reduceLT, Int.reduceMul, Int.reduceAdd, Int.reduceSub, Int.reduceNeg, Bool.not_true, Bool.not_false, Bool.not_not, ↓reduceIte, Nat.reduceAdd, Nat.reduceSub, Nat.reduceMul, Nat.reduceEqDiff, reduceCtorEq, Nat.reduceLT, Nat.reduceLeDiff, Nat.reduceGT]); (try any_goals (refine ⟨?_, ?_⟩)); (try any_goals (with_reducible rfl))))
              all_goals first | rfl | trace_state
            case LH5 =>
              have hi : i ≤ 2 := hx
              obtain rfl | rfl | rfl : i = 0 ∨ i = 1 ∨ i = 2 := by omega
              · have y1 : ([⟨(t : Int), 4, 0⟩, ⟨(t : Int), 1, 0⟩] : List Rcy).getD 0 Rcy.zero = ⟨(t : Int), 4, 0⟩ := rfl
                have y2 : decide ((0 : Int) < ((2 : Nat) : Int)) = true := by decide
                have y3 : decide ((4 : Int) = 3) = false := by decide
                have y4 : decide ((4 : Int) = 4) = true := by decide
                (have zx1 := @y1; have zx2 := @y2; have zx3 := @y3; have zx4 := @y4; all_goals (try ((first | (with_reducible refine wp_id ?_) | (with_reducible refine does_id ?_) | (with_reducible refine ops_id ?_)); refine walk ?_; (repeat' (first | exact trivial | with_reducible refine And.intro ?_ ?_)); all_goals (repeat (first | (with_reducible refine ImpB.mk fun hb => ?_) | (with_reducible refine ImpK.mk fun hK => ?_) | (with_reducible refine ImpF.mk fun hF => ?_) | (with_reducible refine ImpQ.mk fun hp => ?_) | (with_reducible refine AllE.mk fun p => ?_) | (with_reducible refine AllR.mk fun rest => ?_) | (with_reducible refine AllK.mk fun K => ?_))))); repeat' (with_reducible refine And.intro ?_ ?_))
                all_goals first | decide | skip
                refine ⟨1, ⟨by decide, by decide⟩, ?_⟩
                (focus (refine ⟨_, _, Gh.refl, [0, 1, 2], rfl, ?_⟩; (refine ⟨?_, ?_, ?_⟩ <;> simp only [go_sem, List.range, List.range.loop, List.nodup_cons, List.nodup_nil, List.mem_cons, List.not_mem_nil, or_false, or_self, decide_true, decide_false, Int.reduceToNat, Nat.min_eq_left, Nat.min_eq_right, Int.reducePow, Nat.reducePow, Int.reduceLE, Int.reduceLT, Int.reduceMul, Int.reduceAdd, Int.reduceSub, Int.reduceNeg, Bool.not_true, Bool.not_false, Bool.not_not, ↓reduceIte, Nat.reduceAdd, Nat.reduceSub, Nat.reduceMul, Nat.reduceEqDiff, reduceCtorEq, Nat.reduceLT, Nat.reduceLeDiff, Nat.reduceGT]); (try any_goals (refine ⟨?_, ?_⟩)); (try any_goals (with_reducible rfl))))
                all_goals first | rfl | trace_state
              · have y1 : ([⟨(t : Int), 4, 0⟩, ⟨(t : Int), 1, 0⟩] : List Rcy).getD 1 Rcy.zero = ⟨(t : Int), 1, 0⟩ := rfl
                have y2 : decide ((1 : Int) < ((2 : Nat) : Int)) = true := by decide
                have y3 : decide ((1 : Int) = 3) = false := by decide
                have y4 : decide ((1 : Int) = 4) = false := by decide
                (have zx1 := @y1; have zx2 := @y2; have zx3 := @y3; have zx4 := @y4; all_goals (try ((first | (with_reducible refine wp_id ?_) | (with_reducible refine does_id ?_) | (with_reducible refine ops_id ?_)); refine walk ?_; (repeat' (first | exact trivial | with_reducible refine And.intro ?_ ?_)); all_goals (repeat (first | (with_reducible refine ImpB.mk fun hb => ?_) | (with_reducible refine ImpK.mk fun hK => ?_) | (with_reducible refine ImpF.mk fun hF => ?_) | (with_reducible refine ImpQ.mk fun hp => ?_) | (with_reducible refine AllE.mk fun p => ?_) | (with_reducible refine AllR.mk fun rest => ?_) | (with_reducible refine AllK.mk fun K => ?_))))); repeat' (with_reducible refine And.intro ?_ ?_))
                all_goals first | decide | skip
                refine ⟨2, ⟨by decide, by decide⟩, ?_⟩
                (focus (refine ⟨_, _, Gh.refl, [0, 1, 2], rfl, ?_⟩; (refine ⟨?_, ?_, ?_⟩ <;> simp only [go_sem, List.range, List.range.loop, List.nodup_cons, List.nodup_nil, List.mem_cons, List.not_mem_nil, or_false, or_self, decide_true, decide_false, Int.reduceToNat, Nat.min_eq_left, Nat.min_eq_right, Int.reducePow, Nat.reducePow, Int.reduceLE, Int.reduceLT, Int.reduceMul, Int.reduceAdd, Int.reduceSub, Int.reduceNeg, Bool.not_true, Bool.not_false, Bool.not_not, ↓reduceIte, Nat.reduceAdd, Nat.reduceSub, Nat.reduceMul, Nat.reduceEqDiff, reduceCtorEq, Nat.reduceLT, Nat.reduceLeDiff, Nat.reduceGT]); (try any_goals (refine ⟨?_, ?_⟩)); (try any_goals (with_reducible rfl))))
                all_goals first | rfl | trace_state
              · have y2 : decide (((2 : Nat) : Int) < ((2 : Nat) : Int)) = false := by decide
                have y3 : 1 ≤ 2 := by decide
                have y4 : 2 ≤ 2 := by decide
                have d5 : decide (Int.tmod (t : Int) (w : Int) = 0) = false := by rw [← Int.ofNat_tmod]; exact decide_eq_false (by omega)
                have d6 : decide ((s : Int) ≤ (t : Int)) = true := decide_eq_true (by omega)
                have d7 : IntKind.i64.wrap ((t : Int) - (s : Int)) = ((t - s : Nat) : Int) := by rw [wrap_i64 _ (by omega) (by omega)]; omega
                have d8 : decide (Int.tmod ((t - s : Nat) : Int) (p : Int) = 0) = true := by rw [← Int.ofNat_tmod]; exact decide_eq_true (by omega)
                (have zx1 := @hw; have zx2 := @y2; have zx3 := @y3; have zx4 := @y4; have zx5 := @d5; have zx6 := @d6; have zx7 := @d7; have zx8 := @d8; all_goals (try ((first | (with_reducible refine wp_id ?_) | (with_reducible refine does_id ?_) | (with_reducible refine ops_id ?_)); refine walk ?_; (repeat' (first | exact trivial | with_reducible refine And.intro ?_ ?_)); all_goals (repeat (first | (with_reducible refine ImpB.mk fun hb => ?_) | (with_reducible refine ImpK.mk fun hK => ?_) | (with_reducible refine ImpF.mk fun hF => ?_) | (with_reducible refine ImpQ.mk fun hp => ?_) | (with_reducible refine AllE.mk fun p => ?_) | (with_reducible refine AllR.mk fun rest => ?_) | (with_reducible refine AllK.mk fun K => ?_))))); repeat' (with_reducible refine And.intro ?_ ?_))
                all_goals first | omega | skip
                refine ⟨t + 1, ⟨⟨by omega, by omega⟩, by first | omega | (dsimp only; omega)⟩, ?_⟩
                (focus (refine ⟨_, _, Gh.refl, [0, 1], rfl, ?_⟩; (refine ⟨?_, ?_, ?_⟩ <;> simp only [go_sem, List.range, List.range.loop, List.nodup_cons, List.nodup_nil, List.mem_cons, List.not_mem_nil, or_false, or_self, decide_true, decide_false, Int.reduceToNat, Nat.min_eq_left, Nat.min_eq_right, Int.reducePow, Nat.reducePow, Int.reduceLE, Int.reduceLT, Int.reduceMul, Int.reduceAdd, Int.reduceSub, Int.reduceNeg, Bool.not_true, Bool.not_false, Bool.not_not, ↓reduceIte, Nat.reduceAdd, Nat.reduceSub, Nat.reduceMul, Nat.reduceEqDiff, reduceCtorEq, Nat.reduceLT, Nat.reduceLeDiff, Nat.reduceGT]); (try any_goals (refine ⟨?_, ?_⟩)); (try any_goals (with_reducible rfl))))
                have gA : wdT false w (t + 1) = wdT false w t := f1.2.trans (if_neg (fun q => c1 (f1.1.2 q)))
                have gD : swD false s (t + 1) = true := f2.2.1.trans (decide_eq_true c2)
                have gT : swT false s p (t + 1) = t := (f2.2.2 c2).trans (if_pos (f2.1.1 ⟨c2, c4⟩).2)
                all_goals first | rfl | (simp only [gA, gD, gT]; rfl) | trace_state
          · have c5 : ¬ (t - s) % p = 0 := fun q => c4 (f2.1.2 ⟨c2, q⟩).2
            have e1 : decide ((w : Int) ≤ atT ((t - 1 : Nat) : Int) t - ((wdT false w t : Nat) : Int)) = false := decide_eq_false (by rw [n0]; omega)
            have e2 : decide ((s : Int) ≤ atT ((t - 1 : Nat) : Int) t - ((hrT false t : Nat) : Int)) = true := decide_eq_true (by rw [n0]; omega)
            have e3 := sw_no n0 c4 l2
            have r1 : 0 ≤ atT ((t - 1 : Nat) : Int) t ∧ atT ((t - 1 : Nat) : Int) t ≤ 1099511627776 := by rw [n0]; omega
            (have zx1 := @hk1; have zx2 := @hw; have zx3 := @n0; have zx4 := @n1; all_goals (try ((first | (with_reducible refine wp_id ?_) | (with_reducible refine does_id ?_) | (with_reducible refine ops_id ?_)); refine walk ?_; (repeat' (first | exact trivial | with_reducible refine And.intro ?_ ?_)); all_goals (repeat (first | (with_reducible refine ImpB.mk fun hb => ?_) | (with_reducible refine ImpK.mk fun hK => ?_) | (with_reducible refine ImpF.mk fun hF => ?_) | (with_reducible refine ImpQ.mk fun hp => ?_) | (with_reducible refine AllE.mk fun p => ?_) | (with_reducible refine AllR.mk fun rest => ?_) | (with_reducible refine AllK.mk fun K => ?_))))); repeat' (with_reducible refine And.intro ?_ ?_))
            all_goals first | exact r1 | omega | skip
            any_goals ((try (refine w_seq fun K hK => ?_)); (try (refine w_block ?_)); refine w_loop (A := Nat) (fun i => i ≤ 0) (fun i => 0 - i) (fun i => [(14, .int .i64 i), (10, .int .i64 0), (11, .int .i64 0), (12, .int .i64 0)]) (fun i => []) (0) (ws := ?ws6) (tk := ?tk6) ?hw6 ?ht6 ?hi_5 ?h0_5 ?LH6; (case hw6 => simp only [go_sem, decide_true, decide_false, Int.reduceToNat, Nat.min_eq_left, Nat.min_eq_right, Int.reducePow, Nat.reducePow, Int.reduceLE, Int.reduceLT, Int.reduceMul, Int.reduceAdd, Int.reduceSub, Int.reduceNeg, Bool.not_true, Bool.not_false, Bool.not_not, ↓reduceIte, Nat.reduceAdd, Nat.reduceSub, Nat.reduceMul, Nat.reduceEqDiff, reduceCtorEq, Nat.reduceLT, Nat.reduceLeDiff, Nat.reduceGT]; exact rfl); (case ht6 => simp only [go_sem, decide_true, decide_false, Int.reduceToNat, Nat.min_eq_left, Nat.min_eq_right, Int.reducePow, Nat.reducePow, Int.reduceLE, Int.reduceLT, Int.reduceMul, Int.reduceAdd, Int.reduceSub, Int.reduceNeg, Bool.not_true, Bool.not_false, Bool.not_not, ↓reduceIte, Nat.reduceAdd, Nat.reduceSub, Nat.reduceMul, Nat.reduceEqDiff, reduceCtorEq, Nat.reduceLT, Nat.reduceLeDiff, Nat.reduceGT]; exact rfl); (case' LH6 => rintro i E t hx hE ht; simp only [go_sem] at ht; subst ht; simp only [go_sem]; try dsimp only at hx))
            case hi_5 => exact Nat.zero_le _
            case h0_5 =>
              (focus (refine ⟨_, _, Gh.refl, [0, 1], rfl, ?_⟩; (refine ⟨?_, ?_, ?_⟩ <;> simp only [go_sem, List.range, List.range.loop, List.nodup_cons, List.nodup_nil, List.mem_cons, List.not_mem_nil, or_false, or_self, decide_true, decide_false, Int.reduceToNat, Nat.min_eq_left, Nat.min_eq_right, Int.reducePow, Nat.reducePow, Int.reduceLE, Int.reduceLT, Int.reduceMul, Int.reduceAdd, Int.reduceSub, Int.reduceNeg, Bool.not_true, Bool.not_false, Bool.not_not, ↓reduceIte, Nat.reduceAdd, Nat.reduceSub, Nat.reduceMul, Nat.reduceEqDiff, reduceCtorEq, Nat.reduceLT, Nat.reduceLeDiff, Nat.reduceGT]); (try any_goals (refine ⟨?_, ?_⟩)); (try any_goals (with_reducible rfl))))
              all_goals first | rfl | trace_state
            case LH6 =>
              have hi : i ≤ 0 := hx
              obtain rfl : i = 0 := by omega
              · have y2 : decide ((0 : Int) < ((0 : Nat) : Int)) = false := by decide
                have d5 : decide (Int.tmod (t : Int) (w : Int) = 0) = false := by rw [← Int.ofNat_tmod]; exact decide_eq_false (by omega)
                have d6 : decide ((s : Int) ≤ (t : Int)) = true := decide_eq_true (by omega)
                have d7 : IntKind.i64.wrap ((t : Int) - (s : Int)) = ((t - s : Nat) : Int) := by rw [wrap_i64 _ (by omega) (by omega)]; omega
                have d8 : decide (Int.tmod ((t - s : Nat) : Int) (p : Int) = 0) = false := by rw [← Int.ofNat_tmod]; exact decide_eq_false (by omega)
                (have zx1 := @hw; have zx2 := @y2; have zx3 := @d5; have zx4 := @d6; have zx5 := @d7; have zx6 := @d8; all_goals (try ((first | (with_reducible refine wp_id ?_) | (with_reducible refine does_id ?_) | (with_reducible refine ops_id ?_)); refine walk ?_; (repeat' (first | exact trivial | with_reducible refine And.intro ?_ ?_)); all_goals (repeat (first | (with_reducible refine ImpB.mk fun hb => ?_) | (with_reducible refine ImpK.mk fun hK => ?_) | (with_reducible refine ImpF.mk fun hF => ?_) | (with_reducible refine ImpQ.mk fun hp => ?_) | (with_reducible refine AllE.mk fun p => ?_) | (with_reducible refine AllR.mk fun rest => ?_) | (with_reducible refine AllK.mk fun K => ?_))))); repeat' (with_reducible refine And.intro ?_ ?_))
                all_goals first | omega | skip
                refine ⟨t + 1, ⟨⟨by omega, by omega⟩, by first | omega | (dsimp only; omega)⟩, ?_⟩
                (focus (refine ⟨_, _, Gh.refl, [0, 1], rfl, ?_⟩; (refine ⟨?_, ?_, ?_⟩ <;> simp only [go_sem, List.range, List.range.loop, List.nodup_cons, List.nodup_nil, List.mem_cons, List.not_mem_nil, or_false, or_self, decide_true, decide_false, Int.reduceToNat, Nat.min_eq_left, Nat.min_eq_right, Int.reducePow, Nat.reducePow, Int.reduceLE, Int.reduceLT, Int.reduceMul, Int.reduceAdd, Int.reduceSub, Int.reduceNeg, Bool.not_true, Bool.not_false, Bool.not_not, ↓reduceIte, Nat.reduceAdd, Nat.reduceSub, Nat.reduceMul, Nat.reduceEqDiff, reduceCtorEq, Nat.reduceLT, Nat.reduceLeDiff, Nat.reduceGT]); (try any_goals (refine ⟨?_, ?_⟩)); (try any_goals (with_reducible rfl))))
                have gA : wdT false w (t + 1) = wdT false w t := f1.2.trans (if_neg (fun q => c1 (f1.1.2 q)))
                have gD : swD false s (t + 1) = swD false s t := by have q := f2.2.1.trans (decide_eq_true c2); rw [q]; cases q2 : swD false s t; exact absurd (.inl q2) c4; rfl
                have gT : swT false s p (t + 1) = swT false s p t := (f2.2.2 c2).trans (if_neg (fun q => c4 (f2.1.2 ⟨c2, q⟩).2))
                all_goals first | rfl | (simp only [gA, gD, gT]; rfl) | trace_state
        · skip
          have e1 : decide ((w : Int) ≤ atT ((t - 1 : Nat) : Int) t - ((wdT false w t : Nat) : Int)) = false := decide_eq_false (by rw [n0]; omega)
          have e2 : decide ((s : Int) ≤ atT ((t - 1 : Nat) : Int) t - ((hrT false t : Nat) : Int)) = false := decide_eq_false (by rw [n0]; omega)
          have r1 : 0 ≤ atT ((t - 1 : Nat) : Int) t ∧ atT ((t - 1 : Nat) : Int) t ≤ 1099511627776 := by rw [n0]; omega
          (have zx1 := @hk1; have zx2 := @hw; have zx3 := @n0; have zx4 := @n1; all_goals (try ((first | (with_reducible refine wp_id ?_) | (with_reducible refine does_id ?_) | (with_reducible refine ops_id ?_)); refine walk ?_; (repeat' (first | exact trivial | with_reducible refine And.intro ?_ ?_)); all_goals (repeat (first | (with_reducible refine ImpB.mk fun hb => ?_) | (with_reducible refine ImpK.mk fun hK => ?_) | (with_reducible refine ImpF.mk fun hF => ?_) | (with_reducible refine ImpQ.mk fun hp => ?_) | (with_reducible refine AllE.mk fun p => ?_) | (with_reducible refine AllR.mk fun rest => ?_) | (with_reducible refine AllK.mk fun K => ?_))))); repeat' (with_reducible refine And.intro ?_ ?_))
          all_goals first | exact r1 | omega | skip
          any_goals ((try (refine w_seq fun K hK => ?_)); (try (refine w_block ?_)); refine w_loop (A := Nat) (fun i => i ≤ 0) (fun i => 0 - i) (fun i => [(14, .int .i64 i), (10, .int .i64 0), (11, .int .i64 0), (12, .int .i64 0)]) (fun i => []) (0) (ws := ?ws7) (tk := ?tk7) ?hw7 ?ht7 ?hi_6 ?h0_6 ?LH7; (case hw7 => simp only [go_sem, decide_true, decide_false, Int.reduceToNat, Nat.min_eq_left, Nat.min_eq_right, Int.reducePow, Nat.reducePow, Int.reduceLE, Int.reduceLT, Int.reduceMul, Int.reduceAdd, Int.reduceSub, Int.reduceNeg, Bool.not_true, Bool.not_false, Bool.not_not, ↓reduceIte, Nat.reduceAdd, Nat.reduceSub, Nat.reduceMul, Nat.reduceEqDiff, reduceCtorEq, Nat.reduceLT, Nat.reduceLeDiff, Nat.reduceGT]; exact rfl); (case ht7 => simp only [go_sem, decide_true, decide_false, Int.reduceToNat, Nat.min_eq_left, Nat.min_eq_right, Int.reducePow, Nat.reducePow, Int.reduceLE, Int.reduceLT, Int.reduceMul, Int.reduceAdd, Int.reduceSub, Int.reduceNeg, Bool.not_true, Bool.not_false, Bool.not_not, ↓reduceIte, Nat.reduceAdd, Nat.reduceSub, Nat.reduceMul, Nat.reduceEqDiff, reduceCtorEq, Nat.reduceLT, Nat.reduceLeDiff, Nat.reduceGT]; exact rfl); (case' LH7 => rintro i E t hx hE ht; simp only [go_sem] at ht; subst ht; simp only [go_sem]; try dsimp only at hx))
          case hi_6 => exact Nat.zero_le _
          case h0_6 =>
            (focus (refine ⟨_, _, Gh.refl, [0, 1], rfl, ?_⟩; (refine ⟨?_, ?_, ?_⟩ <;> simp only [go_sem, List.range, List.range.loop, List.nodup_cons, List.nodup_nil, List.mem_cons, List.not_mem_nil, or_false, or_self, decide_true, decide_false, Int.reduceToNat, Nat.min_eq_left, Nat.min_eq_right, Int.reducePow, Nat.reducePow, Int.reduceLE, Int.reduceLT, Int.reduceMul, Int.reduceAdd, Int.reduceSub, Int.reduceNeg, Bool.not_true, Bool.not_false, Bool.not_not, ↓reduceIte, Nat.reduceAdd, Nat.reduceSub, Nat.reduceMul, Nat.reduceEqDiff, reduceCtorEq, Nat.reduceLT, Nat.reduceLeDiff, Nat.reduceGT]); (try any_goals (refine ⟨?_, ?_⟩)); (try any_goals (with_reducible rfl))))
            all_goals first | rfl | trace_state
          case LH7 =>
            have hi : i ≤ 0 := hx
            obtain rfl : i = 0 := by omega
            · have y2 : decide ((0 : Int) < ((0 : Nat) : Int)) = false := by decide
              have d5 : decide (Int.tmod (t : Int) (w : Int) = 0) = false := by rw [← Int.ofNat_tmod]; exact decide_eq_false (by omega)
              have d6 : decide ((s : Int) ≤ (t : Int)) = false := decide_eq_false (by omega)
              (have zx1 := @hw; have zx2 := @y2; have zx3 := @d5; have zx4 := @d6; all_goals (try ((first | (with_reducible refine wp_id ?_) | (with_reducible refine does_id ?_) | (with_reducible refine ops_id ?_)); refine walk ?_; (repeat' (first | exact trivial | with_reducible refine And.intro ?_ ?_)); all_goals (repeat (first | (with_reducible refine ImpB.mk fun hb => ?_) | (with_reducible refine ImpK.mk fun hK => ?_) | (with_reducible refine ImpF.mk fun hF => ?_) | (with_reducible refine ImpQ.mk fun hp => ?_) | (with_reducible refine AllE.mk fun p => ?_) | (with_reducible refine AllR.mk fun rest => ?_) | (with_reducible refine AllK.mk fun K => ?_))))); repeat' (with_reducible refine And.intro ?_ ?_))
              all_goals first | omega | skip
              refine ⟨t + 1, ⟨⟨by omega, by omega⟩, by first | omega | (dsimp only; omega)⟩, ?_⟩
              (focus (refine ⟨_, _, Gh.refl, [0, 1], rfl, ?_⟩; (refine ⟨?_, ?_, ?_⟩ <;> simp only [go_sem, List.range, List.range.loop, List.nodup_cons, List.nodup_nil, List.mem_cons, List.not_mem_nil, or_false, or_self, decide_true, decide_false, Int.reduceToNat, Nat.min_eq_left, Nat.min_eq_right, Int.reducePow, Nat.reducePow, Int.reduceLE, Int.reduceLT, Int.reduceMul, Int.reduceAdd, Int.reduceSub, Int.reduceNeg, Bool.not_true, Bool.not_false, Bool.not_not, ↓reduceIte, Nat.reduceAdd, Nat.reduceSub, Nat.reduceMul, Nat.reduceEqDiff, reduceCtorEq, Nat.reduceLT, Nat.reduceLeDiff, Nat.reduceGT]); (try any_goals (refine ⟨?_, ?_⟩)); (try any_goals (with_reducible rfl))))
              have gA : wdT false w (t + 1) = wdT false w t := f1.2.trans (if_neg (fun q => c1 (f1.1.2 q)))
              have gD : swD false s (t + 1) = swD false s t := by unfold swD; rw [decide_eq_false (by omega), decide_eq_false (by omega)]
              have gT : swT false s p (t + 1) = swT false s p t := by rw [swT_n (by omega), swT_n (by omega)]
              all_goals first | rfl | (simp only [gA, gD, gT]; rfl) | trace_state
    · have hk1 : decide ((t : Int) ≤ 200) = false := decide_eq_false (by omega)
      (have zx1 := @hk1; all_goals (try ((first | (with_reducible refine wp_id ?_) | (with_reducible refine does_id ?_) | (with_reducible refine ops_id ?_)); refine walk ?_; (repeat' (first | exact trivial | with_reducible refine And.intro ?_ ?_)); all_goals (repeat (first | (with_reducible refine ImpB.mk fun hb => ?_) | (with_reducible refine ImpK.mk fun hK => ?_) | (with_reducible refine ImpF.mk fun hF => ?_) | (with_reducible refine ImpQ.mk fun hp => ?_) | (with_reducible refine AllE.mk fun p => ?_) | (with_reducible refine AllR.mk fun rest => ?_) | (with_reducible refine AllK.mk fun K => ?_))))); repeat' (with_reducible refine And.intro ?_ ?_))
      (focus (refine ⟨_, _, Gh.refl, [], rfl, ?_⟩; (refine ⟨?_, ?_, ?_⟩ <;> simp only [go_sem, List.range, List.range.loop, List.nodup_cons, List.nodup_nil, List.mem_cons, List.not_mem_nil, or_false, or_self, decide_true, decide_false, Int.reduceToNat, Nat.min_eq_left, Nat.min_eq_right, Int.reducePow, Nat.reducePow, Int.reduceLE, Int.reduceLT, Int.reduceMul, Int.reduceAdd, Int.reduceSub, Int.reduceNeg, Bool.not_true, Bool.not_false, Bool.not_not, ↓reduceIte, Nat.reduceAdd, Nat.reduceSub, Nat.reduceMul, Nat.reduceEqDiff, reduceCtorEq, Nat.reduceLT, Nat.reduceLeDiff, Nat.reduceGT]); (try any_goals (refine ⟨?_, ?_⟩)); (try any_goals (with_reducible rfl))))
theorem b_rec01 (w s p : Nat) (hw0 : 1 ≤ w ∧ w ≤ 1099511627776) (hs0 : 1 ≤ s ∧ s ≤ 1099511627776) (hp0 : 1 ≤ p ∧ p ≤ 1099511627776) : DoesK Try.prog 0 4 [.agg [.int .i64 w, .int .i64 s, .int .i64 p], .bool false, .bool true] [] (EndF 0 (.bool true) []) := by
  refine DoesK.close ?_
  have hr : rightB w s p 0 = true := right_iff.2 (by omega)
  refine w_body (rs := [.tmp 6]) (tm := [.agg [.int .i64 w, .int .i64 s, .int .i64 p], .bool false, .bool true, .any, .any, .any, .any, .any, .any, .any, .any, .any, .any, .any, .any, .any, .any, .any, .any, .any, .any, .any, .any, .any, .any, .any, .any, .any, .any, .any, .any, .any, .any, .any, .any, .any, .any, .any, .any, .any, .any, .any, .any, .any, .any, .any, .any, .any, .any, .any, .any, .any, .any, .any, .any, .any, .any, .any, .any, .any, .any, .any, .any, .any, .any, .any, .any, .any, .any, .any, .any, .any, .any, .any, .any, .any, .any, .any, .any, .any, .any, .any, .any, .any, .any, .any, .any, .any, .any, .any, .any, .any, .any, .any, .any, .any, .any, .any, .any, .any, .any, .any, .any, .any, .any, .any, .any, .any, .any, .any, .any]) fn_4 rfl rfl rfl rfl fun R hR => ?_
  (have zx1 := @hr; all_goals (try ((first | (with_reducible refine wp_id ?_) | (with_reducible refine does_id ?_) | (with_reducible refine ops_id ?_)); refine walk ?_; (repeat' (first | exact trivial | with_reducible refine And.intro ?_ ?_)); all_goals (repeat (first | (with_reducible refine ImpB.mk fun hb => ?_) | (with_reducible refine ImpK.mk fun hK => ?_) | (with_reducible refine ImpF.mk fun hF => ?_) | (with_reducible refine ImpQ.mk fun hp => ?_) | (with_reducible refine AllE.mk fun p => ?_) | (with_reducible refine AllR.mk fun rest => ?_) | (with_reducible refine AllK.mk fun K => ?_))))); repeat' (with_reducible refine And.intro ?_ ?_))
  any_goals ((try (refine w_seq fun K hK => ?_)); (try (refine w_block ?_)); refine w_loop (A := Nat) (fun t => 1 ≤ t ∧ t ≤ 201) (fun t => 201 - t) (fun t => [(9, .int .i64 t)]) (fun t => [(1, .pack (Gd w s p ((t - 1 : Nat) : Int) ((wdT false w t : Nat) : Int) ((hrT true t : Nat) : Int) (swD true s t) ((swT true s p t : Nat) : Int) [] false))]) (1) (ws := ?ws8) (tk := ?tk8) ?hw8 ?ht8 ?hi ?h0 ?LH8; (case hw8 => simp only [go_sem, decide_true, decide_false, Int.reduceToNat, Nat.min_eq_left, Nat.min_eq_right, Int.reducePow, Nat.reducePow, Int.reduceLE, Int.reduceLT, Int.reduceMul, Int.reduceAdd, Int.reduceSub, Int.reduceNeg, Bool.not_true, Bool.not_false, Bool.not_not, ↓reduceIte, Nat.reduceAdd, Nat.reduceSub, Nat.reduceMul, Nat.reduceEqDiff, reduceCtorEq, Nat.reduceLT, Nat.reduceLeDiff, Nat.reduceGT]; exact rfl); (case ht8 => simp only [go_sem, decide_true, decide_false, Int.reduceToNat, Nat.min_eq_left, Nat.min_eq_right, Int.reducePow, Nat.reducePow, Int.reduceLE, Int.reduceLT, Int.reduceMul, Int.reduceAdd, Int.reduceSub, Int.reduceNeg, Bool.not_true, Bool.not_false, Bool.not_not, ↓reduceIte, Nat.reduceAdd, Nat.reduceSub, Nat.reduceMul, Nat.reduceEqDiff, reduceCtorEq, Nat.reduceLT, Nat.reduceLeDiff, Nat.reduceGT]; exact rfl); (case' LH8 => rintro t E t hx hE ht; simp only [go_sem] at ht; subst ht; simp only [go_sem]; try dsimp only at hx))
  case hi => exact ⟨Nat.le_refl _, by omega⟩
  case h0 =>
    rw [wdT_1, swD_1 _ _ hs0.1, swT_1 _ _ _ hs0.1]
    (focus (refine ⟨_, _, Gh.refl, [0, 1], rfl, ?_⟩; (refine ⟨?_, ?_, ?_⟩ <;> simp only [go_sem, List.range, List.range.loop, List.nodup_cons, List.nodup_nil, List.mem_cons, List.not_mem_nil, or_false, or_self, decide_true, decide_false, Int.reduceToNat, Nat.min_eq_left, Nat.min_eq_right, Int.reducePow, Nat.reducePow, Int.reduceLE, Int.reduceLT, Int.reduceMul, Int.reduceAdd, Int.reduceSub, Int.reduceNeg, Bool.not_true, Bool.not_false, Bool.not_not, ↓reduceIte, Nat.reduceAdd, Nat.reduceSub, Nat.reduceMul, Nat.reduceEqDiff, reduceCtorEq, Nat.reduceLT, Nat.reduceLeDiff, Nat.reduceGT]); (try any_goals (refine ⟨?_, ?_⟩)); (try any_goals (with_reducible rfl))))
    all_goals rfl
  case LH8 =>
    obtain ⟨ht1, ht2⟩ := hx
    by_cases hk : t ≤ 200
    · have hk1 : decide ((t : Int) ≤ 200) = true := decide_eq_true (by omega)
      have hw : IntKind.i64.wrap ((t : Int) + 1) = ((t + 1 : Nat) : Int) := by rw [wrap_i64 _ (by omega) (by omega)]; omega
      have n0 := atT_up ht1 ht2
      have n1 := atT_id ht2
      have l1 := wdT_le false w t
      have l2 := swT_le true s p t
      have l3 := hrT_le true t
      have l4 : hrT false t = 0 := rfl
      have f1 := wd_fire (W := w) (t := t) hw0.1 ht1
      have f2 := sw_fire (S := s) (P := p) (t := t) hs0.1 hp0.1 ht1
      by_cases c1 : w ≤ t - wdT false w t
      · have c3 := f1.1.1 c1
        have e1 : decide ((w : Int) ≤ atT (t : Int) t - ((wdT false w t : Nat) : Int)) = true := decide_eq_true (by rw [n1]; omega)
        have e2 : decide ((s : Int) ≤ atT (t : Int) t - (t : Int)) = false := decide_eq_false (by rw [n1]; omega)
        have r1 : 0 ≤ atT (t : Int) t ∧ atT (t : Int) t ≤ 1099511627776 := by rw [n1]; omega
        (have zx1 := @hk1; have zx2 := @hw; have zx3 := @n0; have zx4 := @n1; all_goals (try ((first | (with_reducible refine wp_id ?_) | (with_reducible refine does_id ?_) | (with_reducible refine ops_id ?_)); refine walk ?_; (repeat' (first | exact trivial | with_reducible refine And.intro ?_ ?_)); all_goals (repeat (first | (with_reducible refine ImpB.mk fun hb => ?_) | (with_reducible refine ImpK.mk fun hK => ?_) | (with_reducible refine ImpF.mk fun hF => ?_) | (with_reducible refine ImpQ.mk fun hp => ?_) | (with_reducible refine AllE.mk fun p => ?_) | (with_reducible refine AllR.mk fun rest => ?_) | (with_reducible refine AllK.mk fun K => ?_))))); repeat' (with_reducible refine And.intro ?_ ?_))
        all_goals first | exact r1 | omega | skip
        any_goals ((try (refine w_seq fun K hK => ?_)); (try (refine w_block ?_)); refine w_loop (A := Nat) (fun i => i ≤ 1) (fun i => 1 - i) (fun i => [(14, .int .i64 i), (10, .int .i64 (if 1 ≤ i then 1 else 0)), (11, .int .i64 0), (12, .int .i64 0)]) (fun i => []) (0) (ws := ?ws9) (tk := ?tk9) ?hw9 ?ht9 ?hi_1 ?h0_1 ?LH9; (case hw9 => simp only [go_sem, decide_true, decide_false, Int.reduceToNat, Nat.min_eq_left, Nat.min_eq_right, Int.reducePow, Nat.reducePow, Int.reduceLE, Int.reduceLT, Int.reduceMul, Int.reduceAdd, Int.reduceSub, Int.reduceNeg, Bool.not_true, Bool.not_false, Bool.not_not, ↓reduceIte, Nat.reduceAdd, Nat.reduceSub, Nat.reduceMul, Nat.reduceEqDiff, reduceCtorEq, Nat.reduceLT, Nat.reduceLeDiff, Nat.reduceGT]; exact rfl); (case ht9 => simp only [go_sem, decide_true, decide_false, Int.reduceToNat, Nat.min_eq_left, Nat.min_eq_right, Int.reducePow, Nat.reducePow, Int.reduceLE, Int.reduceLT, Int.reduceMul, Int.reduceAdd, Int.reduceSub, Int.reduceNeg, Bool.not_true, Bool.not_false, Bool.not_not, ↓reduceIte, Nat.reduceAdd, Nat.reduceSub, Nat.reduceMul, Nat.reduceEqDiff, reduceCtorEq, Nat.reduceLT, Nat.reduceLeDiff, Nat.reduceGT]; exact rfl); (case' LH9 => rintro i E t hx hE ht; simp only [go_sem] at ht; subst ht; simp only [go_sem]; try dsimp only at hx))
        case hi_1 => exact Nat.zero_le _
        case h0_1 =>
          (focus (refine ⟨_, _, Gh.refl, [0, 1, 2], rfl, ?_⟩; (refine ⟨?_, ?_, ?_⟩ <;> simp only [go_sem, List.range, List.range.loop, List.nodup_cons, List.nodup_nil, List.mem_cons, List.not_mem_nil, or_false, or_self, decide_true, decide_false, Int.reduceToNat, Nat.min_eq_left, Nat.min_eq_right, Int.reducePow, Nat.reducePow, Int.reduceLE, Int.reduceLT, Int.reduceMul, Int.reduceAdd, Int.reduceSub, Int.reduceNeg, Bool.not_true, Bool.not_false, Bool.not_not, ↓reduceIte, Nat.reduceAdd, Nat.reduceSub, Nat.reduceMul, Nat.reduceEqDiff, reduceCtorEq, Nat.reduceLT, Nat.reduceLeDiff, Nat.reduceGT]); (try any_goals (refine ⟨?_, ?_⟩)); (try any_goals (with_reducible rfl))))
          all_goals first | rfl | trace_state
        case LH9 =>
          have hi : i ≤ 1 := hx
          obtain rfl | rfl : i = 0 ∨ i = 1 := by omega
          · have y1 : ([⟨(t : Int), 3, 0⟩] : List Rcy).getD 0 Rcy.zero = ⟨(t : Int), 3, 0⟩ := rfl
            have y2 : decide ((0 : Int) < ((1 : Nat) : Int)) = true := by decide
            have y3 : decide ((3 : Int) = 3) = true := by decide
            have y4 : decide ((3 : Int) = 4) = false := by decide
            (have zx1 := @y1; have zx2 := @y2; have zx3 := @y3; have zx4 := @y4; all_goals (try ((first | (with_reducible refine wp_id ?_) | (with_reducible refine does_id ?_) | (with_reducible refine ops_id ?_)); refine walk ?_; (repeat' (first | exact trivial | with_reducible refine And.intro ?_ ?_)); all_goals (repeat (first | (with_reducible refine ImpB.mk fun hb => ?_) | (with_reducible refine ImpK.mk fun hK => ?_) | (with_reducible refine ImpF.mk fun hF => ?_) | (with_reducible refine ImpQ.mk fun hp => ?_) | (with_reducible refine AllE.mk fun p => ?_) | (with_reducible refine AllR.mk fun rest => ?_) | (with_reducible refine AllK.mk fun K => ?_))))); repeat' (with_reducible refine And.intro ?_ ?_))
            all_goals first | decide | skip
            refine ⟨1, ⟨by decide, by decide⟩, ?_⟩
            (focus (refine ⟨_, _, Gh.refl, [0, 1, 2], rfl, ?_⟩; (refine ⟨?_, ?_, ?_⟩ <;> simp only [go_sem, List.range, List.range.loop, List.nodup_cons, List.nodup_nil, List.mem_cons, List.not_mem_nil, or_false, or_self, decide_true, decide_false, Int.reduceToNat, Nat.min_eq_left, Nat.min_eq_right, Int.reducePow, Nat.reducePow, Int.reduceLE, Int.reduceLT, Int.reduceMul, Int.reduceAdd, Int.reduceSub, Int.reduceNeg, Bool.not_true, Bool.not_false, Bool.not_not, ↓reduceIte, Nat.reduceAdd, Nat.reduceSub, Nat.reduceMul, Nat.reduceEqDiff, reduceCtorEq, Nat.reduceLT, Nat.reduceLeDiff, Nat.reduceGT]); (try any_goals (refine ⟨?_, ?_⟩)); (try any_goals (with_reducible rfl))))
            all_goals first | rfl | trace_state
          · have y2 : decide ((1 : Int) < ((1 : Nat) : Int)) = false := by decide
            have y3 : 1 ≤ 1 := by decide
            have d5 : decide (Int.tmod (t : Int) (w : Int) = 0) = true := by rw [← Int.ofNat_tmod]; exact decide_eq_true (by omega)
            (have zx1 := @hw; have zx2 := @y2; have zx3 := @y3; have zx4 := @d5; all_goals (try ((first | (with_reducible refine wp_id ?_) | (with_reducible refine does_id ?_) | (with_reducible refine ops_id ?_)); refine walk ?_; (repeat' (first | exact trivial | with_reducible refine And.intro ?_ ?_)); all_goals (repeat (first | (with_reducible refine ImpB.mk fun hb => ?_) | (with_reducible refine ImpK.mk fun hK => ?_) | (with_reducible refine ImpF.mk fun hF => ?_) | (with_reducible refine ImpQ.mk fun hp => ?_) | (with_reducible refine AllE.mk fun p => ?_) | (with_reducible refine AllR.mk fun rest => ?_) | (with_reducible refine AllK.mk fun K => ?_))))); repeat' (with_reducible refine And.intro ?_ ?_))
            all_goals first | omega | skip
            refine ⟨t + 1, ⟨⟨by omega, by omega⟩, by first | omega | (dsimp only; omega)⟩, ?_⟩
            (focus (refine ⟨_, _, Gh.refl, [0, 1], rfl, ?_⟩; (refine ⟨?_, ?_, ?_⟩ <;> simp only [go_sem, List.range, List.range.loop, List.nodup_cons, List.nodup_nil, List.mem_cons, List.not_mem_nil, or_false, or_self, decide_true, decide_false, Int.reduceToNat, Nat.min_eq_left, Nat.min_eq_right, Int.reducePow, Nat.reducePow, Int.reduceLE, Int.reduceLT, Int.reduceMul, Int.reduceAdd, Int.reduceSub, Int.reduceNeg, Bool.not_true, Bool.not_false, Bool.not_not, ↓reduceIte, Nat.reduceAdd, Nat.reduceSub, Nat.reduceMul, Nat.reduceEqDiff, reduceCtorEq, Nat.reduceLT, Nat.reduceLeDiff, Nat.reduceGT]); (try any_goals (refine ⟨?_, ?_⟩)); (try any_goals (with_reducible rfl))))
            have gA : wdT false w (t + 1) = t := f1.2.trans (if_pos (f1.1.1 c1))
            have gD : swD true s (t + 1) = swD true s t := rfl
            have gT : swT true s p (t + 1) = swT true s p t := rfl
            all_goals first | rfl | (simp only [gA, gD, gT]; rfl) | trace_state
      · have c3 : ¬ t % w = 0 := fun q => c1 (f1.1.2 q)
        have e1 : decide ((w : Int) ≤ atT (t : Int) t - ((wdT false w t : Nat) : Int)) = false := decide_eq_false (by rw [n1]; omega)
        have e2 : decide ((s : Int) ≤ atT (t : Int) t - (t : Int)) = false := decide_eq_false (by rw [n1]; omega)
        have r1 : 0 ≤ atT (t : Int) t ∧ atT (t : Int) t ≤ 1099511627776 := by rw [n1]; omega
        (have zx1 := @hk1; have zx2 := @hw; have zx3 := @n0; have zx4 := @n1; all_goals (try ((first | (with_reducible refine wp_id ?_) | (with_reducible refine does_id ?_) | (with_reducible refine ops_id ?_)); refine walk ?_; (repeat' (first | exact trivial | with_reducible refine And.intro ?_ ?_)); all_goals (repeat (first | (with_reducible refine ImpB.mk fun hb => ?_) | (with_reducible refine ImpK.mk fun hK => ?_) | (with_reducible refine ImpF.mk fun hF => ?_) | (with_reducible refine ImpQ.mk fun hp => ?_) | (with_reducible refine AllE.mk fun p => ?_) | (with_reducible refine AllR.mk fun rest => ?_) | (with_reducible refine AllK.mk fun K => ?_))))); repeat' (with_reducible refine And.intro ?_ ?_))
        all_goals first | exact r1 | omega | skip
        any_goals ((try (refine w_seq fun K hK => ?_)); (try (refine w_block ?_)); refine w_loop (A := Nat) (fun i => i ≤ 0) (fun i => 0 - i) (fun i => [(14, .int .i64 i), (10, .int .i64 0), (11, .int .i64 0), (12, .int .i64 0)]) (fun i => []) (0) (ws := ?ws10) (tk := ?tk10) ?hw10 ?ht10 ?hi_2 ?h0_2 ?LH10; (case hw10 => simp only [go_sem, decide_true, decide_false, Int.reduceToNat, Nat.min_eq_left, Nat.min_eq_right, Int.reducePow, Nat.reducePow, Int.reduceLE, Int.reduceLT, Int.reduceMul, Int.reduceAdd, Int.reduceSub, Int.reduceNeg, Bool.not_true, Bool.not_false, Bool.not_not, ↓reduceIte, Nat.reduceAdd, Nat.reduceSub, Nat.reduceMul, Nat.reduceEqDiff, reduceCtorEq, Nat.reduceLT, Nat.reduceLeDiff, Nat.reduceGT]; exact rfl); (case ht10 => simp only [go_sem, decide_true, decide_false, Int.reduceToNat, Nat.min_eq_left, Nat.min_eq_right, Int.reducePow, Nat.reducePow, Int.reduceLE, Int.reduceLT, Int.reduceMul, Int.reduceAdd, Int.reduceSub, Int.reduceNeg, Bool.not_true, Bool.not_false, Bool.not_not, ↓reduceIte, Nat.reduceAdd, Nat.reduceSub, Nat.reduceMul, Nat.reduceEqDiff, reduceCtorEq, Nat.reduceLT, Nat.reduceLeDiff, Nat.reduceGT]; exact rfl); (case' LH10 => rintro i E t hx hE ht; simp only [go_sem] at ht; subst ht; simp only [go_sem]; try dsimp only at hx))
        case hi_2 => exact Nat.zero_le _
        case h0_2 =>
          (focus (refine ⟨_, _, Gh.refl, [0, 1], rfl, ?_⟩; (refine ⟨?_, ?_, ?_⟩ <;> simp only [go_sem, List.range, List.range.loop, List.nodup_cons, List.nodup_nil, List.mem_cons, List.not_mem_nil, or_false, or_self, decide_true, decide_false, Int.reduceToNat, Nat.min_eq_left, Nat.min_eq_right, Int.reducePow, Nat.reducePow, Int.reduceLE, Int.reduceLT, Int.reduceMul, Int.reduceAdd, Int.reduceSub, Int.reduceNeg, Bool.not_true, Bool.not_false, Bool.not_not, ↓reduceIte, Nat.reduceAdd, Nat.reduceSub, Nat.reduceMul, Nat.reduceEqDiff, reduceCtorEq, Nat.reduceLT, Nat.reduceLeDiff, Nat.reduceGT]); (try any_goals (refine ⟨?_, ?_⟩)); (try any_goals (with_reducible rfl))))
          all_goals first | rfl | trace_state
        case LH10 =>
          have hi : i ≤ 0 := hx
          obtain rfl : i = 0 := by omega
          · have y2 : decide ((0 : Int) < ((0 : Nat) : Int)) = false := by decide
            have d5 : decide (Int.tmod (t : Int) (w : Int) = 0) = false := by rw [← Int.ofNat_tmod]; exact decide_eq_false (by omega)
            (have zx1 := @hw; have zx2 := @y2; have zx3 := @d5; all_goals (try ((first | (with_reducible refine wp_id ?_) | (with_reducible refine does_id ?_) | (with_reducible refine ops_id ?_)); refine walk ?_; (repeat' (first | exact trivial | with_reducible refine And.intro ?_ ?_)); all_goals (repeat (first | (with_reducible refine ImpB.mk fun hb => ?_) | (with_reducible refine ImpK.mk fun hK => ?_) | (with_reducible refine ImpF.mk fun hF => ?_) | (with_reducible refine ImpQ.mk fun hp => ?_) | (with_reducible refine AllE.mk fun p => ?_) | (with_reducible refine AllR.mk fun rest => ?_) | (with_reducible refine AllK.mk fun K => ?_))))); repeat' (with_reducible refine And.intro ?_ ?_))
            all_goals first | omega | skip
            refine ⟨t + 1, ⟨⟨by omega, by omega⟩, by first | omega | (dsimp only; omega)⟩, ?_⟩
            (focus (refine ⟨_, _, Gh.refl, [0, 1], rfl, ?_⟩; (refine ⟨?_, ?_, ?_⟩ <;> simp only [go_sem, List.range, List.range.loop, List.nodup_cons, List.nodup_nil, List.mem_cons, List.not_mem_nil, or_false, or_self, decide_true, decide_false, Int.reduceToNat, Nat.min_eq_left, Nat.min_eq_right, Int.reducePow, Nat.reducePow, Int.reduceLE, Int.reduceLT, Int.reduceMul, Int.reduceAdd, Int.reduceSub, Int.reduceNeg, Bool.not_true, Bool.not_false, Bool.not_not, ↓reduceIte, Nat.reduceAdd, Nat.reduceSub, Nat.reduceMul, Nat.reduceEqDiff, reduceCtorEq, Nat.reduceLT, Nat.reduceLeDiff, Nat.reduceGT]); (try any_goals (refine ⟨?_, ?_⟩)); (try any_goals (with_reducible rfl))))
            have gA : wdT false w (t + 1) = wdT false w t := f1.2.trans (if_neg (fun q => c1 (f1.1.2 q)))
            have gD : swD true s (t + 1) = swD true s t := rfl
            have gT : swT true s p (t + 1) = swT true s p t := rfl
            all_goals first | rfl | (simp only [gA, gD, gT]; rfl) | trace_state
    · have hk1 : decide ((t : Int) ≤ 200) = false := decide_eq_false (by omega)
      (have zx1 := @hk1; all_goals (try ((first | (with_reducible refine wp_id ?_) | (with_reducible refine does_id ?_) | (with_reducible refine ops_id ?_)); refine walk ?_; (repeat' (first | exact trivial | with_reducible refine And.intro ?_ ?_)); all_goals (repeat (first | (with_reducible refine ImpB.mk fun hb => ?_) | (with_reducible refine ImpK.mk fun hK => ?_) | (with_reducible refine ImpF.mk fun hF => ?_) | (with_reducible refine ImpQ.mk fun hp => ?_) | (with_reducible refine AllE.mk fun p => ?_) | (with_reducible refine AllR.mk fun rest => ?_) | (with_reducible refine AllK.mk fun K => ?_))))); repeat' (with_reducible refine And.intro ?_ ?_))
      (focus (refine ⟨_, _, Gh.refl, [], rfl, ?_⟩; (refine ⟨?_, ?_, ?_⟩ <;> simp only [go_sem, List.range, List.range.loop, List.nodup_cons, List.nodup_nil, List.mem_cons, List.not_mem_nil, or_false, or_self, decide_true, decide_false, Int.reduceToNat, Nat.min_eq_left, Nat.min_eq_right, Int.reducePow, Nat.reducePow, Int.reduceLE, Int.reduceLT, Int.reduceMul, Int.reduceAdd, Int.reduceSub, Int.reduceNeg, Bool.not_true, Bool.not_false, Bool.not_not, ↓reduceIte, Nat.reduceAdd, Nat.reduceSub, Nat.reduceMul, Nat.reduceEqDiff, reduceCtorEq, Nat.reduceLT, Nat.reduceLeDiff, Nat.reduceGT]); (try any_goals (refine ⟨?_, ?_⟩)); (try any_goals (with_reducible rfl))))
theorem b_rec10 (w s p : Nat) (hw0 : 1 ≤ w ∧ w ≤ 1099511627776) (hs0 : 1 ≤ s ∧ s ≤ 1099511627776) (hp0 : 1 ≤ p ∧ p ≤ 1099511627776) : DoesK Try.prog 0 4 [.agg [.int .i64 w, .int .i64 s, .int .i64 p], .bool true, .bool false] [] (EndF 0 (.bool true) []) := by
  refine DoesK.close ?_
  have hr : rightB w s p 0 = true := right_iff.2 (by omega)
  refine w_body (rs := [.tmp 6]) (tm := [.agg [.int .i64 w, .int .i64 s, .int .i64 p], .bool true, .bool false, .any, .any, .any, .any, .any, .any, .any, .any, .any, .any, .any, .any, .any, .any, .any, .any, .any, .any, .any, .any, .any, .any, .any, .any, .any, .any, .any, .any, .any, .any, .any, .any, .any, .any, .any, .any, .any, .any, .any, .any, .any, .any, .any, .any, .any, .any, .any, .any, .any, .any, .any, .any, .any, .any, .any, .any, .any, .any, .any, .any, .any, .any, .any, .any, .any, .any, .any, .any, .any, .any, .any, .any, .any, .any, .any, .any, .any, .any, .any, .any, .any, .any, .any, .any, .any, .any, .any, .any, .any, .any, .any, .any, .any, .any, .any, .any, .any, .any, .any, .any, .any, .any, .any, .any, .any, .any, .any, .any]) fn_4 rfl rfl rfl rfl fun R hR => ?_
  (have zx1 := @hr; all_goals (try ((first | (with_reducible refine wp_id ?_) | (with_reducible refine does_id ?_) | (with_reducible refine ops_id ?_)); refine walk ?_; (repeat' (first | exact trivial | with_reducible refine And.intro ?_ ?_)); all_goals (repeat (first | (with_reducible refine ImpB.mk fun hb => ?_) | (with_reducible refine ImpK.mk fun hK => ?_) | (with_reducible refine ImpF.mk fun hF => ?_) | (with_reducible refine ImpQ.mk fun hp => ?_) | (with_reducible refine AllE.mk fun p => ?_) | (with_reducible refine AllR.mk fun rest => ?_) | (with_reducible refine AllK.mk fun K => ?_))))); repeat' (with_reducible refine And.intro ?_ ?_))
  any_goals ((try (refine w_seq fun K hK => ?_)); (try (refine w_block ?_)); refine w_loop (A := Nat) (fun t => 1 ≤ t ∧ t ≤ 201) (fun t => 201 - t) (fun t => [(9, .int .i64 t)]) (fun t => [(1, .pack (Gd w s p ((t - 1 : Nat) : Int) ((wdT true w t : Nat) : Int) ((hrT false t : Nat) : Int) (swD false s t) ((swT false s p t : Nat) : Int) [] false))]) (1) (ws := ?ws11) (tk := ?tk11) ?hw11 ?ht11 ?hi ?h0 ?LH11; (case hw11 => simp only [go_sem, decide_true, decide_false, Int.reduceToNat, Nat.min_eq_left, Nat.min_eq_right, Int.reducePow, Nat.reducePow, Int.reduceLE, Int.reduceLT, Int.reduceMul, Int.reduceAdd, Int.reduceSub, Int.reduceNeg, Bool.not_true, Bool.not_false, Bool.not_not, ↓reduceIte, Nat.reduceAdd, Nat.reduceSub, Nat.reduceMul, Nat.reduceEqDiff, reduceCtorEq, Nat.reduceLT, Nat.reduceLeDiff, Nat.reduceGT]; exact rfl); (case ht11 => simp only [go_sem, decide_true, decide_false, Int.reduceToNat, Nat.min_eq_left, Nat.min_eq_right, Int.reducePow, Nat.reducePow, Int.reduceLE, Int.reduceLT, Int.reduceMul, Int.reduceAdd, Int.reduceSub, Int.reduceNeg, Bool.not_true, Bool.not_false, Bool.not_not, ↓reduceIte, Nat.reduceAdd, Nat.reduceSub, Nat.reduceMul, Nat.reduceEqDiff, reduceCtorEq, Nat.reduceLT, Nat.reduceLeDiff, Nat.reduceGT]; exact rfl); (case' LH11 => rintro t E t hx hE ht; simp only [go_sem] at ht; subst ht; simp only [go_sem]; try dsimp only at hx))
  case hi => exact ⟨Nat.le_refl _, by omega⟩
  case h0 =>
    rw [wdT_1, swD_1 _ _ hs0.1, swT_1 _ _ _ hs0.1]
    (focus (refine ⟨_, _, Gh.refl, [0, 1], rfl, ?_⟩; (refine ⟨?_, ?_, ?_⟩ <;> simp only [go_sem, List.range, List.range.loop, List.nodup_cons, List.nodup_nil, List.mem_cons, List.not_mem_nil, or_false, or_self, decide_true, decide_false, Int.reduceToNat, Nat.min_eq_left, Nat.min_eq_right, Int.reducePow, Nat.reducePow, Int.reduceLE, Int.reduceLT, Int.reduceMul, Int.reduceAdd, Int.reduceSub, Int.reduceNeg, Bool.not_true, Bool.not_false, Bool.not_not, ↓reduceIte, Nat.reduceAdd, Nat.reduceSub, Nat.reduceMul, Nat.reduceEqDiff, reduceCtorEq, Nat.reduceLT, Nat.reduceLeDiff, Nat.reduceGT]); (try any_goals (refine ⟨?_, ?_⟩)); (try any_goals (with_reducible rfl))))
    all_goals rfl
  case LH11 =>
    obtain ⟨ht1, ht2⟩ := hx
    by_cases hk : t ≤ 200
    · have hk1 : decide ((t : Int) ≤ 200) = true := decide_eq_true (by omega)
      have hw : IntKind.i64.wrap ((t : Int) + 1) = ((t + 1 : Nat) : Int) := by rw [wrap_i64 _ (by omega) (by omega)]; omega
      have n0 := atT_up ht1 ht2
      have n1 := atT_id ht2
      have l1 := wdT_le true w t
      have l2 := swT_le false s p t
      have l3 := hrT_le false t
      have l4 : hrT false t = 0 := rfl
      have f1 := wd_fire (W := w) (t := t) hw0.1 ht1
      have f2 := sw_fire (S := s) (P := p) (t := t) hs0.1 hp0.1 ht1
      by_cases c2 : s ≤ t
      · by_cases c4 : swD false s t = false ∨ p ≤ t - swT false s p t
        · have c5 := (f2.1.1 ⟨c2, c4⟩).2
          have e1 : decide ((w : Int) ≤ atT (t : Int) t - (t : Int)) = false := decide_eq_false (by rw [n1]; omega)
          have e2 : decide ((s : Int) ≤ atT (t : Int) t - ((hrT false t : Nat) : Int)) = true := decide_eq_true (by rw [n1]; omega)
          have e3 := sw_yes n1 c4 l2
          have r1 : 0 ≤ atT (t : Int) t ∧ atT (t : Int) t ≤ 1099511627776 := by rw [n1]; omega
          (have zx1 := @hk1; have zx2 := @hw; have zx3 := @n0; have zx4 := @n1; all_goals (try ((first | (with_reducible refine wp_id ?_) | (with_reducible refine does_id ?_) | (with_reducible refine ops_id ?_)); refine walk ?_; (repeat' (first | exact trivial | with_reducible refine And.intro ?_ ?_)); all_goals (repeat (first | (with_reducible refine ImpB.mk fun hb => ?_) | (with_reducible refine ImpK.mk fun hK => ?_) | (with_reducible refine ImpF.mk fun hF => ?_) | (with_reducible refine ImpQ.mk fun hp => ?_) | (with_reducible refine AllE.mk fun p => ?_) | (with_reducible refine AllR.mk fun rest => ?_) | (with_reducible refine AllK.mk fun K => ?_))))); repeat' (with_reducible refine And.intro ?_ ?_))
          all_goals first | exact r1 | omega | skip
          any_goals ((try (refine w_seq fun K hK => ?_)); (try (refine w_block ?_)); refine w_loop (A := Nat) (fun i => i ≤ 2) (fun i => 2 - i) (fun i => [(14, .int .i64 i), (10, .int .i64 0), (11, .int .i64 (if 1 ≤ i then 1 else 0)), (12, .int .i64 (if 2 ≤ i then 1 else 0))]) (fun i => []) (0) (ws := ?ws12) (tk := ?tk12) ?hw12 ?ht12 ?hi_1 ?h0_1 ?LH12; (case hw12 => simp only [go_sem, decide_true, decide_false, Int.reduceToNat, Nat.min_eq_left, Nat.min_eq_right, Int.reducePow, Nat.reducePow, Int.reduceLE, Int.reduceLT, Int.reduceMul, Int.reduceAdd, Int.reduceSub, Int.reduceNeg, Bool.not_true, Bool.not_false, Bool.not_not, ↓reduceIte, Nat.reduceAdd, Nat.reduceSub, Nat.reduceMul, Nat.reduceEqDiff, reduceCtorEq, Nat.reduceLT, Nat.reduceLeDiff, Nat.reduceGT]; exact rfl); (case ht12 => simp only [go_sem, decide_true, decide_false, Int.reduceToNat, Nat.min_eq_left, Nat.min_eq_right, Int.reducePow, Nat.reducePow, Int.reduceLE, Int.reduceLT, Int.reduceMul, Int.reduceAdd, Int.reduceSub, Int.reduceNeg, Bool.not_true, Bool.not_false, Bool.not_not, ↓reduceIte, Nat.reduceAdd, Nat.reduceSub, Nat.reduceMul, Nat.reduceEqDiff, reduceCtorEq, Nat.reduceLT, Nat.reduceLeDiff, Nat.reduceGT]; exact rfl); (case' LH12 => rintro i E t hx hE ht; simp only [go_sem] at ht; subst ht; simp only [go_sem]; try dsimp only at hx))
          case hi_1 => exact Nat.zero_le _
          case h0_1 =>
            (focus (refine ⟨_, _, Gh.refl, [0, 1, 2], rfl, ?_⟩; (refine ⟨?_, ?_, ?_⟩ <;> simp only [go_sem, List.range, List.range.loop, List.nodup_cons, List.nodup_nil, List.mem_cons, List.not_mem_nil, or_false, or_self, decide_true, decide_false, Int.reduceToNat, Nat.min_eq_left, Nat.min_eq_right, Int.reducePow, Nat.reducePow, Int.reduceLE, Int.reduceLT, Int.reduceMul, Int.reduceAdd, Int.reduceSub, Int.reduceNeg, Bool.not_true, Bool.not_false, Bool.not_not, ↓reduceIte, Nat.reduceAdd, Nat.reduceSub, Nat.reduceMul, Nat.reduceEqDiff, reduceCtorEq, Nat.reduceLT, Nat.reduceLeDiff, Nat.reduceGT]); (try any_goals (refine ⟨?_, ?_⟩)); (try any_goals (with_reducible rfl))))
            all_goals first | rfl | trace_state
          case LH12 =>
            have hi : i ≤ 2 := hx
            obtain rfl | rfl | rfl : i = 0 ∨ i = 1 ∨ i = 2 := by omega
            · have y1 : ([⟨(t : Int), 4, 0⟩, ⟨(t : Int), 1, 0⟩] : List Rcy).getD 0 Rcy.zero = ⟨(t : Int), 4, 0⟩ := rfl
              have y2 : decide ((0 : Int) < ((2 : Nat) : Int)) = true := by decide
              have y3 : decide ((4 : Int) = 3) = false := by decide
              have y4 : decide ((4 : Int) = 4) = true := by decide
              (have zx1 := @y1; have zx2 := @y2; have zx3 := @y3; have zx4 := @y4; all_goals (try ((first | (with_reducible refine wp_id ?_) | (with_reducible refine does_id ?_) | (with_reducible refine ops_id ?_)); refine walk ?_; (repeat' (first | exact trivial | with_reducible refine And.intro ?_ ?_)); all_goals (repeat (first | (with_reducible refine ImpB.mk fun hb => ?_) | (with_reducible refine ImpK.mk fun hK => ?_) | (with_reducible refine ImpF.mk fun hF => ?_) | (with_reducible refine ImpQ.mk fun hp => ?_) | (with_reducible refine AllE.mk fun p => ?_) | (with_reducible refine AllR.mk fun rest => ?_) | (with_reducible refine AllK.mk fun K => ?_))))); repeat' (with_reducible refine And.intro ?_ ?_))
              all_goals first | decide | skip
              refine ⟨1, ⟨by decide, by decide⟩, ?_⟩
              (focus (refine ⟨_, _, Gh.refl, [0, 1, 2], rfl, ?_⟩; (refine ⟨?_, ?_, ?_⟩ <;> simp only [go_sem, List.range, List.range.loop, List.nodup_cons, List.nodup_nil, List.mem_cons, List.not_mem_nil, or_false, or_self, decide_true, decide_false, Int.reduceToNat, Nat.min_eq_left, Nat.min_eq_right, Int.reducePow, Nat.reducePow, Int.reduceLE, Int.reduceLT, Int.reduceMul, Int.reduceAdd, Int.reduceSub, Int.reduceNeg, Bool.not_true, Bool.not_false, Bool.not_not, ↓reduceIte, Nat.reduceAdd, Nat.reduceSub, Nat.reduceMul, Nat.reduceEqDiff, reduceCtorEq, Nat.reduceLT, Nat.reduceLeDiff, Nat.reduceGT]); (try any_goals (refine ⟨?_, ?_⟩)); (try any_goals (with_reducible rfl))))
              all_goals first | rfl | trace_state
            · have y1 : ([⟨(t : Int), 4, 0⟩, ⟨(t : Int), 1, 0⟩] : List Rcy).getD 1 Rcy.zero = ⟨(t : Int), 1, 0⟩ := rfl
              have y2 : decide ((1 : Int) < ((2 : Nat) : Int)) = true := by decide
              have y3 : decide ((1 : Int) = 3) = false := by decide
              have y4 : decide ((1 : Int) = 4) = false := by decide
              (have zx1 := @y1; have zx2 := @y2; have zx3 := @y3; have zx4 := @y4; all_goals (try ((first | (with_reducible refine wp_id ?_) | (with_reducible refine does_id ?_) | (with_reducible refine ops_id ?_)); refine walk ?_; (repeat' (first | exact trivial | with_reducible refine And.intro ?_ ?_)); all_goals (repeat (first | (with_reducible refine ImpB.mk fun hb => ?_) | (with_reducible refine ImpK.mk fun hK => ?_) | (with_reducible refine ImpF.mk fun hF => ?_) | (with_reducible refine ImpQ.mk fun hp => ?_) | (with_reducible refine AllE.mk fun p => ?_) | (with_reducible refine AllR.mk fun rest => ?_) | (with_reducible refine AllK.mk fun K => ?_))))); repeat' (with_reducible refine And.intro ?_ ?_))
              all_goals first | decide | skip
              refine ⟨2, ⟨by decide, by decide⟩, ?_⟩
              (focus (refine ⟨_, _, Gh.refl, [0, 1, 2], rfl, ?_⟩; (refine ⟨?_, ?_, ?_⟩ <;> simp only [go_sem, List.range, List.range.loop, List.nodup_cons, List.nodup_nil, List.mem_cons, List.not_mem_nil, or_false, or_self, decide_true, decide_false, Int.reduceToNat, Nat.min_eq_left, Nat.min_eq_right, Int.reducePow, Nat.reducePow, Int.reduceLE, Int.reduceLT, Int.reduceMul, Int.reduceAdd, Int.reduceSub, Int.reduceNeg, Bool.not_true, Bool.not_false, Bool.not_not, ↓reduceIte, Nat.reduceAdd, Nat.reduceSub, Nat.reduceMul, Nat.reduceEqDiff, reduceCtorEq, Nat.reduceLT, Nat.reduceLeDiff, Nat.reduceGT]); (try any_goals (refine ⟨?_, ?_⟩)); (try any_goals (with_reducible rfl))))
              all_goals first | rfl | trace_state
            · have y2 : decide (((2 : Nat) : Int) < ((2 : Nat) : Int)) = false := by decide
              have y3 : 1 ≤ 2 := by decide
              have y4 : 2 ≤ 2 := by decide
              have d6 : decide ((s : Int) ≤ (t : Int)) = true := decide_eq_true (by omega)
              have d7 : IntKind.i64.wrap ((t : Int) - (s : Int)) = ((t - s : Nat) : Int) := by rw [wrap_i64 _ (by omega) (by omega)]; omega
              have d8 : decide (Int.tmod ((t - s : Nat) : Int) (p : Int) = 0) = true := by rw [← Int.ofNat_tmod]; exact decide_eq_true (by omega)
              (have zx1 := @hw; have zx2 := @y2; have zx3 := @y3; have zx4 := @y4; have zx5 := @d6; have zx6 := @d7; have zx7 := @d8; all_goals (try ((first | (with_reducible refine wp_id ?_) | (with_reducible refine does_id ?_) | (with_reducible refine ops_id ?_)); refine walk ?_; (repeat' (first | exact trivial | with_reducible refine And.intro ?_ ?_)); all_goals (repeat (first | (with_reducible refine ImpB.mk fun hb => ?_) | (with_reducible refine ImpK.mk fun hK => ?_) | (with_reducible refine ImpF.mk fun hF => ?_) | (with_reducible refine ImpQ.mk fun hp => ?_) | (with_reducible refine AllE.mk fun p => ?_) | (with_reducible refine AllR.mk fun rest => ?_) | (with_reducible refine AllK.mk fun K => ?_))))); repeat' (with_reducible refine And.intro ?_ ?_))
              all_goals first | omega | skip
              refine ⟨t + 1, ⟨⟨by omega, by omega⟩, by first | omega | (dsimp only; omega)⟩, ?_⟩
              (focus (refine ⟨_, _, Gh.refl, [0, 1], rfl, ?_⟩; (refine ⟨?_, ?_, ?_⟩ <;> simp only [go_sem, List.range, List.range.loop, List.nodup_cons, List.nodup_nil, List.mem_cons, List.not_mem_nil, or_false, or_self, decide_true, decide_false, Int.reduceToNat, Nat.min_eq_left, Nat.min_eq_right, Int.reducePow, Nat.reducePow, Int.reduceLE, Int.reduceLT, Int.reduceMul, Int.reduceAdd, Int.reduceSub, Int.reduceNeg, Bool.not_true, Bool.not_false, Bool.not_not, ↓reduceIte, Nat.reduceAdd, Nat.reduceSub, Nat.reduceMul, Nat.reduceEqDiff, reduceCtorEq, Nat.reduceLT, Nat.reduceLeDiff, Nat.reduceGT]); (try any_goals (refine ⟨?_, ?_⟩)); (try any_goals (with_reducible rfl))))
              have gA : wdT true w (t + 1) = t := rfl
              have gD : swD false s (t + 1) = true := f2.2.1.trans (decide_eq_true c2)
              have gT : swT false s p (t + 1) = t := (f2.2.2 c2).trans (if_pos (f2.1.1 ⟨c2, c4⟩).2)
              all_goals first | rfl | (simp only [gA, gD, gT]; rfl) | trace_state
        · have c5 : ¬ (t - s) % p = 0 := fun q => c4 (f2.1.2 ⟨c2, q⟩).2
          have e1 : decide ((w : Int) ≤ atT (t : Int) t - (t : Int)) = false := decide_eq_false (by rw [n1]; omega)
          have e2 : decide ((s : Int) ≤ atT (t : Int) t - ((hrT false t : Nat) : Int)) = true := decide_eq_true (by rw [n1]; omega)
          have e3 := sw_no n1 c4 l2
          have r1 : 0 ≤ atT (t : Int) t ∧ atT (t : Int) t ≤ 1099511627776 := by rw [n1]; omega
          (have zx1 := @hk1; have zx2 := @hw; have zx3 := @n0; have zx4 := @n1; all_goals (try ((first | (with_reducible refine wp_id ?_) | (with_reducible refine does_id ?_) | (with_reducible refine ops_id ?_)); refine walk ?_; (repeat' (first | exact trivial | with_reducible refine And.intro ?_ ?_)); all_goals (repeat (first | (with_reducible refine ImpB.mk fun hb => ?_) | (with_reducible refine ImpK.mk fun hK => ?_) | (with_reducible refine ImpF.mk fun hF => ?_) | (with_reducible refine ImpQ.mk fun hp => ?_) | (with_reducible refine AllE.mk fun p => ?_) | (with_reducible refine AllR.mk fun rest => ?_) | (with_reducible refine AllK.mk fun K => ?_))))); repeat' (with_reducible refine And.intro ?_ ?_))
          all_goals first | exact r1 | omega | skip
          any_goals ((try (refine w_seq fun K hK => ?_)); (try (refine w_block ?_)); refine w_loop (A := Nat) (fun i => i ≤ 0) (fun i => 0 - i) (fun i => [(14, .int .i64 i), (10, .int .i64 0), (11, .int .i64 0), (12, .int .i64 0)]) (fun i => []) (0) (ws := ?ws13) (tk := ?tk13) ?hw13 ?ht13 ?hi_2 ?h0_2 ?LH13; (case hw13 => simp only [go_sem, decide_true, decide_false, Int.reduceToNat, Nat.min_eq_left, Nat.min_eq_right, Int.reducePow, Nat.reducePow, Int.reduceLE, Int.reduceLT, Int.reduceMul, Int.reduceAdd, Int.reduceSub, Int.reduceNeg, Bool.not_true, Bool.not_false, Bool.not_not, ↓reduceIte, Nat.reduceAdd, Nat.reduceSub, Nat.reduceMul, Nat.reduceEqDiff, reduceCtorEq, Nat.reduceLT, Nat.reduceLeDiff, Nat.reduceGT]; exact rfl); (case ht13 => simp only [go_sem, decide_true, decide_false, Int.reduceToNat, Nat.min_eq_left, Nat.min_eq_right, Int.reducePow, Nat.reducePow, Int.reduceLE, Int.reduceLT, Int.reduceMul, Int.reduceAdd, Int.reduceSub, Int.reduceNeg, Bool.not_true, Bool.not_false, Bool.not_not, ↓reduceIte, Nat.reduceAdd, Nat.reduceSub, Nat.reduceMul, Nat.reduceEqDiff, reduceCtorEq, Nat.reduceLT, Nat.reduceLeDiff, Nat.reduceGT]; exact rfl); (case' LH13 => rintro i E t hx hE ht; simp only [go_sem] at ht; subst ht; simp only [go_sem]; try dsimp only at hx))
          case hi_2 => exact Nat.zero_le _
          case h0_2 =>
            (focus (refine ⟨_, _, Gh.refl, [0, 1], rfl, ?_⟩; (refine ⟨?_, ?_, ?_⟩ <;> simp only [go_sem, List.range, List.range.loop, List.nodup_cons, List.nodup_nil, List.mem_cons, List.not_mem_nil, or_false, or_self, decide_true, decide_false, Int.reduceToNat, Nat.min_eq_left, Nat.min_eq_right, Int.reducePow, Nat.reducePow, Int.reduceLE, Int.reduceLT, Int.reduceMul, Int.reduceAdd, Int.reduceSub, Int.reduceNeg, Bool.not_true, Bool.not_false, Bool.not_not, ↓reduceIte, Nat.reduceAdd, Nat.reduceSub, Nat.reduceMul, Nat.reduceEqDiff, reduceCtorEq, Nat.reduceLT, Nat.reduceLeDiff, Nat.reduceGT]); (try any_goals (refine ⟨?_, ?_⟩)); (try any_goals (with_reducible rfl))))
            all_goals first | rfl | trace_state
          case LH13 =>
            have hi : i ≤ 0 := hx
            obtain rfl : i = 0 := by omega
            · have y2 : decide ((0 : Int) < ((0 : Nat) : Int)) = false := by decide
              have d6 : decide ((s : Int) ≤ (t : Int)) = true := decide_eq_true (by omega)
              have d7 : IntKind.i64.wrap ((t : Int) - (s : Int)) = ((t - s : Nat) : Int) := by rw [wrap_i64 _ (by omega) (by omega)]; omega
              have d8 : decide (Int.tmod ((t - s : Nat) : Int) (p : Int) = 0) = false := by rw [← Int.ofNat_tmod]; exact decide_eq_false (by omega)
              (have zx1 := @hw; have zx2 := @y2; have zx3 := @d6; have zx4 := @d7; have zx5 := @d8; all_goals (try ((first | (with_reducible refine wp_id ?_) | (with_reducible refine does_id ?_) | (with_reducible refine ops_id ?_)); refine walk ?_; (repeat' (first | exact trivial | with_reducible refine And.intro ?_ ?_)); all_goals (repeat (first | (with_reducible refine ImpB.mk fun hb => ?_) | (with_reducible refine ImpK.mk fun hK => ?_) | (with_reducible refine ImpF.mk fun hF => ?_) | (with_reducible refine ImpQ.mk fun hp => ?_) | (with_reducible refine AllE.mk fun p => ?_) | (with_reducible refine AllR.mk fun rest => ?_) | (with_reducible refine AllK.mk fun K => ?_))))); repeat' (with_reducible refine And.intro ?_ ?_))
              all_goals first | omega | skip
              refine ⟨t + 1, ⟨⟨by omega, by omega⟩, by first | omega | (dsimp only; omega)⟩, ?_⟩
              (focus (refine ⟨_, _, Gh.refl, [0, 1], rfl, ?_⟩; (refine ⟨?_, ?_, ?_⟩ <;> simp only [go_sem, List.range, List.range.loop, List.nodup_cons, List.nodup_nil, List.mem_cons, List.not_mem_nil, or_false, or_self, decide_true, decide_false, Int.reduceToNat, Nat.min_eq_left, Nat.min_eq_right, Int.reducePow, Nat.reducePow, Int.reduceLE, Int.reduceLT, Int.reduceMul, Int.reduceAdd, Int.reduceSub, Int.reduceNeg, Bool.not_true, Bool.not_false, Bool.not_not, ↓reduceIte, Nat.reduceAdd, Nat.reduceSub, Nat.reduceMul, Nat.reduceEqDiff, reduceCtorEq, Nat.reduceLT, Nat.reduceLeDiff, Nat.reduceGT]); (try any_goals (refine ⟨?_, ?_⟩)); (try any_goals (with_reducible rfl))))
              have gA : wdT true w (t + 1) = t := rfl
              have gD : swD false s (t + 1) = swD false s t := by have q := f2.2.1.trans (decide_eq_true c2); rw [q]; cases q2 : swD false s t; exact absurd (.inl q2) c4; rfl
              have gT : swT false s p (t + 1) = swT false s p t := (f2.2.2 c2).trans (if_neg (fun q => c4 (f2.1.2 ⟨c2, q⟩).2))
              all_goals first | rfl | (simp only [gA, gD, gT]; rfl) | trace_state
      · skip
        have e1 : decide ((w : Int) ≤ atT (t : Int) t - (t : Int)) = false := decide_eq_false (by rw [n1]; omega)
        have e2 : decide ((s : Int) ≤ atT (t : Int) t - ((hrT false t : Nat) : Int)) = false := decide_eq_false (by rw [n1]; omega)
        have r1 : 0 ≤ atT (t : Int) t ∧ atT (t : Int) t ≤ 1099511627776 := by rw [n1]; omega
        (have zx1 := @hk1; have zx2 := @hw; have zx3 := @n0; have zx4 := @n1; all_goals (try ((first | (with_reducible refine wp_id ?_) | (with_reducible refine does_id ?_) | (with_reducible refine ops_id ?_)); refine walk ?_; (repeat' (first | exact trivial | with_reducible refine And.intro ?_ ?_)); all_goals (repeat (first | (with_reducible refine ImpB.mk fun hb => ?_) | (with_reducible refine ImpK.mk fun hK => ?_) | (with_reducible refine ImpF.mk fun hF => ?_) | (with_reducible refine ImpQ.mk fun hp => ?_) | (with_reducible refine AllE.mk fun p => ?_) | (with_reducible refine AllR.mk fun rest => ?_) | (with_reducible refine AllK.mk fun K => ?_))))); repeat' (with_reducible refine And.intro ?_ ?_))
        all_goals first | exact r1 | omega | skip
        any_goals ((try (refine w_seq fun K hK => ?_)); (try (refine w_block ?_)); refine w_loop (A := Nat) (fun i => i ≤ 0) (fun i => 0 - i) (fun i => [(14, .int .i64 i), (10, .int .i64 0), (11, .int .i64 0), (12, .int .i64 0)]) (fun i => []) (0) (ws := ?ws14) (tk := ?tk14) ?hw14 ?ht14 ?hi_3 ?h0_3 ?LH14; (case hw14 => simp only [go_sem, decide_true, decide_false, Int.reduceToNat, Nat.min_eq_left, Nat.min_eq_right, Int.reducePow, Nat.reducePow, Int.reduceLE, Int.reduceLT, Int.reduceMul, Int.reduceAdd, Int.reduceSub, Int.reduceNeg, Bool.not_true, Bool.not_false, Bool.not_not, ↓reduceIte, Nat.reduceAdd, Nat.reduceSub, Nat.reduceMul, Nat.reduceEqDiff, reduceCtorEq, Nat.reduceLT, Nat.reduceLeDiff, Nat.reduceGT]; exact rfl); (case ht14 => simp only [go_sem, decide_true, decide_false, Int.reduceToNat, Nat.min_eq_left, Nat.min_eq_right, Int.reducePow, Nat.reducePow, Int.reduceLE, Int.reduceLT, Int.reduceMul, Int.reduceAdd, Int.reduceSub, Int.reduceNeg, Bool.not_true, Bool.not_false, Bool.not_not, ↓reduceIte, Nat.reduceAdd, Nat.reduceSub, Nat.reduceMul, Nat.reduceEqDiff, reduceCtorEq, Nat.reduceLT, Nat.reduceLeDiff, Nat.reduceGT]; exact rfl); (case' LH14 => rintro i E t hx hE ht; simp only [go_sem] at ht; subst ht; simp only [go_sem]; try dsimp only at hx))
        case hi_3 => exact Nat.zero_le _
        case h0_3 =>
          (focus (refine ⟨_, _, Gh.refl, [0, 1], rfl, ?_⟩; (refine ⟨?_, ?_, ?_⟩ <;> simp only [go_sem, List.range, List.range.loop, List.nodup_cons, List.nodup_nil, List.mem_cons, List.not_mem_nil, or_false, or_self, decide_true, decide_false, Int.reduceToNat, Nat.min_eq_left, Nat.min_eq_right, Int.reducePow, Nat.reducePow, Int.reduceLE, Int.reduceLT, Int.reduceMul, Int.reduceAdd, Int.reduceSub, Int.reduceNeg, Bool.not_true, Bool.not_false, Bool.not_not, ↓reduceIte, Nat.reduceAdd, Nat.reduceSub, Nat.reduceMul, Nat.reduceEqDiff, reduceCtorEq, Nat.reduceLT, Nat.reduceLeDiff, Nat.reduceGT]); (try any_goals (refine ⟨?_, ?_⟩)); (try any_goals (with_reducible rfl))))
          all_goals first | rfl | trace_state
        case LH14 =>
          have hi : i ≤ 0 := hx
          obtain rfl : i = 0 := by omega
          · have y2 : decide ((0 : Int) < ((0 : Nat) : Int)) = false := by decide
            have d6 : decide ((s : Int) ≤ (t : Int)) = false := decide_eq_false (by omega)
            (have zx1 := @hw; have zx2 := @y2; have zx3 := @d6; all_goals (try ((first | (with_reducible refine wp_id ?_) | (with_reducible refine does_id ?_) | (with_reducible refine ops_id ?_)); refine walk ?_; (repeat' (first | exact trivial | with_reducible refine And.intro ?_ ?_)); all_goals (repeat (first | (with_reducible refine ImpB.mk fun hb => ?_) | (with_reducible refine ImpK.mk fun hK => ?_) | (with_reducible refine ImpF.mk fun hF => ?_) | (with_reducible refine ImpQ.mk fun hp => ?_) | (with_reducible refine AllE.mk fun p => ?_) | (with_reducible refine AllR.mk fun rest => ?_) | (with_reducible refine AllK.mk fun K => ?_))))); repeat' (with_reducible refine And.intro ?_ ?_))
            all_goals first | omega | skip
            refine ⟨t + 1, ⟨⟨by omega, by omega⟩, by first | omega | (dsimp only; omega)⟩, ?_⟩
            (focus (refine ⟨_, _, Gh.refl, [0, 1], rfl, ?_⟩; (refine ⟨?_, ?_, ?_⟩ <;> simp only [go_sem, List.range, List.range.loop, List.nodup_cons, List.nodup_nil, List.mem_cons, List.not_mem_nil, or_false, or_self, decide_true, decide_false, Int.reduceToNat, Nat.min_eq_left, Nat.min_eq_right, Int.reducePow, Nat.reducePow, Int.reduceLE, Int.reduceLT, Int.reduceMul, Int.reduceAdd, Int.reduceSub, Int.reduceNeg, Bool.not_true, Bool.not_false, Bool.not_not, ↓reduceIte, Nat.reduceAdd, Nat.reduceSub, Nat.reduceMul, Nat.reduceEqDiff, reduceCtorEq, Nat.reduceLT, Nat.reduceLeDiff, Nat.reduceGT]); (try any_goals (refine ⟨?_, ?_⟩)); (try any_goals (with_reducible rfl))))
            have gA : wdT true w (t + 1) = t := rfl
            have gD : swD false s (t + 1) = swD false s t := by unfold swD; rw [decide_eq_false (by omega), decide_eq_false (by omega)]
            have gT : swT false s p (t + 1) = swT false s p t := by rw [swT_n (by omega), swT_n (by omega)]
            all_goals first | rfl | (simp only [gA, gD, gT]; rfl) | trace_state
    · have hk1 : decide ((t : Int) ≤ 200) = false := decide_eq_false (by omega)
      (have zx1 := @hk1; all_goals (try ((first | (with_reducible refine wp_id ?_) | (with_reducible refine does_id ?_) | (with_reducible refine ops_id ?_)); refine walk ?_; (repeat' (first | exact trivial | with_reducible refine And.intro ?_ ?_)); all_goals (repeat (first | (with_reducible refine ImpB.mk fun hb => ?_) | (with_reducible refine ImpK.mk fun hK => ?_) | (with_reducible refine ImpF.mk fun hF => ?_) | (with_reducible refine ImpQ.mk fun hp => ?_) | (with_reducible refine AllE.mk fun p => ?_) | (with_reducible refine AllR.mk fun rest => ?_) | (with_reducible refine AllK.mk fun K => ?_))))); repeat' (with_reducible refine And.intro ?_ ?_))
      (focus (refine ⟨_, _, Gh.refl, [], rfl, ?_⟩; (refine ⟨?_, ?_, ?_⟩ <;> simp only [go_sem, List.range, List.range.loop, List.nodup_cons, List.nodup_nil, List.mem_cons, List.not_mem_nil, or_false, or_self, decide_true, decide_false, Int.reduceToNat, Nat.min_eq_left, Nat.min_eq_right, Int.reducePow, Nat.reducePow, Int.reduceLE, Int.reduceLT, Int.reduceMul, Int.reduceAdd, Int.reduceSub, Int.reduceNeg, Bool.not_true, Bool.not_false, Bool.not_not, ↓reduceIte, Nat.reduceAdd, Nat.reduceSub, Nat.reduceMul, Nat.reduceEqDiff, reduceCtorEq, Nat.reduceLT, Nat.reduceLeDiff, Nat.reduceGT]); (try any_goals (refine ⟨?_, ?_⟩)); (try any_goals (with_reducible rfl))))
theorem b_rec11 (w s p : Nat) (hw0 : 1 ≤ w ∧ w ≤ 1099511627776) (hs0 : 1 ≤ s ∧ s ≤ 1099511627776) (hp0 : 1 ≤ p ∧ p ≤ 1099511627776) : DoesK Try.prog 0 4 [.agg [.int .i64 w, .int .i64 s, .int .i64 p], .bool true, .bool true] [] (EndF 0 (.bool true) []) := by
  refine DoesK.close ?_
  have hr : rightB w s p 0 = true := right_iff.2 (by omega)
  refine w_body (rs := [.tmp 6]) (tm := [.agg [.int .i64 w, .int .i64 s, .int .i64 p], .bool true, .bool true, .any, .any, .any, .any, .any, .any, .any, .any, .any, .any, .any, .any, .any, .any, .any, .any, .any, .any, .any, .any, .any, .any, .any, .any, .any, .any, .any, .any, .any, .any, .any, .any, .any, .any, .any, .any, .any, .any, .any, .any, .any, .any, .any, .any, .any, .any, .any, .any, .any, .any, .any, .any, .any, .any, .any, .any, .any, .any, .any, .any, .any, .any, .any, .any, .any, .any, .any, .any, .any, .any, .any, .any, .any, .any, .any, .any, .any, .any, .any, .any, .any, .any, .any, .any, .any, .any, .any, .any, .any, .any, .any, .any, .any, .any, .any, .any, .any, .any, .any, .any, .any, .any, .any, .any, .any, .any, .any, .any]) fn_4 rfl rfl rfl rfl fun R hR => ?_
  (have zx1 := @hr; all_goals (try ((first | (with_reducible refine wp_id ?_) | (with_reducible refine does_id ?_) | (with_reducible refine ops_id ?_)); refine walk ?_; (repeat' (first | exact trivial | with_reducible refine And.intro ?_ ?_)); all_goals (repeat (first | (with_reducible refine ImpB.mk fun hb => ?_) | (with_reducible refine ImpK.mk fun hK => ?_) | (with_reducible refine ImpF.mk fun hF => ?_) | (with_reducible refine ImpQ.mk fun hp => ?_) | (with_reducible refine AllE.mk fun p => ?_) | (with_reducible refine AllR.mk fun rest => ?_) | (with_reducible refine AllK.mk fun K => ?_))))); repeat' (with_reducible refine And.intro ?_ ?_))
  any_goals ((try (refine w_seq fun K hK => ?_)); (try (refine w_block ?_)); refine w_loop (A := Nat) (fun t => 1 ≤ t ∧ t ≤ 201) (fun t => 201 - t) (fun t => [(9, .int .i64 t)]) (fun t => [(1, .pack (Gd w s p ((t - 1 : Nat) : Int) ((wdT true w t : Nat) : Int) ((hrT true t : Nat) : Int) (swD true s t) ((swT true s p t : Nat) : Int) [] false))]) (1) (ws := ?ws15) (tk := ?tk15) ?hw15 ?ht15 ?hi ?h0 ?LH15; (case hw15 => simp only [go_sem, decide_true, decide_false, Int.reduceToNat, Nat.min_eq_left, Nat.min_eq_right, Int.reducePow, Nat.reducePow, Int.reduceLE, Int.reduceLT, Int.reduceMul, Int.reduceAdd, Int.reduceSub, Int.reduceNeg, Bool.not_true, Bool.not_false, Bool.not_not, ↓reduceIte, Nat.reduceAdd, Nat.reduceSub, Nat.reduceMul, Nat.reduceEqDiff, reduceCtorEq, Nat.reduceLT, Nat.reduceLeDiff, Nat.reduceGT]; exact rfl); (case ht15 => simp only [go_sem, decide_true, decide_false, Int.reduceToNat, Nat.min_eq_left, Nat.min_eq_right, Int.reducePow, Nat.reducePow, Int.reduceLE, Int.reduceLT, Int.reduceMul, Int.reduceAdd, Int.reduceSub, Int.reduceNeg, Bool.not_true, Bool.not_false, Bool.not_not, ↓reduceIte, Nat.reduceAdd, Nat.reduceSub, Nat.reduceMul, Nat.reduceEqDiff, reduceCtorEq, Nat.reduceLT, Nat.reduceLeDiff, Nat.reduceGT]; exact rfl); (case' LH15 => rintro t E t hx hE ht; simp only [go_sem] at ht; subst ht; simp only [go_sem]; try dsimp only at hx))
  case hi => exact ⟨Nat.le_refl _, by omega⟩
  case h0 =>
    rw [wdT_1, swD_1 _ _ hs0.1, swT_1 _ _ _ hs0.1]
    (focus (refine ⟨_, _, Gh.refl, [0, 1], rfl, ?_⟩; (refine ⟨?_, ?_, ?_⟩ <;> simp only [go_sem, List.range, List.range.loop, List.nodup_cons, List.nodup_nil, List.mem_cons, List.not_mem_nil, or_false, or_self, decide_true, decide_false, Int.reduceToNat, Nat.min_eq_left, Nat.min_eq_right, Int.reducePow, Nat.reducePow, Int.reduceLE, Int.reduceLT, Int.reduceMul, Int.reduceAdd, Int.reduceSub, Int.reduceNeg, Bool.not_true, Bool.not_false, Bool.not_not, ↓reduceIte, Nat.reduceAdd, Nat.reduceSub, Nat.reduceMul, Nat.reduceEqDiff, reduceCtorEq, Nat.reduceLT, Nat.reduceLeDiff, Nat.reduceGT]); (try any_goals (refine ⟨?_, ?_⟩)); (try any_goals (with_reducible rfl))))
    all_goals rfl
  case LH15 =>
    obtain ⟨ht1, ht2⟩ := hx
    by_cases hk : t ≤ 200
    · have hk1 : decide ((t : Int) ≤ 200) = true := decide_eq_true (by omega)
      have hw : IntKind.i64.wrap ((t : Int) + 1) = ((t + 1 : Nat) : Int) := by rw [wrap_i64 _ (by omega) (by omega)]; omega
      have n0 := atT_up ht1 ht2
      have n1 := atT_id ht2
      have l1 := wdT_le true w t
      have l2 := swT_le true s p t
      have l3 := hrT_le true t
      have l4 : hrT false t = 0 := rfl
      have f1 := wd_fire (W := w) (t := t) hw0.1 ht1
      have f2 := sw_fire (S := s) (P := p) (t := t) hs0.1 hp0.1 ht1
      have e1 : decide ((w : Int) ≤ atT (t : Int) t - (t : Int)) = false := decide_eq_false (by rw [n1]; omega)
      have e2 : decide ((s : Int) ≤ atT (t : Int) t - (t : Int)) = false := decide_eq_false (by rw [n1]; omega)
      have r1 : 0 ≤ atT (t : Int) t ∧ atT (t : Int) t ≤ 1099511627776 := by rw [n1]; omega
      (have zx1 := @hk1; have zx2 := @hw; have zx3 := @n0; have zx4 := @n1; all_goals (try ((first | (with_reducible refine wp_id ?_) | (with_reducible refine does_id ?_) | (with_reducible refine ops_id ?_)); refine walk ?_; (repeat' (first | exact trivial | with_reducible refine And.intro ?_ ?_)); all_goals (repeat (first | (with_reducible refine ImpB.mk fun hb => ?_) | (with_reducible refine ImpK.mk fun hK => ?_) | (with_reducible refine ImpF.mk fun hF => ?_) | (with_reducible refine ImpQ.mk fun hp => ?_) | (with_reducible refine AllE.mk fun p => ?_) | (with_reducible refine AllR.mk fun rest => ?_) | (with_reducible refine AllK.mk fun K => ?_))))); repeat' (with_reducible refine And.intro ?_ ?_))
      all_goals first | exact r1 | omega | skip
      any_goals ((try (refine w_seq fun K hK => ?_)); (try (refine w_block ?_)); refine w_loop (A := Nat) (fun i => i ≤ 0) (fun i => 0 - i) (fun i => [(14, .int .i64 i), (10, .int .i64 0), (11, .int .i64 0), (12, .int .i64 0)]) (fun i => []) (0) (ws := ?ws16) (tk := ?tk16) ?hw16 ?ht16 ?hi_1 ?h0_1 ?LH16; (case hw16 => simp only [go_sem, decide_true, decide_false, Int.reduceToNat, Nat.min_eq_left, Nat.min_eq_right, Int.reducePow, Nat.reducePow, Int.reduceLE, Int.reduceLT, Int.reduceMul, Int.reduceAdd, Int.reduceSub, Int.reduceNeg, Bool.not_true, Bool.not_false, Bool.not_not, ↓reduceIte, Nat.reduceAdd, Nat.reduceSub, Nat.reduceMul, Nat.reduceEqDiff, reduceCtorEq, Nat.reduceLT, Nat.reduceLeDiff, Nat.reduceGT]; exact rfl); (case ht16 => simp only [go_sem, decide_true, decide_false, Int.reduceToNat, Nat.min_eq_left, Nat.min_eq_right, Int.reducePow, Nat.reducePow, Int.reduceLE, Int.reduceLT, Int.reduceMul, Int.reduceAdd, Int.reduceSub, Int.reduceNeg, Bool.not_true, Bool.not_false, Bool.not_not, ↓reduceIte, Nat.reduceAdd, Nat.reduceSub, Nat.reduceMul, Nat.reduceEqDiff, reduceCtorEq, Nat.reduceLT, Nat.reduceLeDiff, Nat.reduceGT]; exact rfl); (case' LH16 => rintro i E t hx hE ht; simp only [go_sem] at ht; subst ht; simp only [go_sem]; try dsimp only at hx))
      case hi_1 => exact Nat.zero_le _
      case h0_1 =>
        (focus (refine ⟨_, _, Gh.refl, [0, 1], rfl, ?_⟩; (refine ⟨?_, ?_, ?_⟩ <;> simp only [go_sem, List.range, List.range.loop, List.nodup_cons, List.nodup_nil, List.mem_cons, List.not_mem_nil, or_false, or_self, decide_true, decide_false, Int.reduceToNat, Nat.min_eq_left, Nat.min_eq_right, Int.reducePow, Nat.reducePow, Int.reduceLE, Int.reduceLT, Int.reduceMul, Int.reduceAdd, Int.reduceSub, Int.reduceNeg, Bool.not_true, Bool.not_false, Bool.not_not, ↓reduceIte, Nat.reduceAdd, Nat.reduceSub, Nat.reduceMul, Nat.reduceEqDiff, reduceCtorEq, Nat.reduceLT, Nat.reduceLeDiff, Nat.reduceGT]); (try any_goals (refine ⟨?_, ?_⟩)); (try any_goals (with_reducible rfl))))
        all_goals first | rfl | trace_state
      case LH16 =>
        have hi : i ≤ 0 := hx
        obtain rfl : i = 0 := by omega
        · have y2 : decide ((0 : Int) < ((0 : Nat) : Int)) = false := by decide
          (have zx1 := @hw; have zx2 := @y2; all_goals (try ((first | (with_reducible refine wp_id ?_) | (with_reducible refine does_id ?_) | (with_reducible refine ops_id ?_)); refine walk ?_; (repeat' (first | exact trivial | with_reducible refine And.intro ?_ ?_)); all_goals (repeat (first | (with_reducible refine ImpB.mk fun hb => ?_) | (with_reducible refine ImpK.mk fun hK => ?_) | (with_reducible refine ImpF.mk fun hF => ?_) | (with_reducible refine ImpQ.mk fun hp => ?_) | (with_reducible refine AllE.mk fun p => ?_) | (with_reducible refine AllR.mk fun rest => ?_) | (with_reducible refine AllK.mk fun K => ?_))))); repeat' (with_reducible refine And.intro ?_ ?_))
          all_goals first | omega | skip
          refine ⟨t + 1, ⟨⟨by omega, by omega⟩, by first | omega | (dsimp only; omega)⟩, ?_⟩
          (focus (refine ⟨_, _, Gh.refl, [0, 1], rfl, ?_⟩; (refine ⟨?_, ?_, ?_⟩ <;> simp only [go_sem, List.range, List.range.loop, List.nodup_cons, List.nodup_nil, List.mem_cons, List.not_mem_nil, or_false, or_self, decide_true, decide_false, Int.reduceToNat, Nat.min_eq_left, Nat.min_eq_right, Int.reducePow, Nat.reducePow, Int.reduceLE, Int.reduceLT, Int.reduceMul, Int.reduceAdd, Int.reduceSub, Int.reduceNeg, Bool.not_true, Bool.not_false, Bool.not_not, ↓reduceIte, Nat.reduceAdd, Nat.reduceSub, Nat.reduceMul, Nat.reduceEqDiff, reduceCtorEq, Nat.reduceLT, Nat.reduceLeDiff, Nat.reduceGT]); (try any_goals (refine ⟨?_, ?_⟩)); (try any_goals (with_reducible rfl))))
          have gA : wdT true w (t + 1) = t := rfl
          have gD : swD true s (t + 1) = swD true s t := rfl
          have gT : swT true s p (t + 1) = swT true s p t := rfl
          all_goals first | rfl | (simp only [gA, gD, gT]; rfl) | trace_state
    · have hk1 : decide ((t : Int) ≤ 200) = false := decide_eq_false (by omega)
      (have zx1 := @hk1; all_goals (try ((first | (with_reducible refine wp_id ?_) | (with_reducible refine does_id ?_) | (with_reducible refine ops_id ?_)); refine walk ?_; (repeat' (first | exact trivial | with_reducible refine And.intro ?_ ?_)); all_goals (repeat (first | (with_reducible refine ImpB.mk fun hb => ?_) | (with_reducible refine ImpK.mk fun hK => ?_) | (with_reducible refine ImpF.mk fun hF => ?_) | (with_reducible refine ImpQ.mk fun hp => ?_) | (with_reducible refine AllE.mk fun p => ?_) | (with_reducible refine AllR.mk fun rest => ?_) | (with_reducible refine AllK.mk fun K => ?_))))); repeat' (with_reducible refine And.intro ?_ ?_))
      (focus (refine ⟨_, _, Gh.refl, [], rfl, ?_⟩; (refine ⟨?_, ?_, ?_⟩ <;> simp only [go_sem, List.range, List.range.loop, List.nodup_cons, List.nodup_nil, List.mem_cons, List.not_mem_nil, or_false, or_self, decide_true, decide_false, Int.reduceToNat, Nat.min_eq_left, Nat.min_eq_right, Int.reducePow, Nat.reducePow, Int.reduceLE, Int.reduceLT, Int.reduceMul, Int.reduceAdd, Int.reduceSub, Int.reduceNeg, Bool.not_true, Bool.not_false, Bool.not_not, ↓reduceIte, Nat.reduceAdd, Nat.reduceSub, Nat.reduceMul, Nat.reduceEqDiff, reduceCtorEq, Nat.reduceLT, Nat.reduceLeDiff, Nat.reduceGT]); (try any_goals (refine ⟨?_, ?_⟩)); (try any_goals (with_reducible rfl))))
theorem b_recF (W S P : Int) (al he : Bool) (hr : rightB W S P 0 = false) : DoesK Try.prog 0 4 [.agg [.int .i64 W, .int .i64 S, .int .i64 P], .bool al, .bool he] [] (EndF 0 (.bool true) []) := by
  refine DoesK.close ?_
  refine w_body (rs := [.tmp 6]) (tm := [.agg [.int .i64 W, .int .i64 S, .int .i64 P], .bool al, .bool he, .any, .any, .any, .any, .any, .any, .any, .any, .any, .any, .any, .any, .any, .any, .any, .any, .any, .any, .any, .any, .any, .any, .any, .any, .any, .any, .any, .any, .any, .any, .any, .any, .any, .any, .any, .any, .any, .any, .any, .any, .any, .any, .any, .any, .any, .any, .any, .any, .any, .any, .any, .any, .any, .any, .any, .any, .any, .any, .any, .any, .any, .any, .any, .any, .any, .any, .any, .any, .any, .any, .any, .any, .any, .any, .any, .any, .any, .any, .any, .any, .any, .any, .any, .any, .any, .any, .any, .any, .any, .any, .any, .any, .any, .any, .any, .any, .any, .any, .any, .any, .any, .any, .any, .any, .any, .any, .any, .any]) fn_4 rfl rfl rfl rfl fun R hR => ?_
  (have zx1 := @hr; all_goals (try ((first | (with_reducible refine wp_id ?_) | (with_reducible refine does_id ?_) | (with_reducible refine ops_id ?_)); refine walk ?_; (repeat' (first | exact trivial | with_reducible refine And.intro ?_ ?_)); all_goals (repeat (first | (with_reducible refine ImpB.mk fun hb => ?_) | (with_reducible refine ImpK.mk fun hK => ?_) | (with_reducible refine ImpF.mk fun hF => ?_) | (with_reducible refine ImpQ.mk fun hp => ?_) | (with_reducible refine AllE.mk fun p => ?_) | (with_reducible refine AllR.mk fun rest => ?_) | (with_reducible refine AllK.mk fun K => ?_))))); repeat' (with_reducible refine And.intro ?_ ?_))
  all_goals first | ((focus (refine ⟨_, _, Gh.refl, [], rfl, ?_⟩; (refine ⟨?_, ?_, ?_⟩ <;> simp only [go_sem, List.range, List.range.loop, List.nodup_cons, List.nodup_nil, List.mem_cons, List.not_mem_nil, or_false, or_self, decide_true, decide_false, Int.reduceToNat, Nat.min_eq_left, Nat.min_eq_right, Int.reducePow, Nat.reducePow, Int.reduceLE, Int.reduceLT, Int.reduceMul, Int.reduceAdd, Int.reduceSub, Int.reduceNeg, Bool.not_true, Bool.not_false, Bool.not_not, ↓reduceIte, Nat.reduceAdd, Nat.reduceSub, Nat.reduceMul, Nat.reduceEqDiff, reduceCtorEq, Nat.reduceLT, Nat.reduceLeDiff, Nat.reduceGT]); (try any_goals (refine ⟨?_, ?_⟩)); (try any_goals (with_reducible rfl)))); done) | exact absurd hb (by decide)
theorem b_rec (W S P : Int) (al he : Bool) : DoesK Try.prog 0 4 [.agg [.int .i64 W, .int .i64 S, .int .i64 P], .bool al, .bool he] [] (EndF 0 (.bool true) []) := by
  cases hr : rightB W S P 0
  · exact b_recF W S P al he hr
  · obtain ⟨h1, h2, h3, -⟩ := right_iff.1 hr
    obtain ⟨w, rfl⟩ : ∃ w : Nat, W = w := ⟨W.toNat, by omega⟩
    obtain ⟨s, rfl⟩ : ∃ s : Nat, S = s := ⟨S.toNat, by omega⟩
    obtain ⟨p, rfl⟩ : ∃ p : Nat, P = p := ⟨P.toNat, by omega⟩
    cases al
    · cases he
      · exact b_rec00 w s p (by omega) (by omega) (by omega)
      · exact b_rec01 w s p (by omega) (by omega) (by omega)
    · cases he
      · exact b_rec10 w s p (by omega) (by omega) (by omega)
      · exact b_rec11 w s p (by omega) (by omega) (by omega)
end Go.V
