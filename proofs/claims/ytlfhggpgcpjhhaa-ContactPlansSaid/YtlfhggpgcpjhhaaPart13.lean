/-
  Contacts: the next one.
  From the arguments of a given statement to abstract values: what is read as data lies for good.
-/
import Derived.Test.YtlfhggpgcpjhhaaPart12
import Derived.Test.YtlfhggpgcpjhhaaPart08
import Derived.ChangeArms
import Derived.ChangeShapes
import Derived.ChangeReads
import Derived.DataReads
import Derived.Below
set_option linter.unusedVariables false
set_option linter.unusedSimpArgs false
set_option maxRecDepth 100000
set_option maxHeartbeats 4000000
namespace Go.V
open Go.Proofs
theorem mnx_no {l : List Win} {now : Int} {k : Nat} (h : ¬ (vldW (wAt l k) = true ∧ now < (wAt l k).from_)) : mnx l now (k + 1) = mnx l now k := by
  rw [mnx, if_neg (fun q => h ⟨q.1, q.2.1⟩)]
theorem mnx_first {l : List Win} {now : Int} {k : Nat} (h1 : vldW (wAt l k) = true) (h2 : now < (wAt l k).from_) (h3 : mnx l now k < 0) : mnx l now (k + 1) = k := by
  rw [mnx, if_pos ⟨h1, h2, .inl h3⟩]
theorem mnx_less {l : List Win} {now : Int} {k j : Nat} (h1 : vldW (wAt l k) = true) (h2 : now < (wAt l k).from_) (h3 : mnx l now k = j) (h4 : (wAt l k).from_ < (wAt l j).from_) : mnx l now (k + 1) = k := by
  rw [mnx, if_pos ⟨h1, h2, .inr (by rw [h3]; exact h4)⟩]
theorem mnx_more {l : List Win} {now : Int} {k j : Nat} (h3 : mnx l now k = j) (h4 : ¬ (wAt l k).from_ < (wAt l j).from_) : mnx l now (k + 1) = j := by
  rw [mnx, h3, if_neg (fun q => by have := q.2.2; rw [Int.toNat_natCast] at this; omega)]
theorem nextT {l : List Win} {now : Int} {k : Nat} (h : ∀ i, i < k → inW now (wAt l i) = false) (hk : inW now (wAt l k) = false) : ∀ i, i < k + 1 → inW now (wAt l i) = false := fun i hi => by
  by_cases e : i = k
  · rw [e]; exact hk
  · exact h i (by omega)
theorem inW_1 {now : Int} {w : Win} (h : vldW w = false) : inW now w = false := by unfold inW; rw [h]; rfl
theorem inW_2 {now : Int} {w : Win} (h : w.to_ ≤ now) : inW now w = false := by unfold inW; rw [decide_eq_false (show ¬ now < w.to_ by omega), Bool.and_false]
theorem inW_3 {now : Int} {w : Win} (h : now < w.from_) : inW now w = false := by unfold inW; rw [decide_eq_false (show ¬ w.from_ ≤ now by omega), Bool.and_false, Bool.false_and]
theorem inW_4 {now : Int} {w : Win} (h1 : vldW w = true) (h2 : w.from_ ≤ now) (h3 : now < w.to_) : inW now w = true := by unfold inW; rw [h1, decide_eq_true h2, decide_eq_true h3]; rfl
theorem b_next (l : List Win) (now : Int) (hl : l.length ≤ 1099511627776) : DoesK Try.prog 0 14 [.ro .win l, .int .i64 now] [] (EndF 0 (.tup [.int .i64 (nextI l now), .bool (nextB l now)]) []) := by
  refine DoesK.close ?_
  refine w_body (rs := [.tmp 4, .tmp 5]) (tm := [.ro .win l, .int .i64 now, .any, .any, .any, .any, .any, .any, .any, .any, .any, .any, .any, .any, .any, .any, .any, .any, .any, .any, .any, .any, .any, .any, .any, .any, .any, .any, .any, .any, .any, .any, .any, .any, .any, .any, .any, .any, .any, .any, .any, .any, .any, .any, .any, .any, .any, .any, .any, .any, .any]) fn_14 rfl rfl rfl rfl fun R hR => ?_
  (all_goals (try ((first | (with_reducible refine wp_id ?_) | (with_reducible refine does_id ?_) | (with_reducible refine ops_id ?_)); refine walk ?_; (repeat' (first | exact trivial | with_reducible refine And.intro ?_ ?_)); all_goals (repeat (first | (with_reducible refine ImpB.mk fun hb => ?_) | (with_reducible refine ImpK.mk fun hK => ?_) | (with_reducible refine ImpF.mk fun hF => ?_) | (with_reducible refine ImpQ.mk fun hp => ?_) | (with_reducible refine AllE.mk fun p => ?_) | (with_reducible refine AllR.mk fun rest => ?_) | (with_reducible refine AllK.mk fun K => ?_))))); repeat' (with_reducible refine And.intro ?_ ?_))
  any_goals ((try (refine w_seq fun K hK => ?_)); (try (refine w_block ?_)); refine w_loop (A := Nat) (fun k => k ≤ l.length ∧ ∀ i, i < k → inW now (wAt l i) = false) (fun k => l.length - k) (fun k => [(6, .int .i64 (mnx l now k)), (11, .int .i64 k)]) (fun k => []) (0) (ws := ?ws1) (tk := ?tk1) ?hw1 ?ht1 ?hi ?h0 ?LH1; (case hw1 => simp only [go_sem, decide_true, decide_false, Int.reduceToNat, Nat.min_eq_left, Nat.min_eq_right, Int.reducePow, Nat.reducePow, Int.reduceLE, Int.reduceLT, Int.reduceMul, Int.reduceAdd, Int.reduceSub, Int.reduceNeg, Bool.not_true, Bool.not_false, Bool.not_not, ↓reduceIte, Nat.reduceAdd, Nat.reduceSub, Nat.reduceMul, Nat.reduceEqDiff, reduceCtorEq, Nat.reduceLT, Nat.reduceLeDiff, Nat.reduceGT]; exact rfl); (case ht1 => simp only [go_sem, decide_true, decide_false, Int.reduceToNat, Nat.min_eq_left, Nat.min_eq_right, Int.reducePow, Nat.reducePow, Int.reduceLE, Int.reduceLT, Int.reduceMul, Int.reduceAdd, Int.reduceSub, Int.reduceNeg, Bool.not_true, Bool.not_false, Bool.not_not, ↓reduceIte, Nat.reduceAdd, Nat.reduceSub, Nat.reduceMul, Nat.reduceEqDiff, reduceCtorEq, Nat.reduceLT, Nat.reduceLeDiff, Nat.reduceGT]; exact rfl); (case' LH1 => rintro k E t hx hE ht; simp only [go_sem] at ht; subst ht; simp only [go_sem]; try dsimp only at hx))
  case hi => exact ⟨Nat.zero_le _, fun i hi => absurd hi (Nat.not_lt_zero i)⟩
  case h0 =>
    (focus (refine ⟨_, _, Gh.refl, [], rfl, ?_⟩; (refine ⟨?_, ?_, ?_⟩ <;> simp only [go_sem, List.range, List.range.loop, List.nodup_cons, List.nodup_nil, List.mem_cons, List.not_mem_nil, or_false, or_self, decide_true, decide_false, Int.reduceToNat, Nat.min_eq_left, Nat.min_eq_right, Int.reducePow, Nat.reducePow, Int.reduceLE, Int.reduceLT, Int.reduceMul, Int.reduceAdd, Int.reduceSub, Int.reduceNeg, Bool.not_true, Bool.not_false, Bool.not_not, ↓reduceIte, Nat.reduceAdd, Nat.reduceSub, Nat.reduceMul, Nat.reduceEqDiff, reduceCtorEq, Nat.reduceLT, Nat.reduceLeDiff, Nat.reduceGT]); (try any_goals (refine ⟨?_, ?_⟩)); (try any_goals (with_reducible rfl))))
    all_goals rfl
  case LH1 =>
    obtain ⟨hx1, hx2⟩ := hx
    have hw : IntKind.i64.wrap ((k : Int) + 1) = ((k + 1 : Nat) : Int) := by rw [wrap_i64 _ (by omega) (by omega)]; omega
    obtain ⟨m1, m2, m3⟩ := mnx_bd l now k
    by_cases hk : k < l.length
    · have hkd : decide ((k : Int) < l.length) = true := decide_eq_true (by omega)
      cases hv : vldW (wAt l k)
      · have hn := mnx_no (l := l) (now := now) (k := k) (fun q => by rw [hv] at q; exact absurd q.1 (by decide))
        (have zx1 := @hkd; have zx2 := @hv; have zx3 := @hw; all_goals (try ((first | (with_reducible refine wp_id ?_) | (with_reducible refine does_id ?_) | (with_reducible refine ops_id ?_)); refine walk ?_; (repeat' (first | exact trivial | with_reducible refine And.intro ?_ ?_)); all_goals (repeat (first | (with_reducible refine ImpB.mk fun hb => ?_) | (with_reducible refine ImpK.mk fun hK => ?_) | (with_reducible refine ImpF.mk fun hF => ?_) | (with_reducible refine ImpQ.mk fun hp => ?_) | (with_reducible refine AllE.mk fun p => ?_) | (with_reducible refine AllR.mk fun rest => ?_) | (with_reducible refine AllK.mk fun K => ?_))))); repeat' (with_reducible refine And.intro ?_ ?_))
        (all_goals first | exact Int.natCast_nonneg _ | exact Int.ofNat_lt.2 (by assumption) | assumption | omega | exact Nat.le_refl _ | (exfalso; simp at hb; done) | (simp only [go_sem, decide_true, decide_false, Int.reduceToNat, Nat.min_eq_left, Nat.min_eq_right, Int.reducePow, Nat.reducePow, Int.reduceLE, Int.reduceLT, Int.reduceMul, Int.reduceAdd, Int.reduceSub, Int.reduceNeg, Bool.not_true, Bool.not_false, Bool.not_not, ↓reduceIte, Nat.reduceAdd, Nat.reduceSub, Nat.reduceMul, Nat.reduceEqDiff, reduceCtorEq, Nat.reduceLT, Nat.reduceLeDiff, Nat.reduceGT]; done) | (unfold capM; omega) | (simp only [List.length_drop, List.length_take, List.length_append, List.length_cons, List.length_nil]; omega) | skip)
        refine ⟨k + 1, ⟨⟨hk, nextT hx2 (inW_1 hv)⟩, by dsimp only; omega⟩, ?_⟩
        (focus (refine ⟨_, _, Gh.refl, [], rfl, ?_⟩; (refine ⟨?_, ?_, ?_⟩ <;> simp only [go_sem, List.range, List.range.loop, List.nodup_cons, List.nodup_nil, List.mem_cons, List.not_mem_nil, or_false, or_self, decide_true, decide_false, Int.reduceToNat, Nat.min_eq_left, Nat.min_eq_right, Int.reducePow, Nat.reducePow, Int.reduceLE, Int.reduceLT, Int.reduceMul, Int.reduceAdd, Int.reduceSub, Int.reduceNeg, Bool.not_true, Bool.not_false, Bool.not_not, ↓reduceIte, Nat.reduceAdd, Nat.reduceSub, Nat.reduceMul, Nat.reduceEqDiff, reduceCtorEq, Nat.reduceLT, Nat.reduceLeDiff, Nat.reduceGT]); (try any_goals (refine ⟨?_, ?_⟩)); (try any_goals (with_reducible rfl))))
        all_goals first | exact hn | exact hn.symm | exact hn.trans hj.symm | skip
      · have hb0 := (vldW_iff _).1 hv
        by_cases c1 : (wAt l k).to_ ≤ now
        · have d1 : decide ((wAt l k).to_ ≤ now) = true := decide_eq_true c1
          have hn := mnx_no (l := l) (now := now) (k := k) (fun q => by have := q.2; omega)
          (have zx1 := @hkd; have zx2 := @hv; have zx3 := @hw; have zx4 := @d1; all_goals (try ((first | (with_reducible refine wp_id ?_) | (with_reducible refine does_id ?_) | (with_reducible refine ops_id ?_)); refine walk ?_; (repeat' (first | exact trivial | with_reducible refine And.intro ?_ ?_)); all_goals (repeat (first | (with_reducible refine ImpB.mk fun hb => ?_) | (with_reducible refine ImpK.mk fun hK => ?_) | (with_reducible refine ImpF.mk fun hF => ?_) | (with_reducible refine ImpQ.mk fun hp => ?_) | (with_reducible refine AllE.mk fun p => ?_) | (with_reducible refine AllR.mk fun rest => ?_) | (with_reducible refine AllK.mk fun K => ?_))))); repeat' (with_reducible refine And.intro ?_ ?_))
          (all_goals first | exact Int.natCast_nonneg _ | exact Int.ofNat_lt.2 (by assumption) | assumption | omega | exact Nat.le_refl _ | (exfalso; simp at hb; done) | (simp only [go_sem, decide_true, decide_false, Int.reduceToNat, Nat.min_eq_left, Nat.min_eq_right, Int.reducePow, Nat.reducePow, Int.reduceLE, Int.reduceLT, Int.reduceMul, Int.reduceAdd, Int.reduceSub, Int.reduceNeg, Bool.not_true, Bool.not_false, Bool.not_not, ↓reduceIte, Nat.reduceAdd, Nat.reduceSub, Nat.reduceMul, Nat.reduceEqDiff, reduceCtorEq, Nat.reduceLT, Nat.reduceLeDiff, Nat.reduceGT]; done) | (unfold capM; omega) | (simp only [List.length_drop, List.length_take, List.length_append, List.length_cons, List.length_nil]; omega) | skip)
          refine ⟨k + 1, ⟨⟨hk, nextT hx2 (inW_2 c1)⟩, by dsimp only; omega⟩, ?_⟩
          (focus (refine ⟨_, _, Gh.refl, [], rfl, ?_⟩; (refine ⟨?_, ?_, ?_⟩ <;> simp only [go_sem, List.range, List.range.loop, List.nodup_cons, List.nodup_nil, List.mem_cons, List.not_mem_nil, or_false, or_self, decide_true, decide_false, Int.reduceToNat, Nat.min_eq_left, Nat.min_eq_right, Int.reducePow, Nat.reducePow, Int.reduceLE, Int.reduceLT, Int.reduceMul, Int.reduceAdd, Int.reduceSub, Int.reduceNeg, Bool.not_true, Bool.not_false, Bool.not_not, ↓reduceIte, Nat.reduceAdd, Nat.reduceSub, Nat.reduceMul, Nat.reduceEqDiff, reduceCtorEq, Nat.reduceLT, Nat.reduceLeDiff, Nat.reduceGT]); (try any_goals (refine ⟨?_, ?_⟩)); (try any_goals (with_reducible rfl))))
          all_goals first | exact hn | exact hn.symm | exact hn.trans hj.symm | skip
        · have d1 : decide ((wAt l k).to_ ≤ now) = false := decide_eq_false c1
          by_cases c2 : (wAt l k).from_ ≤ now
          · have d2 : decide ((wAt l k).from_ ≤ now) = true := decide_eq_true c2
            obtain ⟨e1, e2⟩ := next_in hk hx2 (inW_4 hv c2 (by omega))
            (have zx1 := @hkd; have zx2 := @hv; have zx3 := @hw; have zx4 := @d1; have zx5 := @d2; all_goals (try ((first | (with_reducible refine wp_id ?_) | (with_reducible refine does_id ?_) | (with_reducible refine ops_id ?_)); refine walk ?_; (repeat' (first | exact trivial | with_reducible refine And.intro ?_ ?_)); all_goals (repeat (first | (with_reducible refine ImpB.mk fun hb => ?_) | (with_reducible refine ImpK.mk fun hK => ?_) | (with_reducible refine ImpF.mk fun hF => ?_) | (with_reducible refine ImpQ.mk fun hp => ?_) | (with_reducible refine AllE.mk fun p => ?_) | (with_reducible refine AllR.mk fun rest => ?_) | (with_reducible refine AllK.mk fun K => ?_))))); repeat' (with_reducible refine And.intro ?_ ?_))
            (all_goals first | exact Int.natCast_nonneg _ | exact Int.ofNat_lt.2 (by assumption) | assumption | omega | exact Nat.le_refl _ | (exfalso; simp at hb; done) | (simp only [go_sem, decide_true, decide_false, Int.reduceToNat, Nat.min_eq_left, Nat.min_eq_right, Int.reducePow, Nat.reducePow, Int.reduceLE, Int.reduceLT, Int.reduceMul, Int.reduceAdd, Int.reduceSub, Int.reduceNeg, Bool.not_true, Bool.not_false, Bool.not_not, ↓reduceIte, Nat.reduceAdd, Nat.reduceSub, Nat.reduceMul, Nat.reduceEqDiff, reduceCtorEq, Nat.reduceLT, Nat.reduceLeDiff, Nat.reduceGT]; done) | (unfold capM; omega) | (simp only [List.length_drop, List.length_take, List.length_append, List.length_cons, List.length_nil]; omega) | skip)
            (focus (refine ⟨_, _, Gh.refl, [], rfl, ?_⟩; (refine ⟨?_, ?_, ?_⟩ <;> simp only [go_sem, List.range, List.range.loop, List.nodup_cons, List.nodup_nil, List.mem_cons, List.not_mem_nil, or_false, or_self, decide_true, decide_false, Int.reduceToNat, Nat.min_eq_left, Nat.min_eq_right, Int.reducePow, Nat.reducePow, Int.reduceLE, Int.reduceLT, Int.reduceMul, Int.reduceAdd, Int.reduceSub, Int.reduceNeg, Bool.not_true, Bool.not_false, Bool.not_not, ↓reduceIte, Nat.reduceAdd, Nat.reduceSub, Nat.reduceMul, Nat.reduceEqDiff, reduceCtorEq, Nat.reduceLT, Nat.reduceLeDiff, Nat.reduceGT]); (try any_goals (refine ⟨?_, ?_⟩)); (try any_goals (with_reducible rfl))))
            all_goals first | exact e1 | exact e2 | skip
          · have d2 : decide ((wAt l k).from_ ≤ now) = false := decide_eq_false c2
            by_cases c3 : mnx l now k < 0
            · have d3 : decide (mnx l now k < 0) = true := decide_eq_true c3
              have hn := mnx_first hv (by omega) c3
              (have zx1 := @hkd; have zx2 := @hv; have zx3 := @hw; have zx4 := @d1; have zx5 := @d2; have zx6 := @d3; all_goals (try ((first | (with_reducible refine wp_id ?_) | (with_reducible refine does_id ?_) | (with_reducible refine ops_id ?_)); refine walk ?_; (repeat' (first | exact trivial | with_reducible refine And.intro ?_ ?_)); all_goals (repeat (first | (with_reducible refine ImpB.mk fun hb => ?_) | (with_reducible refine ImpK.mk fun hK => ?_) | (with_reducible refine ImpF.mk fun hF => ?_) | (with_reducible refine ImpQ.mk fun hp => ?_) | (with_reducible refine AllE.mk fun p => ?_) | (with_reducible refine AllR.mk fun rest => ?_) | (with_reducible refine AllK.mk fun K => ?_))))); repeat' (with_reducible refine And.intro ?_ ?_))
              (all_goals first | exact Int.natCast_nonneg _ | exact Int.ofNat_lt.2 (by assumption) | assumption | omega | exact Nat.le_refl _ | (exfalso; simp at hb; done) | (simp only [go_sem, decide_true, decide_false, Int.reduceToNat, Nat.min_eq_left, Nat.min_eq_right, Int.reducePow, Nat.reducePow, Int.reduceLE, Int.reduceLT, Int.reduceMul, Int.reduceAdd, Int.reduceSub, Int.reduceNeg, Bool.not_true, Bool.not_false, Bool.not_not, ↓reduceIte, Nat.reduceAdd, Nat.reduceSub, Nat.reduceMul, Nat.reduceEqDiff, reduceCtorEq, Nat.reduceLT, Nat.reduceLeDiff, Nat.reduceGT]; done) | (unfold capM; omega) | (simp only [List.length_drop, List.length_take, List.length_append, List.length_cons, List.length_nil]; omega) | skip)
              refine ⟨k + 1, ⟨⟨hk, nextT hx2 (inW_3 (by omega))⟩, by dsimp only; omega⟩, ?_⟩
              (focus (refine ⟨_, _, Gh.refl, [], rfl, ?_⟩; (refine ⟨?_, ?_, ?_⟩ <;> simp only [go_sem, List.range, List.range.loop, List.nodup_cons, List.nodup_nil, List.mem_cons, List.not_mem_nil, or_false, or_self, decide_true, decide_false, Int.reduceToNat, Nat.min_eq_left, Nat.min_eq_right, Int.reducePow, Nat.reducePow, Int.reduceLE, Int.reduceLT, Int.reduceMul, Int.reduceAdd, Int.reduceSub, Int.reduceNeg, Bool.not_true, Bool.not_false, Bool.not_not, ↓reduceIte, Nat.reduceAdd, Nat.reduceSub, Nat.reduceMul, Nat.reduceEqDiff, reduceCtorEq, Nat.reduceLT, Nat.reduceLeDiff, Nat.reduceGT]); (try any_goals (refine ⟨?_, ?_⟩)); (try any_goals (with_reducible rfl))))
              all_goals first | exact hn | exact hn.symm | exact hn.trans hj.symm | skip
            · obtain ⟨j, hj⟩ : ∃ j : Nat, mnx l now k = j := ⟨(mnx l now k).toNat, by omega⟩
              have d3 : decide ((j : Int) < 0) = false := decide_eq_false (by omega)
              by_cases c4 : (wAt l k).from_ < (wAt l j).from_
              · have d4 : decide ((wAt l k).from_ < (wAt l j).from_) = true := decide_eq_true c4
                have hn := mnx_less hv (by omega) hj c4
                (have zx1 := @hkd; have zx2 := @hv; have zx3 := @hw; have zx4 := @d1; have zx5 := @d2; have zx6 := @hj; have zx7 := @d3; have zx8 := @d4; all_goals (try ((first | (with_reducible refine wp_id ?_) | (with_reducible refine does_id ?_) | (with_reducible refine ops_id ?_)); refine walk ?_; (repeat' (first | exact trivial | with_reducible refine And.intro ?_ ?_)); all_goals (repeat (first | (with_reducible refine ImpB.mk fun hb => ?_) | (with_reducible refine ImpK.mk fun hK => ?_) | (with_reducible refine ImpF.mk fun hF => ?_) | (with_reducible refine ImpQ.mk fun hp => ?_) | (with_reducible refine AllE.mk fun p => ?_) | (with_reducible refine AllR.mk fun rest => ?_) | (with_reducible refine AllK.mk fun K => ?_))))); repeat' (with_reducible refine And.intro ?_ ?_))
                (all_goals first | exact Int.natCast_nonneg _ | exact Int.ofNat_lt.2 (by assumption) | assumption | omega | exact Nat.le_refl _ | (exfalso; simp at hb; done) | (simp only [go_sem, decide_true, decide_false, Int.reduceToNat, Nat.min_eq_left, Nat.min_eq_right, Int.reducePow, Nat.reducePow, Int.reduceLE, Int.reduceLT, Int.reduceMul, Int.reduceAdd, Int.reduceSub, Int.reduceNeg, Bool.not_true, Bool.not_false, Bool.not_not, ↓reduceIte, Nat.reduceAdd, Nat.reduceSub, Nat.reduceMul, Nat.reduceEqDiff, reduceCtorEq, Nat.reduceLT, Nat.reduceLeDiff, Nat.reduceGT]; done) | (unfold capM; omega) | (simp only [List.length_drop, List.length_take, List.length_append, List.length_cons, List.length_nil]; omega) | skip)
                refine ⟨k + 1, ⟨⟨hk, nextT hx2 (inW_3 (by omega))⟩, by dsimp only; omega⟩, ?_⟩
                (focus (refine ⟨_, _, Gh.refl, [], rfl, ?_⟩; (refine ⟨?_, ?_, ?_⟩ <;> simp only [go_sem, List.range, List.range.loop, List.nodup_cons, List.nodup_nil, List.mem_cons, List.not_mem_nil, or_false, or_self, decide_true, decide_false, Int.reduceToNat, Nat.min_eq_left, Nat.min_eq_right, Int.reducePow, Nat.reducePow, Int.reduceLE, Int.reduceLT, Int.reduceMul, Int.reduceAdd, Int.reduceSub, Int.reduceNeg, Bool.not_true, Bool.not_false, Bool.not_not, ↓reduceIte, Nat.reduceAdd, Nat.reduceSub, Nat.reduceMul, Nat.reduceEqDiff, reduceCtorEq, Nat.reduceLT, Nat.reduceLeDiff, Nat.reduceGT]); (try any_goals (refine ⟨?_, ?_⟩)); (try any_goals (with_reducible rfl))))
                all_goals first | exact hn | exact hn.symm | exact hn.trans hj.symm | skip
              · have d4 : decide ((wAt l k).from_ < (wAt l j).from_) = false := decide_eq_false c4
                have hn := mnx_more hj c4
                (have zx1 := @hkd; have zx2 := @hv; have zx3 := @hw; have zx4 := @d1; have zx5 := @d2; have zx6 := @hj; have zx7 := @d3; have zx8 := @d4; all_goals (try ((first | (with_reducible refine wp_id ?_) | (with_reducible refine does_id ?_) | (with_reducible refine ops_id ?_)); refine walk ?_; (repeat' (first | exact trivial | with_reducible refine And.intro ?_ ?_)); all_goals (repeat (first | (with_reducible refine ImpB.mk fun hb => ?_) | (with_reducible refine ImpK.mk fun hK => ?_) | (with_reducible refine ImpF.mk fun hF => ?_) | (with_reducible refine ImpQ.mk fun hp => ?_) | (with_reducible refine AllE.mk fun p => ?_) | (with_reducible refine AllR.mk fun rest => ?_) | (with_reducible refine AllK.mk fun K => ?_))))); repeat' (with_reducible refine And.intro ?_ ?_))
                (all_goals first | exact Int.natCast_nonneg _ | exact Int.ofNat_lt.2 (by assumption) | assumption | omega | exact Nat.le_refl _ | (exfalso; simp at hb; done) | (simp only [go_sem, decide_true, decide_false, Int.reduceToNat, Nat.min_eq_left, Nat.min_eq_right, Int.reducePow, Nat.reducePow, Int.reduceLE, Int.reduceLT, Int.reduceMul, Int.reduceAdd, Int.reduceSub, Int.reduceNeg, Bool.not_true, Bool.not_false, Bool.not_not, ↓reduceIte, Nat.reduceAdd, Nat.reduceSub, Nat.reduceMul, Nat.reduceEqDiff, reduceCtorEq, Nat.reduceLT, Nat.reduceLeDiff, Nat.reduceGT]; done) | (unfold capM; omega) | (simp only [List.length_drop, List.length_take, List.length_append, List.length_cons, List.length_nil]; omega) | skip)
                refine ⟨k + 1, ⟨⟨hk, nextT hx2 (inW_3 (by omega))⟩, by dsimp only; omega⟩, ?_⟩
                (focus (refine ⟨_, _, Gh.refl, [], rfl, ?_⟩; (refine ⟨?_, ?_, ?_⟩ <;> simp only [go_sem, List.range, List.range.loop, List.nodup_cons, List.nodup_nil, List.mem_cons, List.not_mem_nil, or_false, or_self, decide_true, decide_false, Int.reduceToNat, Nat.min_eq_left, Nat.min_eq_right, Int.reducePow, Nat.reducePow, Int.reduceLE, Int.reduceLT, Int.reduceMul, Int.reduceAdd, Int.reduceSub, Int.reduceNeg, Bool.not_true, Bool.not_false, Bool.not_not, ↓reduceIte, Nat.reduceAdd, Nat.reduceSub, Nat.reduceMul, Nat.reduceEqDiff, reduceCtorEq, Nat.reduceLT, Nat.reduceLeDiff, Nat.reduceGT]); (try any_goals (refine ⟨?_, ?_⟩)); (try any_goals (with_reducible rfl))))
                all_goals first | exact hn | exact hn.symm | exact hn.trans hj.symm | skip
    · have hkd : decide ((k : Int) < l.length) = false := decide_eq_false (by omega)
      obtain rfl : k = l.length := by omega
      obtain ⟨e1, e2⟩ := next_out hx2
      (have zx1 := @hkd; all_goals (try ((first | (with_reducible refine wp_id ?_) | (with_reducible refine does_id ?_) | (with_reducible refine ops_id ?_)); refine walk ?_; (repeat' (first | exact trivial | with_reducible refine And.intro ?_ ?_)); all_goals (repeat (first | (with_reducible refine ImpB.mk fun hb => ?_) | (with_reducible refine ImpK.mk fun hK => ?_) | (with_reducible refine ImpF.mk fun hF => ?_) | (with_reducible refine ImpQ.mk fun hp => ?_) | (with_reducible refine AllE.mk fun p => ?_) | (with_reducible refine AllR.mk fun rest => ?_) | (with_reducible refine AllK.mk fun K => ?_))))); repeat' (with_reducible refine And.intro ?_ ?_))
      (focus (refine ⟨_, _, Gh.refl, [], rfl, ?_⟩; (refine ⟨?_, ?_, ?_⟩ <;> simp only [go_sem, List.range, List.range.loop, List.nodup_cons, List.nodup_nil, List.mem_cons, List.not_mem_nil, or_false, or_self, decide_true, decide_false, Int.reduceToNat, Nat.min_eq_left, Nat.min_eq_right, Int.reducePow, Nat.reducePow, Int.reduceLE, Int.reduceLT, Int.reduceMul, Int.reduceAdd, Int.reduceSub, Int.reduceNeg, Bool.not_true, Bool.not_false, Bool.not_not, ↓reduceIte, Nat.reduceAdd, Nat.reduceSub, Nat.reduceMul, Nat.reduceEqDiff, reduceCtorEq, Nat.reduceLT, Nat.reduceLeDiff, Nat.reduceGT]); (try any_goals (refine ⟨?_, ?_⟩)); (try any_goals (with_reducible rfl))))
      all_goals first | exact e1 | exact e2 | skip
theorem c_next {h : List Ch} {K : KT} {l : List Win} {now : Int} {a : AV} (H : K (.tup [.int .i64 (nextI l now), .bool (nextB l now)]) h) (b1 : brA [] h (.ro .win l) a) (s1 : l.length ≤ 1099511627776) : Does Try.prog 14 [a, .int .i64 now] h K :=
  frame_pure (b_next l now s1) (br_cons b1 (br_cons br_int br_nil)) (.inr rfl) (fun _ => rfl) H
abbrev i_next := Ctr.mk (i := 0) (g := 14) @c_next
attribute [instance] i_next
theorem b_rnext (l : List Win) (now : Int) (hl : l.length ≤ 1099511627776) : DoesK Try.prog 0 15 [.ro .win l, .int .i64 now] [] (EndF 0 (.tup [.int .i64 (nextI l now), .bool (nextB l now)]) []) := by
  refine DoesK.close ?_
  refine w_body (rs := [.tmp 4, .tmp 5]) (tm := [.ro .win l, .int .i64 now, .any, .any, .any, .any, .any, .any, .any, .any, .any, .any, .any, .any, .any, .any, .any, .any, .any, .any, .any, .any, .any, .any, .any, .any, .any, .any, .any, .any, .any, .any, .any, .any, .any, .any, .any, .any, .any, .any, .any, .any, .any, .any, .any, .any, .any, .any, .any, .any, .any, .any, .any, .any, .any, .any, .any, .any, .any, .any, .any, .any, .any, .any, .any, .any, .any, .any, .any, .any, .any, .any, .any, .any, .any, .any, .any, .any, .any, .any, .any]) fn_15 rfl rfl rfl rfl fun R hR => ?_
  (all_goals (try ((first | (with_reducible refine wp_id ?_) | (with_reducible refine does_id ?_) | (with_reducible refine ops_id ?_)); refine walk ?_; (repeat' (first | exact trivial | with_reducible refine And.intro ?_ ?_)); all_goals (repeat (first | (with_reducible refine ImpB.mk fun hb => ?_) | (with_reducible refine ImpK.mk fun hK => ?_) | (with_reducible refine ImpF.mk fun hF => ?_) | (with_reducible refine ImpQ.mk fun hp => ?_) | (with_reducible refine AllE.mk fun p => ?_) | (with_reducible refine AllR.mk fun rest => ?_) | (with_reducible refine AllK.mk fun K => ?_))))); repeat' (with_reducible refine And.intro ?_ ?_))
  any_goals ((try (refine w_seq fun K hK => ?_)); (try (refine w_block ?_)); refine w_loop (A := Nat) (fun k => k ≤ l.length ∧ ∀ i, i < k → inW now (wAt l i) = false) (fun k => l.length - k) (fun k => [(6, .int .i64 k)]) (fun k => []) (0) (ws := ?ws2) (tk := ?tk2) ?hw2 ?ht2 ?hi ?h0 ?LH2; (case hw2 => simp only [go_sem, decide_true, decide_false, Int.reduceToNat, Nat.min_eq_left, Nat.min_eq_right, Int.reducePow, Nat.reducePow, Int.reduceLE, Int.reduceLT, Int.reduceMul, Int.reduceAdd, Int.reduceSub, Int.reduceNeg, Bool.not_true, Bool.not_false, Bool.not_not, ↓reduceIte, Nat.reduceAdd, Nat.reduceSub, Nat.reduceMul, Nat.reduceEqDiff, reduceCtorEq, Nat.reduceLT, Nat.reduceLeDiff, Nat.reduceGT]; exact rfl); (case ht2 => simp only [go_sem, decide_true, decide_false, Int.reduceToNat, Nat.min_eq_left, Nat.min_eq_right, Int.reducePow, Nat.reducePow, Int.reduceLE, Int.reduceLT, Int.reduceMul, Int.reduceAdd, Int.reduceSub, Int.reduceNeg, Bool.not_true, Bool.not_false, Bool.not_not, ↓reduceIte, Nat.reduceAdd, Nat.reduceSub, Nat.reduceMul, Nat.reduceEqDiff, reduceCtorEq, Nat.reduceLT, Nat.reduceLeDiff, Nat.reduceGT]; exact rfl); (case' LH2 => rintro k E t hx hE ht; simp only [go_sem] at ht; subst ht; simp only [go_sem]; try dsimp only at hx))
  case hi => exact ⟨Nat.zero_le _, fun i hi => absurd hi (Nat.not_lt_zero i)⟩
  case h0 =>
    (focus (refine ⟨_, _, Gh.refl, [], rfl, ?_⟩; (refine ⟨?_, ?_, ?_⟩ <;> simp only [go_sem, List.range, List.range.loop, List.nodup_cons, List.nodup_nil, List.mem_cons, List.not_mem_nil, or_false, or_self, decide_true, decide_false, Int.reduceToNat, Nat.min_eq_left, Nat.min_eq_right, Int.reducePow, Nat.reducePow, Int.reduceLE, Int.reduceLT, Int.reduceMul, Int.reduceAdd, Int.reduceSub, Int.reduceNeg, Bool.not_true, Bool.not_false, Bool.not_not, ↓reduceIte, Nat.reduceAdd, Nat.reduceSub, Nat.reduceMul, Nat.reduceEqDiff, reduceCtorEq, Nat.reduceLT, Nat.reduceLeDiff, Nat.reduceGT]); (try any_goals (refine ⟨?_, ?_⟩)); (try any_goals (with_reducible rfl))))
    all_goals rfl
  case LH2 =>
    obtain ⟨hx1, hx2⟩ := hx
    have hw : IntKind.i64.wrap ((k : Int) + 1) = ((k + 1 : Nat) : Int) := by rw [wrap_i64 _ (by omega) (by omega)]; omega
    by_cases hk : k < l.length
    · have hkd : decide ((k : Int) < l.length) = true := decide_eq_true (by omega)
      cases hv : vldW (wAt l k)
      · (have zx1 := @hkd; have zx2 := @hv; have zx3 := @hw; all_goals (try ((first | (with_reducible refine wp_id ?_) | (with_reducible refine does_id ?_) | (with_reducible refine ops_id ?_)); refine walk ?_; (repeat' (first | exact trivial | with_reducible refine And.intro ?_ ?_)); all_goals (repeat (first | (with_reducible refine ImpB.mk fun hb => ?_) | (with_reducible refine ImpK.mk fun hK => ?_) | (with_reducible refine ImpF.mk fun hF => ?_) | (with_reducible refine ImpQ.mk fun hp => ?_) | (with_reducible refine AllE.mk fun p => ?_) | (with_reducible refine AllR.mk fun rest => ?_) | (with_reducible refine AllK.mk fun K => ?_))))); repeat' (with_reducible refine And.intro ?_ ?_))
        (all_goals first | exact Int.natCast_nonneg _ | exact Int.ofNat_lt.2 (by assumption) | assumption | omega | exact Nat.le_refl _ | (exfalso; simp at hb; done) | (simp only [go_sem, decide_true, decide_false, Int.reduceToNat, Nat.min_eq_left, Nat.min_eq_right, Int.reducePow, Nat.reducePow, Int.reduceLE, Int.reduceLT, Int.reduceMul, Int.reduceAdd, Int.reduceSub, Int.reduceNeg, Bool.not_true, Bool.not_false, Bool.not_not, ↓reduceIte, Nat.reduceAdd, Nat.reduceSub, Nat.reduceMul, Nat.reduceEqDiff, reduceCtorEq, Nat.reduceLT, Nat.reduceLeDiff, Nat.reduceGT]; done) | (unfold capM; omega) | (simp only [List.length_drop, List.length_take, List.length_append, List.length_cons, List.length_nil]; omega) | skip)
        refine ⟨k + 1, ⟨⟨hk, nextT hx2 (inW_1 hv)⟩, by dsimp only; omega⟩, ?_⟩
        (focus (refine ⟨_, _, Gh.refl, [], rfl, ?_⟩; (refine ⟨?_, ?_, ?_⟩ <;> simp only [go_sem, List.range, List.range.loop, List.nodup_cons, List.nodup_nil, List.mem_cons, List.not_mem_nil, or_false, or_self, decide_true, decide_false, Int.reduceToNat, Nat.min_eq_left, Nat.min_eq_right, Int.reducePow, Nat.reducePow, Int.reduceLE, Int.reduceLT, Int.reduceMul, Int.reduceAdd, Int.reduceSub, Int.reduceNeg, Bool.not_true, Bool.not_false, Bool.not_not, ↓reduceIte, Nat.reduceAdd, Nat.reduceSub, Nat.reduceMul, Nat.reduceEqDiff, reduceCtorEq, Nat.reduceLT, Nat.reduceLeDiff, Nat.reduceGT]); (try any_goals (refine ⟨?_, ?_⟩)); (try any_goals (with_reducible rfl))))
      · by_cases c1 : (wAt l k).from_ ≤ now
        · have d1 : decide ((wAt l k).from_ ≤ now) = true := decide_eq_true c1
          by_cases c2 : now < (wAt l k).to_
          · have d2 : decide (now < (wAt l k).to_) = true := decide_eq_true c2
            obtain ⟨e1, e2⟩ := next_in hk hx2 (inW_4 hv c1 c2)
            (have zx1 := @hkd; have zx2 := @hv; have zx3 := @hw; have zx4 := @d1; have zx5 := @d2; all_goals (try ((first | (with_reducible refine wp_id ?_) | (with_reducible refine does_id ?_) | (with_reducible refine ops_id ?_)); refine walk ?_; (repeat' (first | exact trivial | with_reducible refine And.intro ?_ ?_)); all_goals (repeat (first | (with_reducible refine ImpB.mk fun hb => ?_) | (with_reducible refine ImpK.mk fun hK => ?_) | (with_reducible refine ImpF.mk fun hF => ?_) | (with_reducible refine ImpQ.mk fun hp => ?_) | (with_reducible refine AllE.mk fun p => ?_) | (with_reducible refine AllR.mk fun rest => ?_) | (with_reducible refine AllK.mk fun K => ?_))))); repeat' (with_reducible refine And.intro ?_ ?_))
            (all_goals first | exact Int.natCast_nonneg _ | exact Int.ofNat_lt.2 (by assumption) | assumption | omega | exact Nat.le_refl _ | (exfalso; simp at hb; done) | (simp only [go_sem, decide_true, decide_false, Int.reduceToNat, Nat.min_eq_left, Nat.min_eq_right, Int.reducePow, Nat.reducePow, Int.reduceLE, Int.reduceLT, Int.reduceMul, Int.reduceAdd, Int.reduceSub, Int.reduceNeg, Bool.not_true, Bool.not_false, Bool.not_not, ↓reduceIte, Nat.reduceAdd, Nat.reduceSub, Nat.reduceMul, Nat.reduceEqDiff, reduceCtorEq, Nat.reduceLT, Nat.reduceLeDiff, Nat.reduceGT]; done) | (unfold capM; omega) | (simp only [List.length_drop, List.length_take, List.length_append, List.length_cons, List.length_nil]; omega) | skip)
            (focus (refine ⟨_, _, Gh.refl, [], rfl, ?_⟩; (refine ⟨?_, ?_, ?_⟩ <;> simp only [go_sem, List.range, List.range.loop, List.nodup_cons, List.nodup_nil, List.mem_cons, List.not_mem_nil, or_false, or_self, decide_true, decide_false, Int.reduceToNat, Nat.min_eq_left, Nat.min_eq_right, Int.reducePow, Nat.reducePow, Int.reduceLE, Int.reduceLT, Int.reduceMul, Int.reduceAdd, Int.reduceSub, Int.reduceNeg, Bool.not_true, Bool.not_false, Bool.not_not, ↓reduceIte, Nat.reduceAdd, Nat.reduceSub, Nat.reduceMul, Nat.reduceEqDiff, reduceCtorEq, Nat.reduceLT, Nat.reduceLeDiff, Nat.reduceGT]); (try any_goals (refine ⟨?_, ?_⟩)); (try any_goals (with_reducible rfl))))
            all_goals first | exact e1 | exact e2 | skip
          · have d2 : decide (now < (wAt l k).to_) = false := decide_eq_false c2
            (have zx1 := @hkd; have zx2 := @hv; have zx3 := @hw; have zx4 := @d1; have zx5 := @d2; all_goals (try ((first | (with_reducible refine wp_id ?_) | (with_reducible refine does_id ?_) | (with_reducible refine ops_id ?_)); refine walk ?_; (repeat' (first | exact trivial | with_reducible refine And.intro ?_ ?_)); all_goals (repeat (first | (with_reducible refine ImpB.mk fun hb => ?_) | (with_reducible refine ImpK.mk fun hK => ?_) | (with_reducible refine ImpF.mk fun hF => ?_) | (with_reducible refine ImpQ.mk fun hp => ?_) | (with_reducible refine AllE.mk fun p => ?_) | (with_reducible refine AllR.mk fun rest => ?_) | (with_reducible refine AllK.mk fun K => ?_))))); repeat' (with_reducible refine And.intro ?_ ?_))
            (all_goals first | exact Int.natCast_nonneg _ | exact Int.ofNat_lt.2 (by assumption) | assumption | omega | exact Nat.le_refl _ | (exfalso; simp at hb; done) | (simp only [go_sem, decide_true, decide_false, Int.reduceToNat, Nat.min_eq_left, Nat.min_eq_right, Int.reducePow, Nat.reducePow, Int.reduceLE, Int.reduceLT, Int.reduceMul, Int.reduceAdd, Int.reduceSub, Int.reduceNeg, Bool.not_true, Bool.not_false, Bool.not_not, ↓reduceIte, Nat.reduceAdd, Nat.reduceSub, Nat.reduceMul, Nat.reduceEqDiff, reduceCtorEq, Nat.reduceLT, Nat.reduceLeDiff, Nat.reduceGT]; done) | (unfold capM; omega) | (simp only [List.length_drop, List.length_take, List.length_append, List.length_cons, List.length_nil]; omega) | skip)
            refine ⟨k + 1, ⟨⟨hk, nextT hx2 (inW_2 (by omega))⟩, by dsimp only; omega⟩, ?_⟩
            (focus (refine ⟨_, _, Gh.refl, [], rfl, ?_⟩; (refine ⟨?_, ?_, ?_⟩ <;> simp only [go_sem, List.range, List.range.loop, List.nodup_cons, List.nodup_nil, List.mem_cons, List.not_mem_nil, or_false, or_self, decide_true, decide_false, Int.reduceToNat, Nat.min_eq_left, Nat.min_eq_right, Int.reducePow, Nat.reducePow, Int.reduceLE, Int.reduceLT, Int.reduceMul, Int.reduceAdd, Int.reduceSub, Int.reduceNeg, Bool.not_true, Bool.not_false, Bool.not_not, ↓reduceIte, Nat.reduceAdd, Nat.reduceSub, Nat.reduceMul, Nat.reduceEqDiff, reduceCtorEq, Nat.reduceLT, Nat.reduceLeDiff, Nat.reduceGT]); (try any_goals (refine ⟨?_, ?_⟩)); (try any_goals (with_reducible rfl))))
        · have d1 : decide ((wAt l k).from_ ≤ now) = false := decide_eq_false c1
          (have zx1 := @hkd; have zx2 := @hv; have zx3 := @hw; have zx4 := @d1; all_goals (try ((first | (with_reducible refine wp_id ?_) | (with_reducible refine does_id ?_) | (with_reducible refine ops_id ?_)); refine walk ?_; (repeat' (first | exact trivial | with_reducible refine And.intro ?_ ?_)); all_goals (repeat (first | (with_reducible refine ImpB.mk fun hb => ?_) | (with_reducible refine ImpK.mk fun hK => ?_) | (with_reducible refine ImpF.mk fun hF => ?_) | (with_reducible refine ImpQ.mk fun hp => ?_) | (with_reducible refine AllE.mk fun p => ?_) | (with_reducible refine AllR.mk fun rest => ?_) | (with_reducible refine AllK.mk fun K => ?_))))); repeat' (with_reducible refine And.intro ?_ ?_))
          (all_goals first | exact Int.natCast_nonneg _ | exact Int.ofNat_lt.2 (by assumption) | assumption | omega | exact Nat.le_refl _ | (exfalso; simp at hb; done) | (simp only [go_sem, decide_true, decide_false, Int.reduceToNat, Nat.min_eq_left, Nat.min_eq_right, Int.reducePow, Nat.reducePow, Int.reduceLE, Int.reduceLT, Int.reduceMul, Int.reduceAdd, Int.reduceSub, Int.reduceNeg, Bool.not_true, Bool.not_false, Bool.not_not, ↓reduceIte, Nat.reduceAdd, Nat.reduceSub, Nat.reduceMul, Nat.reduceEqDiff, reduceCtorEq, Nat.reduceLT, Nat.reduceLeDiff, Nat.reduceGT]; done) | (unfold capM; omega) | (simp only [List.length_drop, List.length_take, List.length_append, List.length_cons, List.length_nil]; omega) | skip)
          refine ⟨k + 1, ⟨⟨hk, nextT hx2 (inW_3 (by omega))⟩, by dsimp only; omega⟩, ?_⟩
          (focus (refine ⟨_, _, Gh.refl, [], rfl, ?_⟩; (refine ⟨?_, ?_, ?_⟩ <;> simp only [go_sem, List.range, List.range.loop, List.nodup_cons, List.nodup_nil, List.mem_cons, List.not_mem_nil, or_false, or_self, decide_true, decide_false, Int.reduceToNat, Nat.min_eq_left, Nat.min_eq_right, Int.reducePow, Nat.reducePow, Int.reduceLE, Int.reduceLT, Int.reduceMul, Int.reduceAdd, Int.reduceSub, Int.reduceNeg, Bool.not_true, Bool.not_false, Bool.not_not, ↓reduceIte, Nat.reduceAdd, Nat.reduceSub, Nat.reduceMul, Nat.reduceEqDiff, reduceCtorEq, Nat.reduceLT, Nat.reduceLeDiff, Nat.reduceGT]); (try any_goals (refine ⟨?_, ?_⟩)); (try any_goals (with_reducible rfl))))
    · have hkd : decide ((k : Int) < l.length) = false := decide_eq_false (by omega)
      obtain rfl : k = l.length := by omega
      obtain ⟨e1, e2⟩ := next_out hx2
      (have zx1 := @hkd; all_goals (try ((first | (with_reducible refine wp_id ?_) | (with_reducible refine does_id ?_) | (with_reducible refine ops_id ?_)); refine walk ?_; (repeat' (first | exact trivial | with_reducible refine And.intro ?_ ?_)); all_goals (repeat (first | (with_reducible refine ImpB.mk fun hb => ?_) | (with_reducible refine ImpK.mk fun hK => ?_) | (with_reducible refine ImpF.mk fun hF => ?_) | (with_reducible refine ImpQ.mk fun hp => ?_) | (with_reducible refine AllE.mk fun p => ?_) | (with_reducible refine AllR.mk fun rest => ?_) | (with_reducible refine AllK.mk fun K => ?_))))); repeat' (with_reducible refine And.intro ?_ ?_))
      any_goals ((try (refine w_seq fun K hK => ?_)); (try (refine w_block ?_)); refine w_loop (A := Nat) (fun k => k ≤ l.length) (fun k => l.length - k) (fun k => [(7, .int .i64 (mnx l now k)), (8, .int .i64 k)]) (fun k => []) (0) (ws := ?ws3) (tk := ?tk3) ?hw3 ?ht3 ?hi_1 ?h0_1 ?LH3; (case hw3 => simp only [go_sem, decide_true, decide_false, Int.reduceToNat, Nat.min_eq_left, Nat.min_eq_right, Int.reducePow, Nat.reducePow, Int.reduceLE, Int.reduceLT, Int.reduceMul, Int.reduceAdd, Int.reduceSub, Int.reduceNeg, Bool.not_true, Bool.not_false, Bool.not_not, ↓reduceIte, Nat.reduceAdd, Nat.reduceSub, Nat.reduceMul, Nat.reduceEqDiff, reduceCtorEq, Nat.reduceLT, Nat.reduceLeDiff, Nat.reduceGT]; exact rfl); (case ht3 => simp only [go_sem, decide_true, decide_false, Int.reduceToNat, Nat.min_eq_left, Nat.min_eq_right, Int.reducePow, Nat.reducePow, Int.reduceLE, Int.reduceLT, Int.reduceMul, Int.reduceAdd, Int.reduceSub, Int.reduceNeg, Bool.not_true, Bool.not_false, Bool.not_not, ↓reduceIte, Nat.reduceAdd, Nat.reduceSub, Nat.reduceMul, Nat.reduceEqDiff, reduceCtorEq, Nat.reduceLT, Nat.reduceLeDiff, Nat.reduceGT]; exact rfl); (case' LH3 => rintro k E t hx hE ht; simp only [go_sem] at ht; subst ht; simp only [go_sem]; try dsimp only at hx))
      case hi_1 => exact Nat.zero_le _
      case h0_1 =>
        (focus (refine ⟨_, _, Gh.refl, [], rfl, ?_⟩; (refine ⟨?_, ?_, ?_⟩ <;> simp only [go_sem, List.range, List.range.loop, List.nodup_cons, List.nodup_nil, List.mem_cons, List.not_mem_nil, or_false, or_self, decide_true, decide_false, Int.reduceToNat, Nat.min_eq_left, Nat.min_eq_right, Int.reducePow, Nat.reducePow, Int.reduceLE, Int.reduceLT, Int.reduceMul, Int.reduceAdd, Int.reduceSub, Int.reduceNeg, Bool.not_true, Bool.not_false, Bool.not_not, ↓reduceIte, Nat.reduceAdd, Nat.reduceSub, Nat.reduceMul, Nat.reduceEqDiff, reduceCtorEq, Nat.reduceLT, Nat.reduceLeDiff, Nat.reduceGT]); (try any_goals (refine ⟨?_, ?_⟩)); (try any_goals (with_reducible rfl))))
        all_goals rfl
      case LH3 =>
        have hw : IntKind.i64.wrap ((k : Int) + 1) = ((k + 1 : Nat) : Int) := by rw [wrap_i64 _ (by omega) (by omega)]; omega
        obtain ⟨m1, m2, m3⟩ := mnx_bd l now k
        by_cases hk : k < l.length
        · have hkd : decide ((k : Int) < l.length) = true := decide_eq_true (by omega)
          cases hv : vldW (wAt l k)
          · have hn := mnx_no (l := l) (now := now) (k := k) (fun q => by rw [hv] at q; exact absurd q.1 (by decide))
            (have zx1 := @hkd; have zx2 := @hv; have zx3 := @hw; all_goals (try ((first | (with_reducible refine wp_id ?_) | (with_reducible refine does_id ?_) | (with_reducible refine ops_id ?_)); refine walk ?_; (repeat' (first | exact trivial | with_reducible refine And.intro ?_ ?_)); all_goals (repeat (first | (with_reducible refine ImpB.mk fun hb => ?_) | (with_reducible refine ImpK.mk fun hK => ?_) | (with_reducible refine ImpF.mk fun hF => ?_) | (with_reducible refine ImpQ.mk fun hp => ?_) | (with_reducible refine AllE.mk fun p => ?_) | (with_reducible refine AllR.mk fun rest => ?_) | (with_reducible refine AllK.mk fun K => ?_))))); repeat' (with_reducible refine And.intro ?_ ?_))
            (all_goals first | exact Int.natCast_nonneg _ | exact Int.ofNat_lt.2 (by assumption) | assumption | omega | exact Nat.le_refl _ | (exfalso; simp at hb; done) | (simp only [go_sem, decide_true, decide_false, Int.reduceToNat, Nat.min_eq_left, Nat.min_eq_right, Int.reducePow, Nat.reducePow, Int.reduceLE, Int.reduceLT, Int.reduceMul, Int.reduceAdd, Int.reduceSub, Int.reduceNeg, Bool.not_true, Bool.not_false, Bool.not_not, ↓reduceIte, Nat.reduceAdd, Nat.reduceSub, Nat.reduceMul, Nat.reduceEqDiff, reduceCtorEq, Nat.reduceLT, Nat.reduceLeDiff, Nat.reduceGT]; done) | (unfold capM; omega) | (simp only [List.length_drop, List.length_take, List.length_append, List.length_cons, List.length_nil]; omega) | skip)
            refine ⟨k + 1, ⟨hk, by dsimp only; omega⟩, ?_⟩
            (focus (refine ⟨_, _, Gh.refl, [], rfl, ?_⟩; (refine ⟨?_, ?_, ?_⟩ <;> simp only [go_sem, List.range, List.range.loop, List.nodup_cons, List.nodup_nil, List.mem_cons, List.not_mem_nil, or_false, or_self, decide_true, decide_false, Int.reduceToNat, Nat.min_eq_left, Nat.min_eq_right, Int.reducePow, Nat.reducePow, Int.reduceLE, Int.reduceLT, Int.reduceMul, Int.reduceAdd, Int.reduceSub, Int.reduceNeg, Bool.not_true, Bool.not_false, Bool.not_not, ↓reduceIte, Nat.reduceAdd, Nat.reduceSub, Nat.reduceMul, Nat.reduceEqDiff, reduceCtorEq, Nat.reduceLT, Nat.reduceLeDiff, Nat.reduceGT]); (try any_goals (refine ⟨?_, ?_⟩)); (try any_goals (with_reducible rfl))))
            all_goals first | exact hn | exact hn.symm | exact hn.trans hj.symm | skip
          · by_cases c2 : now < (wAt l k).from_
            · have d2 : decide (now < (wAt l k).from_) = true := decide_eq_true c2
              by_cases c3 : mnx l now k < 0
              · have d3 : decide (mnx l now k < 0) = true := decide_eq_true c3
                have hn := mnx_first hv c2 c3
                (have zx1 := @hkd; have zx2 := @hv; have zx3 := @hw; have zx4 := @d2; have zx5 := @d3; all_goals (try ((first | (with_reducible refine wp_id ?_) | (with_reducible refine does_id ?_) | (with_reducible refine ops_id ?_)); refine walk ?_; (repeat' (first | exact trivial | with_reducible refine And.intro ?_ ?_)); all_goals (repeat (first | (with_reducible refine ImpB.mk fun hb => ?_) | (with_reducible refine ImpK.mk fun hK => ?_) | (with_reducible refine ImpF.mk fun hF => ?_) | (with_reducible refine ImpQ.mk fun hp => ?_) | (with_reducible refine AllE.mk fun p => ?_) | (with_reducible refine AllR.mk fun rest => ?_) | (with_reducible refine AllK.mk fun K => ?_))))); repeat' (with_reducible refine And.intro ?_ ?_))
                (all_goals first | exact Int.natCast_nonneg _ | exact Int.ofNat_lt.2 (by assumption) | assumption | omega | exact Nat.le_refl _ | (exfalso; simp at hb; done) | (simp only [go_sem, decide_true, decide_false, Int.reduceToNat, Nat.min_eq_left, Nat.min_eq_right, Int.reducePow, Nat.reducePow, Int.reduceLE, Int.reduceLT, Int.reduceMul, Int.reduceAdd, Int.reduceSub, Int.reduceNeg, Bool.not_true, Bool.not_false, Bool.not_not, ↓reduceIte, Nat.reduceAdd, Nat.reduceSub, Nat.reduceMul, Nat.reduceEqDiff, reduceCtorEq, Nat.reduceLT, Nat.reduceLeDiff, Nat.reduceGT]; done) | (unfold capM; omega) | (simp only [List.length_drop, List.length_take, List.length_append, List.length_cons, List.length_nil]; omega) | skip)
                refine ⟨k + 1, ⟨hk, by dsimp only; omega⟩, ?_⟩
                (focus (refine ⟨_, _, Gh.refl, [], rfl, ?_⟩; (refine ⟨?_, ?_, ?_⟩ <;> simp only [go_sem, List.range, List.range.loop, List.nodup_cons, List.nodup_nil, List.mem_cons, List.not_mem_nil, or_false, or_self, decide_true, decide_false, Int.reduceToNat, Nat.min_eq_left, Nat.min_eq_right, Int.reducePow, Nat.reducePow, Int.reduceLE, Int.reduceLT, Int.reduceMul, Int.reduceAdd, Int.reduceSub, Int.reduceNeg, Bool.not_true, Bool.not_false, Bool.not_not, ↓reduceIte, Nat.reduceAdd, Nat.reduceSub, Nat.reduceMul, Nat.reduceEqDiff, reduceCtorEq, Nat.reduceLT, Nat.reduceLeDiff, Nat.reduceGT]); (try any_goals (refine ⟨?_, ?_⟩)); (try any_goals (with_reducible rfl))))
                all_goals first | exact hn | exact hn.symm | exact hn.trans hj.symm | skip
              · obtain ⟨j, hj⟩ : ∃ j : Nat, mnx l now k = j := ⟨(mnx l now k).toNat, by omega⟩
                have d3 : decide ((j : Int) < 0) = false := decide_eq_false (by omega)
                by_cases c4 : (wAt l k).from_ < (wAt l j).from_
                · have d4 : decide ((wAt l k).from_ < (wAt l j).from_) = true := decide_eq_true c4
                  have hn := mnx_less hv c2 hj c4
                  (have zx1 := @hkd; have zx2 := @hv; have zx3 := @hw; have zx4 := @d2; have zx5 := @hj; have zx6 := @d3; have zx7 := @d4; all_goals (try ((first | (with_reducible refine wp_id ?_) | (with_reducible refine does_id ?_) | (with_reducible refine ops_id ?_)); refine walk ?_; (repeat' (first | exact trivial | with_reducible refine And.intro ?_ ?_)); all_goals (repeat (first | (with_reducible refine ImpB.mk fun hb => ?_) | (with_reducible refine ImpK.mk fun hK => ?_) | (with_reducible refine ImpF.mk fun hF => ?_) | (with_reducible refine ImpQ.mk fun hp => ?_) | (with_reducible refine AllE.mk fun p => ?_) | (with_reducible refine AllR.mk fun rest => ?_) | (with_reducible refine AllK.mk fun K => ?_))))); repeat' (with_reducible refine And.intro ?_ ?_))
                  (all_goals first | exact Int.natCast_nonneg _ | exact Int.ofNat_lt.2 (by assumption) | assumption | omega | exact Nat.le_refl _ | (exfalso; simp at hb; done) | (simp only [go_sem, decide_true, decide_false, Int.reduceToNat, Nat.min_eq_left, Nat.min_eq_right, Int.reducePow, Nat.reducePow, Int.reduceLE, Int.reduceLT, Int.reduceMul, Int.reduceAdd, Int.reduceSub, Int.reduceNeg, Bool.not_true, Bool.not_false, Bool.not_not, ↓reduceIte, Nat.reduceAdd, Nat.reduceSub, Nat.reduceMul, Nat.reduceEqDiff, reduceCtorEq, Nat.reduceLT, Nat.reduceLeDiff, Nat.reduceGT]; done) | (unfold capM; omega) | (simp only [List.length_drop, List.length_take, List.length_append, List.length_cons, List.length_nil]; omega) | skip)
                  refine ⟨k + 1, ⟨hk, by dsimp only; omega⟩, ?_⟩
                  (focus (refine ⟨_, _, Gh.refl, [], rfl, ?_⟩; (refine ⟨?_, ?_, ?_⟩ <;> simp only [go_sem, List.range, List.range.loop, List.nodup_cons, List.nodup_nil, List.mem_cons, List.not_mem_nil, or_false, or_self, decide_true, decide_false, Int.reduceToNat, Nat.min_eq_left, Nat.min_eq_right, Int.reducePow, Nat.reducePow, Int.reduceLE, Int.reduceLT, Int.reduceMul, Int.reduceAdd, Int.reduceSub, Int.reduceNeg, Bool.not_true, Bool.not_false, Bool.not_not, ↓reduceIte, Nat.reduceAdd, Nat.reduceSub, Nat.reduceMul, Nat.reduceEqDiff, reduceCtorEq, Nat.reduceLT, Nat.reduceLeDiff, Nat.reduceGT]); (try any_goals (refine ⟨?_, ?_⟩)); (try any_goals (with_reducible rfl))))
                  all_goals first | exact hn | exact hn.symm | exact hn.trans hj.symm | skip
                · have d4 : decide ((wAt l k).from_ < (wAt l j).from_) = false := decide_eq_false c4
                  have hn := mnx_more hj c4
                  (have zx1 := @hkd; have zx2 := @hv; have zx3 := @hw; have zx4 := @d2; have zx5 := @hj; have zx6 := @d3; have zx7 := @d4; all_goals (try ((first | (with_reducible refine wp_id ?_) | (with_reducible refine does_id ?_) | (with_reducible refine ops_id ?_)); refine walk ?_; (repeat' (first | exact trivial | with_reducible refine And.intro ?_ ?_)); all_goals (repeat (first | (with_reducible refine ImpB.mk fun hb => ?_) | (with_reducible refine ImpK.mk fun hK => ?_) | (with_reducible refine ImpF.mk fun hF => ?_) | (with_reducible refine ImpQ.mk fun hp => ?_) | (with_reducible refine AllE.mk fun p => ?_) | (with_reducible refine AllR.mk fun rest => ?_) | (with_reducible refine AllK.mk fun K => ?_))))); repeat' (with_reducible refine And.intro ?_ ?_))
                  (all_goals first | exact Int.natCast_nonneg _ | exact Int.ofNat_lt.2 (by assumption) | assumption | omega | exact Nat.le_refl _ | (exfalso; simp at hb; done) | (simp only [go_sem, decide_true, decide_false, Int.reduceToNat, Nat.min_eq_left, Nat.min_eq_right, Int.reducePow, Nat.reducePow, Int.reduceLE, Int.reduceLT, Int.reduceMul, Int.reduceAdd, Int.reduceSub, Int.reduceNeg, Bool.not_true, Bool.not_false, Bool.not_not, ↓reduceIte, Nat.reduceAdd, Nat.reduceSub, Nat.reduceMul, Nat.reduceEqDiff, reduceCtorEq, Nat.reduceLT, Nat.reduceLeDiff, Nat.reduceGT]; done) | (unfold capM; omega) | (simp only [List.length_drop, List.length_take, List.length_append, List.length_cons, List.length_nil]; omega) | skip)
                  refine ⟨k + 1, ⟨hk, by dsimp only; omega⟩, ?_⟩
                  (focus (refine ⟨_, _, Gh.refl, [], rfl, ?_⟩; (refine ⟨?_, ?_, ?_⟩ <;> simp only [go_sem, List.range, List.range.loop, List.nodup_cons, List.nodup_nil, List.mem_cons, List.not_mem_nil, or_false, or_self, decide_true, decide_false, Int.reduceToNat, Nat.min_eq_left, Nat.min_eq_right, Int.reducePow, Nat.reducePow, Int.reduceLE, Int.reduceLT, Int.reduceMul, Int.reduceAdd, Int.reduceSub, Int.reduceNeg, Bool.not_true, Bool.not_false, Bool.not_not, ↓reduceIte, Nat.reduceAdd, Nat.reduceSub, Nat.reduceMul, Nat.reduceEqDiff, reduceCtorEq, Nat.reduceLT, Nat.reduceLeDiff, Nat.reduceGT]); (try any_goals (refine ⟨?_, ?_⟩)); (try any_goals (with_reducible rfl))))
                  all_goals first | exact hn | exact hn.symm | exact hn.trans hj.symm | skip
            · have d2 : decide (now < (wAt l k).from_) = false := decide_eq_false c2
              have hn := mnx_no (l := l) (now := now) (k := k) (fun q => c2 q.2)
              (have zx1 := @hkd; have zx2 := @hv; have zx3 := @hw; have zx4 := @d2; all_goals (try ((first | (with_reducible refine wp_id ?_) | (with_reducible refine does_id ?_) | (with_reducible refine ops_id ?_)); refine walk ?_; (repeat' (first | exact trivial | with_reducible refine And.intro ?_ ?_)); all_goals (repeat (first | (with_reducible refine ImpB.mk fun hb => ?_) | (with_reducible refine ImpK.mk fun hK => ?_) | (with_reducible refine ImpF.mk fun hF => ?_) | (with_reducible refine ImpQ.mk fun hp => ?_) | (with_reducible refine AllE.mk fun p => ?_) | (with_reducible refine AllR.mk fun rest => ?_) | (with_reducible refine AllK.mk fun K => ?_))))); repeat' (with_reducible refine And.intro ?_ ?_))
              (all_goals first | exact Int.natCast_nonneg _ | exact Int.ofNat_lt.2 (by assumption) | assumption | omega | exact Nat.le_refl _ | (exfalso; simp at hb; done) | (simp only [go_sem, decide_true, decide_false, Int.reduceToNat, Nat.min_eq_left, Nat.min_eq_right, Int.reducePow, Nat.reducePow, Int.reduceLE, Int.reduceLT, Int.reduceMul, Int.reduceAdd, Int.reduceSub, Int.reduceNeg, Bool.not_true, Bool.not_false, Bool.not_not, ↓reduceIte, Nat.reduceAdd, Nat.reduceSub, Nat.reduceMul, Nat.reduceEqDiff, reduceCtorEq, Nat.reduceLT, Nat.reduceLeDiff, Nat.reduceGT]; done) | (unfold capM; omega) | (simp only [List.length_drop, List.length_take, List.length_append, List.length_cons, List.length_nil]; omega) | skip)
              refine ⟨k + 1, ⟨hk, by dsimp only; omega⟩, ?_⟩
              (focus (refine ⟨_, _, Gh.refl, [], rfl, ?_⟩; (refine ⟨?_, ?_, ?_⟩ <;> simp only [go_sem, List.range, List.range.loop, List.nodup_cons, List.nodup_nil, List.mem_cons, List.not_mem_nil, or_false, or_self, decide_true, decide_false, Int.reduceToNat, Nat.min_eq_left, Nat.min_eq_right, Int.reducePow, Nat.reducePow, Int.reduceLE, Int.reduceLT, Int.reduceMul, Int.reduceAdd, Int.reduceSub, Int.reduceNeg, Bool.not_true, Bool.not_false, Bool.not_not, ↓reduceIte, Nat.reduceAdd, Nat.reduceSub, Nat.reduceMul, Nat.reduceEqDiff, reduceCtorEq, Nat.reduceLT, Nat.reduceLeDiff, Nat.reduceGT]); (try any_goals (refine ⟨?_, ?_⟩)); (try any_goals (with_reducible rfl))))
              all_goals first | exact hn | exact hn.symm | exact hn.trans hj.symm | skip
        · have hkd : decide ((k : Int) < l.length) = false := decide_eq_false (by omega)
          obtain rfl : k = l.length := by omega
          (have zx1 := @hkd; all_goals (try ((first | (with_reducible refine wp_id ?_) | (with_reducible refine does_id ?_) | (with_reducible refine ops_id ?_)); refine walk ?_; (repeat' (first | exact trivial | with_reducible refine And.intro ?_ ?_)); all_goals (repeat (first | (with_reducible refine ImpB.mk fun hb => ?_) | (with_reducible refine ImpK.mk fun hK => ?_) | (with_reducible refine ImpF.mk fun hF => ?_) | (with_reducible refine ImpQ.mk fun hp => ?_) | (with_reducible refine AllE.mk fun p => ?_) | (with_reducible refine AllR.mk fun rest => ?_) | (with_reducible refine AllK.mk fun K => ?_))))); repeat' (with_reducible refine And.intro ?_ ?_))
          (focus (refine ⟨_, _, Gh.refl, [], rfl, ?_⟩; (refine ⟨?_, ?_, ?_⟩ <;> simp only [go_sem, List.range, List.range.loop, List.nodup_cons, List.nodup_nil, List.mem_cons, List.not_mem_nil, or_false, or_self, decide_true, decide_false, Int.reduceToNat, Nat.min_eq_left, Nat.min_eq_right, Int.reducePow, Nat.reducePow, Int.reduceLE, Int.reduceLT, Int.reduceMul, Int.reduceAdd, Int.reduceSub, Int.reduceNeg, Bool.not_true, Bool.not_false, Bool.not_not, ↓reduceIte, Nat.reduceAdd, Nat.reduceSub, Nat.reduceMul, Nat.reduceEqDiff, reduceCtorEq, Nat.reduceLT, Nat.reduceLeDiff, Nat.reduceGT]); (try any_goals (refine ⟨?_, ?_⟩)); (try any_goals (with_reducible rfl))))
          all_goals first | exact e1 | exact e2 | skip
theorem c_rnext {h : List Ch} {K : KT} {l : List Win} {now : Int} {a : AV} (H : K (.tup [.int .i64 (nextI l now), .bool (nextB l now)]) h) (b1 : brA [] h (.ro .win l) a) (s1 : l.length ≤ 1099511627776) : Does Try.prog 15 [a, .int .i64 now] h K :=
  frame_pure (b_rnext l now s1) (br_cons b1 (br_cons br_int br_nil)) (.inr rfl) (fun _ => rfl) H
abbrev i_rnext := Ctr.mk (i := 0) (g := 15) @c_rnext
attribute [instance] i_rnext
end Go.V

namespace Go.V
/-- all that lies in the memory at the start lies for good -/
def oldR (w : World) : RO := fun b => w.heap[b]?
theorem old_ok (w : World) : HOk (oldR w) [] [] w := ⟨trivial, by simp [ownH], fun b hb => by simp [ownH] at hb, fun _ _ h => h⟩
theorem cell_of {w : World} {a : Addr} {v : Value} (h : w.cell? a = some v) : a.spot = none ∧ ∃ arr ty fr, w.heap[a.block]? = some (.cells arr ty fr) ∧ arr[a.off]? = some v := by
  unfold World.cell? at h
  split at h
  · rename_i c ty fr hc
    split at h
    · simp at h
    · rename_i hs
      exact ⟨by simpa using hs, c, ty, fr, hc, h⟩
  · simp at h
theorem add_block (a : Addr) (i : Nat) : (a.add i).block = a.block := by
  unfold Addr.add
  split <;> rfl
theorem add_off (a : Addr) (i : Nat) : (a.add i).off = a.off + i := by
  unfold Addr.add
  split
  · simp_all
  · rfl
/-- some cells in a row -/
theorem cells_of {w : World} {base : Nat} {a : Addr} {n : Nat} {cs : List Value} (h : w.cells? base a n = some cs) (hn : 0 < n) : a.spot = none ∧ ∃ arr ty fr, w.heap[a.block]? = some (.cells arr ty fr) ∧ (arr.toList.drop a.off).take n = cs := by
  obtain ⟨_, hl, hg⟩ := World.cells?_some h
  have h0 := hg 0 hn
  rw [List.getElem?_eq_getElem (by omega)] at h0
  obtain ⟨hs, arr, ty, fr, hb, _⟩ := cell_of h0
  rw [add_block] at hb
  refine ⟨by simpa [Addr.add] using hs, arr, ty, fr, hb, ?_⟩
  apply List.ext_getElem?
  intro i
  by_cases hi : i < n
  · have h1 := hg i hi
    rw [List.getElem?_eq_getElem (show i < cs.length by omega)] at h1
    obtain ⟨_, arr', ty', fr', hb', h2⟩ := cell_of h1
    rw [add_block, hb] at hb'
    cases hb'
    rw [add_off] at h2
    rw [List.getElem?_take_of_lt hi, List.getElem?_drop, List.getElem?_eq_getElem (show i < cs.length by omega)]
    simpa using h2
  · rw [List.getElem?_eq_none (by simp; omega), List.getElem?_eq_none (by omega)]
/-- a type: what reads as data of it lies as one of these lists of abstract values -/
def Opens (P : Program) (w : World) (t : TypeId) (S : List AV → Prop) : Prop :=
  ∀ (H : Type) (enc : TypeId × Value → H) (base : Nat) (spare : Nat → Bool) (held : Bool) (fuel : Nat) (cs : List Value) (x : DataW H × List MemPlace), DataW.trod enc P w base spare held fuel t cs = some x → ∃ l, S l ∧ LRel (oldR w) [] l cs
section
variable {P : Program} {w : World}
theorem Opens.mono {t : TypeId} {S S' : List AV → Prop} (h : Opens P w t S) (hs : ∀ l, S l → S' l) : Opens P w t S' := fun H enc base spare held fuel cs x hx => by
  obtain ⟨l, h1, h2⟩ := h H enc base spare held fuel cs x hx
  exact ⟨l, hs l h1, h2⟩
theorem Opens.int {t : TypeId} {k : IntKind} (ht : P.underlying t = some (.int k)) : Opens P w t fun l => ∃ n, k.has n ∧ l = [.int k n] := fun H enc base spare held fuel cs x hx => by
  cases fuel with
  | zero => simp [DataW.trod] at hx
  | succ fuel =>
    unfold DataW.trod at hx
    simp only [ht] at hx
    split at hx
    all_goals first | (rename_i h1 _; cases h1; done) | skip
    all_goals simp_all
    rename_i k' n h1
    subst h1
    obtain ⟨⟨rfl, h2⟩, _⟩ := hx
    exact ⟨_, ⟨n, by simpa [Lit.wf, IntKind.has] using h2, rfl⟩, .cons .int .nil⟩
theorem Opens.bool {t : TypeId} (ht : P.underlying t = some .bool) : Opens P w t fun l => ∃ b, l = [.bool b] := fun H enc base spare held fuel cs x hx => by
  cases fuel with
  | zero => simp [DataW.trod] at hx
  | succ fuel =>
    unfold DataW.trod at hx
    simp only [ht] at hx
    split at hx
    all_goals simp_all
    rename_i b
    cases b
    · exact .inl (.cons .bool .nil)
    · exact .inr (.cons .bool .nil)
theorem Opens.str {t : TypeId} (ht : P.underlying t = some .string) : Opens P w t fun l => ∃ s : List UInt8, s.length ≤ maxLen ∧ l = [.str s] := fun H enc base spare held fuel cs x hx => by
  cases fuel with
  | zero => simp [DataW.trod] at hx
  | succ fuel =>
    unfold DataW.trod at hx
    simp only [ht] at hx
    split at hx
    all_goals simp_all
    rename_i s
    exact ⟨[.str s.data.toList], ⟨_, by simpa using hx.1, rfl⟩, .cons .str .nil⟩
theorem Opens.struct {t : TypeId} {fs : Array Field} {Ss : List (List AV → Prop)} (ht : P.underlying t = some (.struct fs)) (hl : fs.size = Ss.length)
    (hS : ∀ (i : Nat) (f : Field) (S : List AV → Prop), fs[i]? = some f → Ss[i]? = some S → Opens P w f.type S)
    (hoff : ∀ (i : Nat) (f : Field), fs[i]? = some f → f.offset = ((fs.toList.take i).map fun g => P.cellsOf g.type).sum) (hsz : P.cellsOf t = (fs.toList.map fun g => P.cellsOf g.type).sum) :
    Opens P w t fun l => ∃ ls : List (List AV), ls.length = Ss.length ∧ (∀ (i : Nat) (S : List AV → Prop) (m : List AV), Ss[i]? = some S → ls[i]? = some m → S m) ∧ l = ls.flatten := fun H enc base spare held fuel cs x hx => by
  obtain ⟨xs, n, _, _, hlen, hxs, hf⟩ := DataW.trod_struct ht hx
  have key : ∀ k, k ≤ fs.size → ∃ ls : List (List AV), ls.length = k ∧ (∀ (i : Nat) (S : List AV → Prop) (m : List AV), Ss[i]? = some S → ls[i]? = some m → S m) ∧ LRel (oldR w) [] ls.flatten (cs.take (((fs.toList.take k).map fun g => P.cellsOf g.type).sum)) := by
    intro k
    induction k with
    | zero => intro _; exact ⟨[], rfl, fun i S m _ h => by simp at h, by simp; exact .nil⟩
    | succ k ih =>
      intro hk
      obtain ⟨ls, h1, h2, h3⟩ := ih (by omega)
      have hfk : fs[k]? = some fs[k] := by simp [show k < fs.size by omega]
      have hSk : Ss[k]? = some (Ss[k]'(by omega)) := by simp [show k < Ss.length by omega]
      have hx := hf k _ hfk
      rw [List.getElem?_eq_getElem (by omega)] at hx
      obtain ⟨m, h4, h5⟩ := hS k _ _ hfk hSk H enc base spare held n _ _ hx
      refine ⟨ls ++ [m], by simp [h1], fun i S m' hS' hm' => ?_, ?_⟩
      · by_cases hi : i < ls.length
        · rw [List.getElem?_append_left hi] at hm'
          exact h2 i S m' hS' hm'
        · have : i = k := by
            have := (List.getElem?_eq_some_iff.1 hm').1
            simp at this
            omega
          subst this
          rw [List.getElem?_append_right (by omega), h1] at hm'
          simp at hm'
          subst hm'
          rw [hSk] at hS'
          cases hS'
          exact h4
      · rw [List.flatten_append, List.flatten_singleton, List.take_succ_eq_append_getElem (show k < fs.toList.length by simp; omega), List.map_append, List.sum_append, List.take_add]
        rw [hoff k _ hfk] at h5
        have e : fs.toList[k] = fs[k] := by simp
        rw [e]
        simp only [List.map_cons, List.map_nil, List.sum_cons, List.sum_nil, Nat.add_zero]
        exact h3.app h5
  obtain ⟨ls, h1, h2, h3⟩ := key fs.size (Nat.le_refl _)
  refine ⟨ls.flatten, ⟨ls, by omega, h2, rfl⟩, ?_⟩
  rw [List.take_of_length_le (l := fs.toList) (by simp), ← hsz, ← hlen, List.take_length] at h3
  exact h3
def OpL (P : Program) (w : World) : List Field → List (List AV → Prop) → Prop
  | [], [] => True
  | f :: fs, S :: Ss => Opens P w f.type S ∧ OpL P w fs Ss
  | _, _ => False
def offB (P : Program) : List Field → Nat → Bool
  | [], _ => true
  | f :: fs, n => (f.offset == n) && offB P fs (n + P.cellsOf f.type)
theorem OpL.len : ∀ {fs : List Field} {Ss : List (List AV → Prop)}, OpL P w fs Ss → fs.length = Ss.length
  | [], [], _ => rfl
  | _ :: _, _ :: _, h => by simp [OpL.len h.2]
  | [], _ :: _, h => h.elim
  | _ :: _, [], h => h.elim
theorem OpL.get : ∀ {fs : List Field} {Ss : List (List AV → Prop)} (i : Nat) {f : Field} {S : List AV → Prop}, OpL P w fs Ss → fs[i]? = some f → Ss[i]? = some S → Opens P w f.type S
  | _ :: _, _ :: _, 0, _, _, h, e1, e2 => by simp at e1 e2; subst e1; subst e2; exact h.1
  | _ :: _, _ :: _, i + 1, _, _, h, e1, e2 => OpL.get i h.2 (by simpa using e1) (by simpa using e2)
  | [], [], _, _, _, _, e1, _ => by simp at e1
  | [], _ :: _, _, _, _, h, _, _ => h.elim
  | _ :: _, [], _, _, _, h, _, _ => h.elim
theorem offB_get : ∀ {fs : List Field} {n : Nat} (i : Nat) {f : Field}, offB P fs n = true → fs[i]? = some f → f.offset = n + ((fs.take i).map fun g => P.cellsOf g.type).sum
  | _ :: _, _, 0, _, h, e => by
    simp at e
    subst e
    simp only [offB, Bool.and_eq_true, beq_iff_eq] at h
    simpa using h.1
  | g :: fs, n, i + 1, _, h, e => by
    simp only [offB, Bool.and_eq_true, beq_iff_eq] at h
    have := offB_get i h.2 (by simpa using e)
    simp only [List.take_succ_cons, List.map_cons, List.sum_cons]
    omega
  | [], _, _, _, _, e => by simp at e
/-- a struct's fields lie one behind the other -/
theorem Opens.fields {t : TypeId} {fl : List Field} {Ss : List (List AV → Prop)} (ht : P.underlying t = some (.struct fl.toArray)) (hS : OpL P w fl Ss) (ho : offB P fl 0 = true) (hsz : P.cellsOf t = (fl.map fun g => P.cellsOf g.type).sum) :
    Opens P w t fun l => ∃ ls : List (List AV), ls.length = Ss.length ∧ (∀ (i : Nat) (S : List AV → Prop) (m : List AV), Ss[i]? = some S → ls[i]? = some m → S m) ∧ l = ls.flatten :=
  Opens.struct ht (by simpa using hS.len) (fun i f S h1 h2 => hS.get i (by simpa using h1) h2) (fun i f h => by simpa using offB_get i ho (by simpa using h)) hsz
/-- slices: of the kind of elements e, each as `ok` says -/
theorem Opens.slice {t te : TypeId} {e : Ety} {S : List AV → Prop} {ok : e.T → Prop} (ht : P.underlying t = some (.slice te)) (hsz : P.cellsOf te = e.sz) (he : Opens P w te S) (hok : ∀ l, S l → ∃ x : e.T, e.enc x = l ∧ ok x) :
    Opens P w t fun l => ∃ xs : List e.T, xs.length ≤ maxLen ∧ (∀ x ∈ xs, ok x) ∧ l = [.ro e xs] := fun H enc base spare held fuel cs x hx => by
  rcases DataW.trod_slice ht hx with ⟨rfl, _⟩ | ⟨a, len, cap, elems, rest, n, _, rfl, _, _, hlc, hcm, hel, hg, _⟩
  · exact ⟨[.ro e []], ⟨[], by simp, by simp, rfl⟩, .cons (.ro0 (Nat.zero_le _)) .nil⟩
  · by_cases h0 : len = 0
    · subst h0
      exact ⟨[.ro e []], ⟨[], by simp, by simp, rfl⟩, .cons (.ro0 hcm) .nil⟩
    · have hz := e.sz_pos
      have each : ∀ i, i < len → ∃ (m : e.T) (cs' : List Value), ok m ∧ LRel (oldR w) [] (e.enc m) cs' ∧ w.cells? base (a.add (i * e.sz)) e.sz = some cs' := by
        intro i hi
        have h1 := hg i hi
        rw [List.getElem?_eq_getElem (by omega), hsz] at h1
        obtain ⟨cs', h2, h3⟩ := Option.bind_eq_some_iff.1 h1
        obtain ⟨l, h4, h5⟩ := he H enc base spare held n _ _ h3
        obtain ⟨m, rfl, h6⟩ := hok l h4
        exact ⟨m, cs', h6, h5, h2⟩
      obtain ⟨_, _, _, _, hc0⟩ := each 0 (by omega)
      obtain ⟨hs, arr, ty, fr, hb, _⟩ := cells_of hc0 hz
      have hs0 : a.spot = none := by
        rw [Nat.zero_mul] at hs
        simpa [Addr.add] using hs
      rw [add_block] at hb
      have key : ∀ k, k ≤ len → ∃ xs : List e.T, xs.length = k ∧ (∀ x ∈ xs, ok x) ∧ LRel (oldR w) [] (xs.flatMap e.enc) ((arr.toList.drop a.off).take (k * e.sz)) := by
        intro k
        induction k with
        | zero => intro _; exact ⟨[], rfl, by simp, by simp; exact .nil⟩
        | succ k ih =>
          intro hk
          obtain ⟨xs, h1, h2, h3⟩ := ih (by omega)
          obtain ⟨m, cs', h4, h5, h6⟩ := each k (by omega)
          obtain ⟨_, arr', ty', fr', hb', h7⟩ := cells_of h6 hz
          rw [add_block, hb] at hb'
          cases hb'
          rw [add_off] at h7
          refine ⟨xs ++ [m], by simp [h1], fun x hx => ?_, ?_⟩
          · rcases List.mem_append.1 hx with hx | hx
            · exact h2 x hx
            · rw [List.mem_singleton] at hx
              subst hx
              exact h4
          · rw [List.flatMap_append, List.flatMap_singleton, Nat.succ_mul, List.take_add, List.drop_drop, h7]
            exact h3.app h5
      obtain ⟨xs, h1, h2, h3⟩ := key len (Nat.le_refl _)
      refine ⟨[.ro e xs], ⟨xs, by omega, h2, rfl⟩, .cons ?_ .nil⟩
      obtain ⟨ab, ao, sp⟩ := a
      simp only at hs0
      subst hs0
      rw [← h1]
      exact .ro hb (by rw [h1]; exact h3) (by omega) hcm
/-! ### Arguments -/
def OpensV (P : Program) (w : World) (t : TypeId) (S : AV → Prop) : Prop :=
  ∀ (H : Type) (enc : TypeId × Value → H) (r : Reach) (b0 : Nat) (v : Value) (d : DataW H) (p : List MemPlace), Value.okWide P w r b0 t v → DataW.Trod enc P w 0 (fun _ => true) true t v d p → ∃ a, S a ∧ Rel (oldR w) [] a v
theorem Opens.argS {t : TypeId} {fs : Array Field} {S : List AV → Prop} (ht : P.underlying t = some (.struct fs)) (h : Opens P w t S) : OpensV P w t fun a => ∃ l, S l ∧ a = .agg l := fun H enc r b0 v d p hv hd => by
  obtain ⟨fuel, hd⟩ := hd
  obtain ⟨l, h1, h2⟩ := h H enc _ _ _ fuel _ _ hd
  unfold Value.okWide at hv
  simp only [ht] at hv
  obtain ⟨cs, rfl, _, _⟩ := hv
  exact ⟨.agg l, ⟨l, h1, rfl⟩, by simpa [Value.cells] using Rel.agg h2⟩
theorem Opens.arg1 {t : TypeId} {S : List AV → Prop} (h : Opens P w t S) (ht : ∀ v r b0, Value.okWide P w r b0 t v → v.cells = #[v]) : OpensV P w t fun a => S [a] := fun H enc r b0 v d p hv hd => by
  obtain ⟨fuel, hd⟩ := hd
  obtain ⟨l, h1, h2⟩ := h H enc _ _ _ fuel _ _ hd
  rw [ht v r b0 hv] at h2
  cases h2 with
  | cons h3 h4 =>
    cases h4
    exact ⟨_, h1, h3⟩
theorem one_of {t : TypeId} {u : TypeDesc} (ht : P.underlying t = some u) (hu : (match u with | .bool | .int _ | .string | .slice _ => true | _ => false) = true) (v : Value) (r : Reach) (b0 : Nat) (hv : Value.okWide P w r b0 t v) : v.cells = #[v] := by
  unfold Value.okWide at hv
  cases u <;> simp at hu <;> simp only [ht] at hv <;> unfold Cell.okWide Cell.ok at hv <;> simp only [ht] at hv <;> cases v <;> first | rfl | (simp at hv; done)
end
/-- a call over nothing but what lies for good leaves what lay there as it is -/
theorem does_calls {P : Program} {g : FuncId} {xs : List AV} {S : AV → Prop} {vs : List Value} {w : World} (H : Does P g xs [] fun a _ => S a) (hr : LRel (oldR w) [] xs vs) : Calls P g vs.toArray w fun e w' => (∃ v a R μ, e = .returned v ∧ S a ∧ Rel R μ a v) ∧ Go.RowKit.Below w.heap.size w w' :=
  (H.run (oldR w) [] w vs hr (old_ok w)).mono fun e w' hx => by
    obtain ⟨v, R', μ', h', av, rfl, h1, h2, _, _, h3⟩ := hx
    exact ⟨⟨v, av, R', μ', rfl, h1, h2⟩, h3.os, h3.tape, h3.output, h3.size, fun k hk => h3.out k hk (by simp [ownH])⟩
theorem does_true {P : Program} {g : FuncId} {xs : List AV} {vs : List Value} {w : World} (H : Does P g xs [] fun a _ => a = .bool true) (hr : LRel (oldR w) [] xs vs) : Calls P g vs.toArray w fun e w' => e = .returned (.bool true) ∧ Go.RowKit.Below w.heap.size w w' :=
  (does_calls H hr).mono fun e w' hx => by
    obtain ⟨⟨v, a, R, μ, rfl, rfl, h2⟩, hb⟩ := hx
    cases h2
    exact ⟨rfl, hb⟩
end Go.V
