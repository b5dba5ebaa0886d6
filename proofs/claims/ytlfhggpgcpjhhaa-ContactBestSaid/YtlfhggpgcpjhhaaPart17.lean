/-
  Contacts: Plan, the program's.
-/
import Derived.Test.YtlfhggpgcpjhhaaPart16
set_option linter.unusedVariables false
set_option linter.unusedSimpArgs false
set_option maxRecDepth 100000
set_option maxHeartbeats 16000000
namespace Go.V
open Go.Proofs
def plnE (l : List Win) (g : Int) : Int := if 256 < l.length then 6 else if g < 0 ∨ 1099511627776 < g ∨ l.any nvW = true then 1 else 0
theorem plnE_ok {l : List Win} {g : Int} (h : plnE l g = 0) : l.length ≤ 256 ∧ gapB g ∧ l.any nvW = false ∧ bdL l := by
  unfold plnE at h
  split at h
  · cases h
  · rename_i h1
    split at h
    · cases h
    · rename_i h2
      have h3 : l.any nvW = false := by
        cases q : l.any nvW
        · rfl
        · exact absurd (.inr (.inr q)) h2
      refine ⟨by omega, ⟨by omega, by omega⟩, h3, fun x hx => ?_⟩
      have := List.any_eq_false.1 h3 x hx
      unfold nvW at this
      exact bdW_vld (by simpa using this)
theorem b_planF (l : List Win) (g : Int) (hl : l.length ≤ 9223372036854775807) (he : ¬ plnE l g = 0) : DoesK Try.prog 0 9 [.ro .win l, .int .i64 g] [] (EndF 0 (.tup [.lit (.slice none 0 0), .int .i64 (plnE l g)]) []) := by
  refine DoesK.close ?_
  by_cases c1 : 256 < l.length
  · have d1 : decide ((256 : Int) < l.length) = true := decide_eq_true (by omega)
    have e1 : plnE l g = 6 := if_pos c1
    rw [e1]
    refine w_body (rs := [.tmp 4, .tmp 5]) (tm := [.ro .win l, .int .i64 g, .any, .any, .any, .any, .any, .any, .any, .any, .any, .any, .any, .any, .any, .any, .any, .any, .any, .any, .any, .any, .any, .any, .any, .any, .any, .any, .any, .any, .any, .any, .any, .any, .any, .any, .any, .any, .any, .any, .any, .any, .any, .any, .any, .any, .any, .any, .any, .any, .any, .any, .any, .any, .any, .any, .any, .any, .any, .any, .any, .any, .any, .any, .any, .any, .any, .any, .any, .any, .any]) fn_9 rfl rfl rfl rfl fun R hR => ?_
    (have zx1 := @d1; all_goals (try ((first | (with_reducible refine wp_id ?_) | (with_reducible refine does_id ?_) | (with_reducible refine ops_id ?_)); refine walk ?_; (repeat' (first | exact trivial | with_reducible refine And.intro ?_ ?_)); all_goals (repeat (first | (with_reducible refine ImpB.mk fun hb => ?_) | (with_reducible refine ImpK.mk fun hK => ?_) | (with_reducible refine ImpF.mk fun hF => ?_) | (with_reducible refine ImpQ.mk fun hp => ?_) | (with_reducible refine AllE.mk fun p => ?_) | (with_reducible refine AllR.mk fun rest => ?_) | (with_reducible refine AllK.mk fun K => ?_))))); repeat' (with_reducible refine And.intro ?_ ?_))
    (all_goals first | exact Int.natCast_nonneg _ | exact Int.ofNat_lt.2 (by assumption) | assumption | omega | exact Nat.le_refl _ | (exfalso; simp at hb; done) | (simp only [go_sem, decide_true, decide_false, Int.reduceToNat, Nat.min_eq_left, Nat.min_eq_right, Int.reducePow, Nat.reducePow, Int.reduceLE, Int.reduceLT, Int.reduceMul, Int.reduceAdd, Int.reduceSub, Int.reduceNeg, Bool.not_true, Bool.not_false, Bool.not_not, ↓reduceIte, Nat.reduceAdd, Nat.reduceSub, Nat.reduceMul, Nat.reduceEqDiff, reduceCtorEq, Nat.reduceLT, Nat.reduceLeDiff, Nat.reduceGT]; done) | (unfold capM; omega) | (simp only [List.length_drop, List.length_take, List.length_append, List.length_cons, List.length_nil]; omega) | skip)
    (focus (refine ⟨_, _, Gh.refl, [], rfl, ?_⟩; (refine ⟨?_, ?_, ?_⟩ <;> simp only [go_sem, List.range, List.range.loop, List.nodup_cons, List.nodup_nil, List.mem_cons, List.not_mem_nil, or_false, or_self, decide_true, decide_false, Int.reduceToNat, Nat.min_eq_left, Nat.min_eq_right, Int.reducePow, Nat.reducePow, Int.reduceLE, Int.reduceLT, Int.reduceMul, Int.reduceAdd, Int.reduceSub, Int.reduceNeg, Bool.not_true, Bool.not_false, Bool.not_not, ↓reduceIte, Nat.reduceAdd, Nat.reduceSub, Nat.reduceMul, Nat.reduceEqDiff, reduceCtorEq, Nat.reduceLT, Nat.reduceLeDiff, Nat.reduceGT]); (try any_goals (refine ⟨?_, ?_⟩)); (try any_goals (with_reducible rfl))))
  · have d1 : decide ((256 : Int) < l.length) = false := decide_eq_false (by omega)
    have e1 : plnE l g = 1 := by
      unfold plnE at he ⊢
      rw [if_neg c1] at he ⊢
      split at he
      · rename_i h; rw [if_pos h]
      · exact absurd rfl he
    rw [e1]
    by_cases c2 : g < 0
    · have d2 : decide (g < 0) = true := decide_eq_true c2
      refine w_body (rs := [.tmp 4, .tmp 5]) (tm := [.ro .win l, .int .i64 g, .any, .any, .any, .any, .any, .any, .any, .any, .any, .any, .any, .any, .any, .any, .any, .any, .any, .any, .any, .any, .any, .any, .any, .any, .any, .any, .any, .any, .any, .any, .any, .any, .any, .any, .any, .any, .any, .any, .any, .any, .any, .any, .any, .any, .any, .any, .any, .any, .any, .any, .any, .any, .any, .any, .any, .any, .any, .any, .any, .any, .any, .any, .any, .any, .any, .any, .any, .any, .any]) fn_9 rfl rfl rfl rfl fun R hR => ?_
      (have zx1 := @d1; have zx2 := @d2; all_goals (try ((first | (with_reducible refine wp_id ?_) | (with_reducible refine does_id ?_) | (with_reducible refine ops_id ?_)); refine walk ?_; (repeat' (first | exact trivial | with_reducible refine And.intro ?_ ?_)); all_goals (repeat (first | (with_reducible refine ImpB.mk fun hb => ?_) | (with_reducible refine ImpK.mk fun hK => ?_) | (with_reducible refine ImpF.mk fun hF => ?_) | (with_reducible refine ImpQ.mk fun hp => ?_) | (with_reducible refine AllE.mk fun p => ?_) | (with_reducible refine AllR.mk fun rest => ?_) | (with_reducible refine AllK.mk fun K => ?_))))); repeat' (with_reducible refine And.intro ?_ ?_))
      (all_goals first | exact Int.natCast_nonneg _ | exact Int.ofNat_lt.2 (by assumption) | assumption | omega | exact Nat.le_refl _ | (exfalso; simp at hb; done) | (simp only [go_sem, decide_true, decide_false, Int.reduceToNat, Nat.min_eq_left, Nat.min_eq_right, Int.reducePow, Nat.reducePow, Int.reduceLE, Int.reduceLT, Int.reduceMul, Int.reduceAdd, Int.reduceSub, Int.reduceNeg, Bool.not_true, Bool.not_false, Bool.not_not, ↓reduceIte, Nat.reduceAdd, Nat.reduceSub, Nat.reduceMul, Nat.reduceEqDiff, reduceCtorEq, Nat.reduceLT, Nat.reduceLeDiff, Nat.reduceGT]; done) | (unfold capM; omega) | (simp only [List.length_drop, List.length_take, List.length_append, List.length_cons, List.length_nil]; omega) | skip)
      (focus (refine ⟨_, _, Gh.refl, [], rfl, ?_⟩; (refine ⟨?_, ?_, ?_⟩ <;> simp only [go_sem, List.range, List.range.loop, List.nodup_cons, List.nodup_nil, List.mem_cons, List.not_mem_nil, or_false, or_self, decide_true, decide_false, Int.reduceToNat, Nat.min_eq_left, Nat.min_eq_right, Int.reducePow, Nat.reducePow, Int.reduceLE, Int.reduceLT, Int.reduceMul, Int.reduceAdd, Int.reduceSub, Int.reduceNeg, Bool.not_true, Bool.not_false, Bool.not_not, ↓reduceIte, Nat.reduceAdd, Nat.reduceSub, Nat.reduceMul, Nat.reduceEqDiff, reduceCtorEq, Nat.reduceLT, Nat.reduceLeDiff, Nat.reduceGT]); (try any_goals (refine ⟨?_, ?_⟩)); (try any_goals (with_reducible rfl))))
    · have d2 : decide (g < 0) = false := decide_eq_false c2
      by_cases c3 : 1099511627776 < g
      · have d3 : decide (1099511627776 < g) = true := decide_eq_true c3
        refine w_body (rs := [.tmp 4, .tmp 5]) (tm := [.ro .win l, .int .i64 g, .any, .any, .any, .any, .any, .any, .any, .any, .any, .any, .any, .any, .any, .any, .any, .any, .any, .any, .any, .any, .any, .any, .any, .any, .any, .any, .any, .any, .any, .any, .any, .any, .any, .any, .any, .any, .any, .any, .any, .any, .any, .any, .any, .any, .any, .any, .any, .any, .any, .any, .any, .any, .any, .any, .any, .any, .any, .any, .any, .any, .any, .any, .any, .any, .any, .any, .any, .any, .any]) fn_9 rfl rfl rfl rfl fun R hR => ?_
        (have zx1 := @d1; have zx2 := @d2; have zx3 := @d3; all_goals (try ((first | (with_reducible refine wp_id ?_) | (with_reducible refine does_id ?_) | (with_reducible refine ops_id ?_)); refine walk ?_; (repeat' (first | exact trivial | with_reducible refine And.intro ?_ ?_)); all_goals (repeat (first | (with_reducible refine ImpB.mk fun hb => ?_) | (with_reducible refine ImpK.mk fun hK => ?_) | (with_reducible refine ImpF.mk fun hF => ?_) | (with_reducible refine ImpQ.mk fun hp => ?_) | (with_reducible refine AllE.mk fun p => ?_) | (with_reducible refine AllR.mk fun rest => ?_) | (with_reducible refine AllK.mk fun K => ?_))))); repeat' (with_reducible refine And.intro ?_ ?_))
        (all_goals first | exact Int.natCast_nonneg _ | exact Int.ofNat_lt.2 (by assumption) | assumption | omega | exact Nat.le_refl _ | (exfalso; simp at hb; done) | (simp only [go_sem, decide_true, decide_false, Int.reduceToNat, Nat.min_eq_left, Nat.min_eq_right, Int.reducePow, Nat.reducePow, Int.reduceLE, Int.reduceLT, Int.reduceMul, Int.reduceAdd, Int.reduceSub, Int.reduceNeg, Bool.not_true, Bool.not_false, Bool.not_not, ↓reduceIte, Nat.reduceAdd, Nat.reduceSub, Nat.reduceMul, Nat.reduceEqDiff, reduceCtorEq, Nat.reduceLT, Nat.reduceLeDiff, Nat.reduceGT]; done) | (unfold capM; omega) | (simp only [List.length_drop, List.length_take, List.length_append, List.length_cons, List.length_nil]; omega) | skip)
        (focus (refine ⟨_, _, Gh.refl, [], rfl, ?_⟩; (refine ⟨?_, ?_, ?_⟩ <;> simp only [go_sem, List.range, List.range.loop, List.nodup_cons, List.nodup_nil, List.mem_cons, List.not_mem_nil, or_false, or_self, decide_true, decide_false, Int.reduceToNat, Nat.min_eq_left, Nat.min_eq_right, Int.reducePow, Nat.reducePow, Int.reduceLE, Int.reduceLT, Int.reduceMul, Int.reduceAdd, Int.reduceSub, Int.reduceNeg, Bool.not_true, Bool.not_false, Bool.not_not, ↓reduceIte, Nat.reduceAdd, Nat.reduceSub, Nat.reduceMul, Nat.reduceEqDiff, reduceCtorEq, Nat.reduceLT, Nat.reduceLeDiff, Nat.reduceGT]); (try any_goals (refine ⟨?_, ?_⟩)); (try any_goals (with_reducible rfl))))
      · have d3 : decide (1099511627776 < g) = false := decide_eq_false c3
        have d4 : l.any nvW = true := by
          unfold plnE at e1
          rw [if_neg c1] at e1
          split at e1
          · rename_i h; rcases h with h | h | h
            · exact absurd h c2
            · exact absurd h c3
            · exact h
          · cases e1
        refine w_body (rs := [.tmp 4, .tmp 5]) (tm := [.ro .win l, .int .i64 g, .any, .any, .any, .any, .any, .any, .any, .any, .any, .any, .any, .any, .any, .any, .any, .any, .any, .any, .any, .any, .any, .any, .any, .any, .any, .any, .any, .any, .any, .any, .any, .any, .any, .any, .any, .any, .any, .any, .any, .any, .any, .any, .any, .any, .any, .any, .any, .any, .any, .any, .any, .any, .any, .any, .any, .any, .any, .any, .any, .any, .any, .any, .any, .any, .any, .any, .any, .any, .any]) fn_9 rfl rfl rfl rfl fun R hR => ?_
        (have zx1 := @d1; have zx2 := @d2; have zx3 := @d3; have zx4 := @d4; all_goals (try ((first | (with_reducible refine wp_id ?_) | (with_reducible refine does_id ?_) | (with_reducible refine ops_id ?_)); refine walk ?_; (repeat' (first | exact trivial | with_reducible refine And.intro ?_ ?_)); all_goals (repeat (first | (with_reducible refine ImpB.mk fun hb => ?_) | (with_reducible refine ImpK.mk fun hK => ?_) | (with_reducible refine ImpF.mk fun hF => ?_) | (with_reducible refine ImpQ.mk fun hp => ?_) | (with_reducible refine AllE.mk fun p => ?_) | (with_reducible refine AllR.mk fun rest => ?_) | (with_reducible refine AllK.mk fun K => ?_))))); repeat' (with_reducible refine And.intro ?_ ?_))
        (all_goals first | exact Int.natCast_nonneg _ | exact Int.ofNat_lt.2 (by assumption) | assumption | omega | exact Nat.le_refl _ | (exfalso; simp at hb; done) | (simp only [go_sem, decide_true, decide_false, Int.reduceToNat, Nat.min_eq_left, Nat.min_eq_right, Int.reducePow, Nat.reducePow, Int.reduceLE, Int.reduceLT, Int.reduceMul, Int.reduceAdd, Int.reduceSub, Int.reduceNeg, Bool.not_true, Bool.not_false, Bool.not_not, ↓reduceIte, Nat.reduceAdd, Nat.reduceSub, Nat.reduceMul, Nat.reduceEqDiff, reduceCtorEq, Nat.reduceLT, Nat.reduceLeDiff, Nat.reduceGT]; done) | (unfold capM; omega) | (simp only [List.length_drop, List.length_take, List.length_append, List.length_cons, List.length_nil]; omega) | skip)
        (focus (refine ⟨_, _, Gh.refl, [], rfl, ?_⟩; (refine ⟨?_, ?_, ?_⟩ <;> simp only [go_sem, List.range, List.range.loop, List.nodup_cons, List.nodup_nil, List.mem_cons, List.not_mem_nil, or_false, or_self, decide_true, decide_false, Int.reduceToNat, Nat.min_eq_left, Nat.min_eq_right, Int.reducePow, Nat.reducePow, Int.reduceLE, Int.reduceLT, Int.reduceMul, Int.reduceAdd, Int.reduceSub, Int.reduceNeg, Bool.not_true, Bool.not_false, Bool.not_not, ↓reduceIte, Nat.reduceAdd, Nat.reduceSub, Nat.reduceMul, Nat.reduceEqDiff, reduceCtorEq, Nat.reduceLT, Nat.reduceLeDiff, Nat.reduceGT]); (try any_goals (refine ⟨?_, ?_⟩)); (try any_goals (with_reducible rfl))))
/-- what holds at the loop's head -/
structure PlnI (g : Int) (l : List Win) (i : Nat) (q : List Nat) : Prop where
  gre : Gre g l i q
  pl : planN g l (bestW g l) (l.length - i) i q = planW g l
theorem PlnI.zero (g : Int) (l : List Win) : PlnI g l 0 [] := ⟨Gre.zero g l, rfl⟩
theorem PlnI.no {g : Int} {l : List Win} {i : Nat} {q : List Nat} (h : PlnI g l i q) (hi : i < l.length) (hl : ¬ bestW g l ≤ valP l q) (hf : fitP g l q (wAt l i) = false) : PlnI g l (i + 1) q := by
  refine ⟨h.gre.no hi hf, ?_⟩
  have := h.pl
  rw [show l.length - i = (l.length - (i + 1)) + 1 by omega, planN, if_neg hl, hf] at this
  exact this
theorem PlnI.skip {g : Int} {l : List Win} {i : Nat} {q : List Nat} (h : PlnI g l i q) (hi : i < l.length) (hl : ¬ bestW g l ≤ valP l q) (hf : fitP g l q (wAt l i) = true) (hn : ¬ (wAt l i).va + bestW g (restP g l (q ++ [i]) (i + 1)) = bestW g l - valP l q) : PlnI g l (i + 1) q := by
  refine ⟨h.gre.skip hi hf hn, ?_⟩
  have := h.pl
  rw [show l.length - i = (l.length - (i + 1)) + 1 by omega, planN, if_neg hl, hf, decide_eq_false hn] at this
  exact this
theorem PlnI.take {g : Int} {l : List Win} {i : Nat} {q : List Nat} (h : PlnI g l i q) (hi : i < l.length) (hl : ¬ bestW g l ≤ valP l q) (hf : fitP g l q (wAt l i) = true) (hn : (wAt l i).va + bestW g (restP g l (q ++ [i]) (i + 1)) = bestW g l - valP l q) : PlnI g l (i + 1) (q ++ [i]) := by
  refine ⟨h.gre.take hi hf hn, ?_⟩
  have := h.pl
  rw [show l.length - i = (l.length - (i + 1)) + 1 by omega, planN, if_neg hl, hf, decide_eq_true hn] at this
  exact this
theorem PlnI.fin {g : Int} {l : List Win} {i : Nat} {q : List Nat} (h : PlnI g l i q) (hl : l.length ≤ i ∨ bestW g l ≤ valP l q) : q = planW g l := by
  have := h.pl
  cases hn : l.length - i with
  | zero => rw [hn] at this; exact this
  | succ n =>
    rw [hn, planN, if_pos (by rcases hl with hl | hl; omega; exact hl)] at this
    exact this
theorem pl_len {g : Int} {l : List Win} {q : List Nat} (h : IsPl g l q) : q.length ≤ l.length := by
  have := (asc_sub l q 0 h.asc fun k hk => ⟨Nat.zero_le _, h.lt k hk⟩).length_le
  rw [List.length_map, List.drop_zero] at this
  exact this
theorem sum_ge0 : ∀ {l : List Win}, bdL l → 0 ≤ sumW l
  | [], _ => Int.le_refl _
  | w :: l, h => by
    have h1 := sum_ge0 (l := l) fun x hx => h x (by simp [hx])
    have h2 := (h w (by simp)).2.2.2.1
    rw [sumW]; omega
theorem valP_ge0 {l : List Win} {q : List Nat} (h : bdL l) (hq : ∀ k ∈ q, k < l.length) : 0 ≤ valP l q := sum_ge0 fun x hx => by
  obtain ⟨k, hk, rfl⟩ := List.mem_map.1 hx
  exact bdL_at h (hq k hk)
def plA (q : List Nat) (b : Bool) : AV := if b then .ro .int (nI q) else .sl 3 .int 0 (nI q).length
def plC (q : List Nat) (b : Bool) : Ch := if b then .gone else .rows .int (nI q)
theorem b_planT (l : List Win) (g : Int) (he : plnE l g = 0) : DoesK Try.prog 0 9 [.ro .win l, .int .i64 g] [] (EndF 0 (.tup [.ro .int (nI (planW g l)), .int .i64 0]) []) := by
  refine DoesK.close ?_
  obtain ⟨hl, hg, hany, hv⟩ := plnE_ok he
  have d1 : decide ((256 : Int) < l.length) = false := decide_eq_false (by omega)
  have d2 : decide (g < 0) = false := decide_eq_false (by have := hg.1; omega)
  have d3 : decide (1099511627776 < g) = false := decide_eq_false (by have := hg.2; omega)
  refine w_body (rs := [.tmp 4, .tmp 5]) (tm := [.ro .win l, .int .i64 g, .any, .any, .any, .any, .any, .any, .any, .any, .any, .any, .any, .any, .any, .any, .any, .any, .any, .any, .any, .any, .any, .any, .any, .any, .any, .any, .any, .any, .any, .any, .any, .any, .any, .any, .any, .any, .any, .any, .any, .any, .any, .any, .any, .any, .any, .any, .any, .any, .any, .any, .any, .any, .any, .any, .any, .any, .any, .any, .any, .any, .any, .any, .any, .any, .any, .any, .any, .any, .any]) fn_9 rfl rfl rfl rfl fun R hR => ?_
  (have zx1 := @d1; have zx2 := @d2; have zx3 := @d3; have zx4 := @hany; all_goals (try ((first | (with_reducible refine wp_id ?_) | (with_reducible refine does_id ?_) | (with_reducible refine ops_id ?_)); refine walk ?_; (repeat' (first | exact trivial | with_reducible refine And.intro ?_ ?_)); all_goals (repeat (first | (with_reducible refine ImpB.mk fun hb => ?_) | (with_reducible refine ImpK.mk fun hK => ?_) | (with_reducible refine ImpF.mk fun hF => ?_) | (with_reducible refine ImpQ.mk fun hp => ?_) | (with_reducible refine AllE.mk fun p => ?_) | (with_reducible refine AllR.mk fun rest => ?_) | (with_reducible refine AllK.mk fun K => ?_))))); repeat' (with_reducible refine And.intro ?_ ?_))
  (all_goals first | exact Int.natCast_nonneg _ | exact Int.ofNat_lt.2 (by assumption) | assumption | omega | exact Nat.le_refl _ | (exfalso; simp at hb; done) | (simp only [go_sem, decide_true, decide_false, Int.reduceToNat, Nat.min_eq_left, Nat.min_eq_right, Int.reducePow, Nat.reducePow, Int.reduceLE, Int.reduceLT, Int.reduceMul, Int.reduceAdd, Int.reduceSub, Int.reduceNeg, Bool.not_true, Bool.not_false, Bool.not_not, ↓reduceIte, Nat.reduceAdd, Nat.reduceSub, Nat.reduceMul, Nat.reduceEqDiff, reduceCtorEq, Nat.reduceLT, Nat.reduceLeDiff, Nat.reduceGT]; done) | (unfold capM; omega) | (simp only [List.length_drop, List.length_take, List.length_append, List.length_cons, List.length_nil]; omega) | skip)
  refine Wp.ghost (gh_adopt (s := 7) .int trivial) ?_
  simp only [go_sem, decide_true, decide_false, Int.reduceToNat, Nat.min_eq_left, Nat.min_eq_right, Int.reducePow, Nat.reducePow, Int.reduceLE, Int.reduceLT, Int.reduceMul, Int.reduceAdd, Int.reduceSub, Int.reduceNeg, Bool.not_true, Bool.not_false, Bool.not_not, ↓reduceIte, Nat.reduceAdd, Nat.reduceSub, Nat.reduceMul, Nat.reduceEqDiff, reduceCtorEq, Nat.reduceLT, Nat.reduceLeDiff, Nat.reduceGT]
  any_goals ((try (refine w_seq fun K hK => ?_)); (try (refine w_block ?_)); refine w_loop (A := Nat × List Nat × Bool) (fun p => PlnI g l p.1 p.2.1) (fun p => l.length - p.1) (fun p => [(6, .int .i64 (bestW g l - valP l p.2.1)), (7, plA p.2.1 p.2.2), (8, .ptr 2 0)]) (fun p => [(2, .cells [.int .i64 p.1]), (3, plC p.2.1 p.2.2)]) ((0, [], false)) (ws := ?ws1) (tk := ?tk1) ?hw1 ?ht1 ?hi ?h0 ?LH1; (case hw1 => simp only [go_sem, decide_true, decide_false, Int.reduceToNat, Nat.min_eq_left, Nat.min_eq_right, Int.reducePow, Nat.reducePow, Int.reduceLE, Int.reduceLT, Int.reduceMul, Int.reduceAdd, Int.reduceSub, Int.reduceNeg, Bool.not_true, Bool.not_false, Bool.not_not, ↓reduceIte, Nat.reduceAdd, Nat.reduceSub, Nat.reduceMul, Nat.reduceEqDiff, reduceCtorEq, Nat.reduceLT, Nat.reduceLeDiff, Nat.reduceGT]; exact rfl); (case ht1 => simp only [go_sem, decide_true, decide_false, Int.reduceToNat, Nat.min_eq_left, Nat.min_eq_right, Int.reducePow, Nat.reducePow, Int.reduceLE, Int.reduceLT, Int.reduceMul, Int.reduceAdd, Int.reduceSub, Int.reduceNeg, Bool.not_true, Bool.not_false, Bool.not_not, ↓reduceIte, Nat.reduceAdd, Nat.reduceSub, Nat.reduceMul, Nat.reduceEqDiff, reduceCtorEq, Nat.reduceLT, Nat.reduceLeDiff, Nat.reduceGT]; exact rfl); (case' LH1 => rintro ⟨i, q, b⟩ E t hx hE ht; simp only [go_sem] at ht; subst ht; simp only [go_sem]; try dsimp only at hx))
  case hi => exact PlnI.zero g l
  case h0 =>
    (focus (refine ⟨_, _, Gh.refl, [0, 1, 2, 3], rfl, ?_⟩; (refine ⟨?_, ?_, ?_⟩ <;> simp only [go_sem, List.range, List.range.loop, List.nodup_cons, List.nodup_nil, List.mem_cons, List.not_mem_nil, or_false, or_self, decide_true, decide_false, Int.reduceToNat, Nat.min_eq_left, Nat.min_eq_right, Int.reducePow, Nat.reducePow, Int.reduceLE, Int.reduceLT, Int.reduceMul, Int.reduceAdd, Int.reduceSub, Int.reduceNeg, Bool.not_true, Bool.not_false, Bool.not_not, ↓reduceIte, Nat.reduceAdd, Nat.reduceSub, Nat.reduceMul, Nat.reduceEqDiff, reduceCtorEq, Nat.reduceLT, Nat.reduceLeDiff, Nat.reduceGT]); (try any_goals (refine ⟨?_, ?_⟩)); (try any_goals (with_reducible rfl))))
    · show bestW g l - 0 = bestW g l
      omega
    · exact ⟨rfl, rfl, rfl, rfl⟩
    · exact rfl
  case LH1 =>
    have hI : PlnI g l i q := hx
    have hq := hI.gre.pl.lt
    have hql := pl_len hI.gre.pl
    have hv0 := valP_ge0 hv hq
    have hvb := hI.gre.pl.le
    have hbb := best_bd (g := g) hv (by omega)
    have hil := hI.gre.il
    have hnl := nI_len q
    have hw : IntKind.i64.wrap ((i : Int) + 1) = ((i + 1 : Nat) : Int) := by rw [wrap_i64 _ (by omega) (by omega)]; omega
    have hz : ((nI q).drop 0).take (nI q).length = nI q := by rw [List.drop_zero, List.take_length]
    have hz' : (nI q).take (nI q).length = nI q := List.take_length
    cases b
    all_goals simp only [plA, plC, Bool.false_eq_true, if_false, if_true]
    case' false =>
      refine Wp.ghost (gh_frz (t := 3) (e := .int) (xs := nI q) rfl ?f1 ?f2) ?_
      case' f1 => (simp only [go_sem, decide_true, decide_false, Int.reduceToNat, Nat.min_eq_left, Nat.min_eq_right, Int.reducePow, Nat.reducePow, Int.reduceLE, Int.reduceLT, Int.reduceMul, Int.reduceAdd, Int.reduceSub, Int.reduceNeg, Bool.not_true, Bool.not_false, Bool.not_not, ↓reduceIte, Nat.reduceAdd, Nat.reduceSub, Nat.reduceMul, Nat.reduceEqDiff, reduceCtorEq, Nat.reduceLT, Nat.reduceLeDiff, Nat.reduceGT]; exact Nat.le_refl _)
      case' f2 => simp only [go_sem, decide_true, decide_false, Int.reduceToNat, Nat.min_eq_left, Nat.min_eq_right, Int.reducePow, Nat.reducePow, Int.reduceLE, Int.reduceLT, Int.reduceMul, Int.reduceAdd, Int.reduceSub, Int.reduceNeg, Bool.not_true, Bool.not_false, Bool.not_not, ↓reduceIte, Nat.reduceAdd, Nat.reduceSub, Nat.reduceMul, Nat.reduceEqDiff, reduceCtorEq, Nat.reduceLT, Nat.reduceLeDiff, Nat.reduceGT]
      change Wp _ _ _ (frL 3 .int (nI q) _) (frHs 3 .int (nI q) [.cells [.ro .win l], .cells [.int .i64 g], .cells [.int .i64 (i : Int)], .gone]) _
      simp only [go_sem, decide_true, decide_false, Int.reduceToNat, Nat.min_eq_left, Nat.min_eq_right, Int.reducePow, Nat.reducePow, Int.reduceLE, Int.reduceLT, Int.reduceMul, Int.reduceAdd, Int.reduceSub, Int.reduceNeg, Bool.not_true, Bool.not_false, Bool.not_not, ↓reduceIte, Nat.reduceAdd, Nat.reduceSub, Nat.reduceMul, Nat.reduceEqDiff, reduceCtorEq, Nat.reduceLT, Nat.reduceLeDiff, Nat.reduceGT, hz, hz']
    all_goals
      by_cases c1 : i < l.length
      · have e1 : decide ((i : Int) < l.length) = true := decide_eq_true (by omega)
        by_cases c2 : bestW g l ≤ valP l q
        · have e2 : decide (0 < bestW g l - valP l q) = false := decide_eq_false (by omega)
          have hfin := hI.fin (.inr c2)
          (have zx1 := @e1; have zx2 := @e2; all_goals (try ((first | (with_reducible refine wp_id ?_) | (with_reducible refine does_id ?_) | (with_reducible refine ops_id ?_)); refine walk ?_; (repeat' (first | exact trivial | with_reducible refine And.intro ?_ ?_)); all_goals (repeat (first | (with_reducible refine ImpB.mk fun hb => ?_) | (with_reducible refine ImpK.mk fun hK => ?_) | (with_reducible refine ImpF.mk fun hF => ?_) | (with_reducible refine ImpQ.mk fun hp => ?_) | (with_reducible refine AllE.mk fun p => ?_) | (with_reducible refine AllR.mk fun rest => ?_) | (with_reducible refine AllK.mk fun K => ?_))))); repeat' (with_reducible refine And.intro ?_ ?_))
          rw [← hfin]
          (focus (refine ⟨_, _, Gh.refl, [], rfl, ?_⟩; (refine ⟨?_, ?_, ?_⟩ <;> simp only [go_sem, List.range, List.range.loop, List.nodup_cons, List.nodup_nil, List.mem_cons, List.not_mem_nil, or_false, or_self, decide_true, decide_false, Int.reduceToNat, Nat.min_eq_left, Nat.min_eq_right, Int.reducePow, Nat.reducePow, Int.reduceLE, Int.reduceLT, Int.reduceMul, Int.reduceAdd, Int.reduceSub, Int.reduceNeg, Bool.not_true, Bool.not_false, Bool.not_not, ↓reduceIte, Nat.reduceAdd, Nat.reduceSub, Nat.reduceMul, Nat.reduceEqDiff, reduceCtorEq, Nat.reduceLT, Nat.reduceLeDiff, Nat.reduceGT]); (try any_goals (refine ⟨?_, ?_⟩)); (try any_goals (with_reducible rfl))))
        · have e2 : decide (0 < bestW g l - valP l q) = true := decide_eq_true (by omega)
          have hbi := bdL_at hv c1
          obtain ⟨b1, b2, b3, b4, b5⟩ := hbi
          cases hf : fitP g l q (wAt l i)
          · have hI' := hI.no c1 c2 hf
            have hf2 : (!fitP g l q (wAt l i)) = true := by rw [hf]; rfl
            (have zx1 := @e1; have zx2 := @e2; have zx3 := @hf2; have zx4 := @hw; all_goals (try ((first | (with_reducible refine wp_id ?_) | (with_reducible refine does_id ?_) | (with_reducible refine ops_id ?_)); refine walk ?_; (repeat' (first | exact trivial | with_reducible refine And.intro ?_ ?_)); all_goals (repeat (first | (with_reducible refine ImpB.mk fun hb => ?_) | (with_reducible refine ImpK.mk fun hK => ?_) | (with_reducible refine ImpF.mk fun hF => ?_) | (with_reducible refine ImpQ.mk fun hp => ?_) | (with_reducible refine AllE.mk fun p => ?_) | (with_reducible refine AllR.mk fun rest => ?_) | (with_reducible refine AllK.mk fun K => ?_))))); repeat' (with_reducible refine And.intro ?_ ?_))
            all_goals try (exfalso; rw [hf] at hb; exact absurd hb (by decide))
            refine ⟨(i + 1, q, true), ⟨hI', by first | omega | (dsimp only; omega)⟩, ?_⟩
            (focus (refine ⟨_, _, Gh.refl, [0, 1, 4, 3], rfl, ?_⟩; (refine ⟨?_, ?_, ?_⟩ <;> simp only [go_sem, List.range, List.range.loop, List.nodup_cons, List.nodup_nil, List.mem_cons, List.not_mem_nil, or_false, or_self, decide_true, decide_false, Int.reduceToNat, Nat.min_eq_left, Nat.min_eq_right, Int.reducePow, Nat.reducePow, Int.reduceLE, Int.reduceLT, Int.reduceMul, Int.reduceAdd, Int.reduceSub, Int.reduceNeg, Bool.not_true, Bool.not_false, Bool.not_not, ↓reduceIte, Nat.reduceAdd, Nat.reduceSub, Nat.reduceMul, Nat.reduceEqDiff, reduceCtorEq, Nat.reduceLT, Nat.reduceLeDiff, Nat.reduceGT]); (try any_goals (refine ⟨?_, ?_⟩)); (try any_goals (with_reducible rfl))))
            all_goals first | rfl | exact trivial | exact ⟨rfl, rfl, by omega⟩ | (show nI q ++ [(i : Int)] = nI (q ++ [i]); exact hap) | (show (nI q).length + 1 = (nI (q ++ [i])).length; omega) | trace_state
          · have hf2 : (!fitP g l q (wAt l i)) = false := by rw [hf]; rfl
            have hap : nI q ++ [(i : Int)] = nI (q ++ [i]) := by rw [nI_app]; rfl
            have hnl2 : (nI (q ++ [i])).length = q.length + 1 := by rw [nI_len, List.length_append]; rfl
            have hbr : bdL (restP g l (q ++ [i]) (i + 1)) := fun x hx => hv x (List.mem_of_mem_drop (List.mem_filter.1 hx).1)
            have hlr : (restP g l (q ++ [i]) (i + 1)).length ≤ l.length := Nat.le_trans (List.length_filter_le _ _) (by rw [List.length_drop]; omega)
            have hrb := best_bd (g := g) hbr (by omega)
            have hq2 : ∀ k ∈ q ++ [i], k < l.length := fun k hk => by
              rcases List.mem_append.1 hk with hk | hk
              · exact hq k hk
              · rw [List.mem_singleton] at hk; omega
            have hql2 : (q ++ [i]).length ≤ 1000000 := by rw [List.length_append]; show q.length + 1 ≤ 1000000; omega
            have w1 : IntKind.i64.wrap ((wAt l i).va + bestW g (restP g l (q ++ [i]) (i + 1))) = (wAt l i).va + bestW g (restP g l (q ++ [i]) (i + 1)) := wrap_i64 _ (by omega) (by omega)
            by_cases c3 : (wAt l i).va + bestW g (restP g l (q ++ [i]) (i + 1)) = bestW g l - valP l q
            · have e3 : decide ((wAt l i).va + bestW g (restP g l (q ++ [i]) (i + 1)) = bestW g l - valP l q) = true := decide_eq_true c3
              have hI' := hI.take c1 c2 hf c3
              have w2 : IntKind.i64.wrap (bestW g l - valP l q - (wAt l i).va) = bestW g l - valP l (q ++ [i]) := by rw [valP_app, valP_one, wrap_i64 _ (by omega) (by omega)]; omega
              (have zx1 := @e1; have zx2 := @e2; have zx3 := @hf2; have zx4 := @hw; have zx5 := @hap; have zx6 := @w1; have zx7 := @e3; have zx8 := @w2; all_goals (try ((first | (with_reducible refine wp_id ?_) | (with_reducible refine does_id ?_) | (with_reducible refine ops_id ?_)); refine walk ?_; (repeat' (first | exact trivial | with_reducible refine And.intro ?_ ?_)); all_goals (repeat (first | (with_reducible refine ImpB.mk fun hb => ?_) | (with_reducible refine ImpK.mk fun hK => ?_) | (with_reducible refine ImpF.mk fun hF => ?_) | (with_reducible refine ImpQ.mk fun hp => ?_) | (with_reducible refine AllE.mk fun p => ?_) | (with_reducible refine AllR.mk fun rest => ?_) | (with_reducible refine AllK.mk fun K => ?_))))); repeat' (with_reducible refine And.intro ?_ ?_))
              all_goals try (exfalso; rw [hf] at hb; exact absurd hb (by decide))
              any_goals first | exact Int.natCast_nonneg _ | exact hg | omega
              refine ⟨(i + 1, q ++ [i], false), ⟨hI', by first | omega | (dsimp only; omega)⟩, ?_⟩
              (focus (refine ⟨_, _, Gh.refl, [0, 1, 7, 5], rfl, ?_⟩; (refine ⟨?_, ?_, ?_⟩ <;> simp only [go_sem, List.range, List.range.loop, List.nodup_cons, List.nodup_nil, List.mem_cons, List.not_mem_nil, or_false, or_self, decide_true, decide_false, Int.reduceToNat, Nat.min_eq_left, Nat.min_eq_right, Int.reducePow, Nat.reducePow, Int.reduceLE, Int.reduceLT, Int.reduceMul, Int.reduceAdd, Int.reduceSub, Int.reduceNeg, Bool.not_true, Bool.not_false, Bool.not_not, ↓reduceIte, Nat.reduceAdd, Nat.reduceSub, Nat.reduceMul, Nat.reduceEqDiff, reduceCtorEq, Nat.reduceLT, Nat.reduceLeDiff, Nat.reduceGT]); (try any_goals (refine ⟨?_, ?_⟩)); (try any_goals (with_reducible rfl))))
              all_goals first | rfl | exact trivial | exact ⟨rfl, rfl, by omega⟩ | (show nI q ++ [(i : Int)] = nI (q ++ [i]); exact hap) | (show (nI q).length + 1 = (nI (q ++ [i])).length; omega) | trace_state
            · have e3 : decide ((wAt l i).va + bestW g (restP g l (q ++ [i]) (i + 1)) = bestW g l - valP l q) = false := decide_eq_false c3
              have hI' := hI.skip c1 c2 hf c3
              (have zx1 := @e1; have zx2 := @e2; have zx3 := @hf2; have zx4 := @hw; have zx5 := @hap; have zx6 := @w1; have zx7 := @e3; all_goals (try ((first | (with_reducible refine wp_id ?_) | (with_reducible refine does_id ?_) | (with_reducible refine ops_id ?_)); refine walk ?_; (repeat' (first | exact trivial | with_reducible refine And.intro ?_ ?_)); all_goals (repeat (first | (with_reducible refine ImpB.mk fun hb => ?_) | (with_reducible refine ImpK.mk fun hK => ?_) | (with_reducible refine ImpF.mk fun hF => ?_) | (with_reducible refine ImpQ.mk fun hp => ?_) | (with_reducible refine AllE.mk fun p => ?_) | (with_reducible refine AllR.mk fun rest => ?_) | (with_reducible refine AllK.mk fun K => ?_))))); repeat' (with_reducible refine And.intro ?_ ?_))
              all_goals try (exfalso; rw [hf] at hb; exact absurd hb (by decide))
              any_goals first | exact Int.natCast_nonneg _ | exact hg | omega
              refine ⟨(i + 1, q, true), ⟨hI', by first | omega | (dsimp only; omega)⟩, ?_⟩
              (focus (refine ⟨_, _, Gh.refl, [0, 1, 7, 3], rfl, ?_⟩; (refine ⟨?_, ?_, ?_⟩ <;> simp only [go_sem, List.range, List.range.loop, List.nodup_cons, List.nodup_nil, List.mem_cons, List.not_mem_nil, or_false, or_self, decide_true, decide_false, Int.reduceToNat, Nat.min_eq_left, Nat.min_eq_right, Int.reducePow, Nat.reducePow, Int.reduceLE, Int.reduceLT, Int.reduceMul, Int.reduceAdd, Int.reduceSub, Int.reduceNeg, Bool.not_true, Bool.not_false, Bool.not_not, ↓reduceIte, Nat.reduceAdd, Nat.reduceSub, Nat.reduceMul, Nat.reduceEqDiff, reduceCtorEq, Nat.reduceLT, Nat.reduceLeDiff, Nat.reduceGT]); (try any_goals (refine ⟨?_, ?_⟩)); (try any_goals (with_reducible rfl))))
              all_goals first | rfl | exact trivial | exact ⟨rfl, rfl, by omega⟩ | (show nI q ++ [(i : Int)] = nI (q ++ [i]); exact hap) | (show (nI q).length + 1 = (nI (q ++ [i])).length; omega) | trace_state
      · have e1 : decide ((i : Int) < l.length) = false := decide_eq_false (by omega)
        have hfin := hI.fin (.inl (by omega))
        (have zx1 := @e1; all_goals (try ((first | (with_reducible refine wp_id ?_) | (with_reducible refine does_id ?_) | (with_reducible refine ops_id ?_)); refine walk ?_; (repeat' (first | exact trivial | with_reducible refine And.intro ?_ ?_)); all_goals (repeat (first | (with_reducible refine ImpB.mk fun hb => ?_) | (with_reducible refine ImpK.mk fun hK => ?_) | (with_reducible refine ImpF.mk fun hF => ?_) | (with_reducible refine ImpQ.mk fun hp => ?_) | (with_reducible refine AllE.mk fun p => ?_) | (with_reducible refine AllR.mk fun rest => ?_) | (with_reducible refine AllK.mk fun K => ?_))))); repeat' (with_reducible refine And.intro ?_ ?_))
        rw [← hfin]
        (focus (refine ⟨_, _, Gh.refl, [], rfl, ?_⟩; (refine ⟨?_, ?_, ?_⟩ <;> simp only [go_sem, List.range, List.range.loop, List.nodup_cons, List.nodup_nil, List.mem_cons, List.not_mem_nil, or_false, or_self, decide_true, decide_false, Int.reduceToNat, Nat.min_eq_left, Nat.min_eq_right, Int.reducePow, Nat.reducePow, Int.reduceLE, Int.reduceLT, Int.reduceMul, Int.reduceAdd, Int.reduceSub, Int.reduceNeg, Bool.not_true, Bool.not_false, Bool.not_not, ↓reduceIte, Nat.reduceAdd, Nat.reduceSub, Nat.reduceMul, Nat.reduceEqDiff, reduceCtorEq, Nat.reduceLT, Nat.reduceLeDiff, Nat.reduceGT]); (try any_goals (refine ⟨?_, ?_⟩)); (try any_goals (with_reducible rfl))))
attribute [irreducible] plnE
theorem c_planF {h : List Ch} {K : KT} {l : List Win} {g : Int} (H : K (.tup [.lit (.slice none 0 0), .int .i64 (plnE l g)]) h) (e1 : ¬ plnE l g = 0) (s1 : l.length ≤ 9223372036854775807) : Does Try.prog 9 [.ro .win l, .int .i64 g] h K :=
  frame_pure (b_planF l g s1 e1) (br_cons br_ro (br_cons br_int br_nil)) (.inr rfl) (fun _ => rfl) H
abbrev i_planF := Ctr.mk (i := 0) (g := 9) @c_planF
attribute [instance] i_planF
theorem c_planT {h : List Ch} {K : KT} {l : List Win} {g : Int} (H : K (.tup [.ro .int (nI (planW g l)), .int .i64 0]) h) (e1 : plnE l g = 0) : Does Try.prog 9 [.ro .win l, .int .i64 g] h K :=
  frame_pure (b_planT l g e1) (br_cons br_ro (br_cons br_int br_nil)) (.inl rfl) (fun _ => rfl) H
abbrev i_planT := Ctr.mk (i := 1) (g := 9) @c_planT
attribute [instance] i_planT
end Go.V
