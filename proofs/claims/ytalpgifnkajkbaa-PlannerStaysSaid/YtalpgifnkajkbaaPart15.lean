/-
  Assignments: the search in a sorted list.
  Assignments: assign.
  Assignments: the program's Assign.
  Assignments: the reference's insert and order.
-/
import Derived.Test.YtalpgifnkajkbaaPart14
set_option linter.unusedVariables false
set_option linter.unusedSimpArgs false
set_option maxRecDepth 100000
set_option maxHeartbeats 8000000
namespace Go.V
open Go.Proofs
abbrev sAt (l : List Slo) (k : Nat) : Slo := l.getD k Slo.zero
theorem sAt_eq {l : List Slo} {k : Nat} (h : k < l.length) : sAt l k = l[k] := by rw [sAt, List.getD_eq_getElem?_getD, List.getElem?_eq_getElem h]; rfl
def srtS (l : List Slo) : Prop := l.Pairwise fun a b => a.st ≤ b.st
theorem b_cmpSt (x : Slo) (t : Int) : DoesK Try.prog 0 24 [.agg [.int .i64 x.job, .int .i64 x.win, .int .i64 x.st, .int .i64 x.en], .int .i64 t] [] (EndF 0 (.int .i64 (cmpI x.st t)) []) := by
  refine DoesK.close ?_
  refine w_body (rs := [.tmp 4]) (tm := [.agg [.int .i64 x.job, .int .i64 x.win, .int .i64 x.st, .int .i64 x.en], .int .i64 t, .any, .any, .any, .any, .any, .any, .any]) fn_24 rfl rfl rfl rfl fun R hR => ?_
  (all_goals (try ((first | (with_reducible refine wp_id ?_) | (with_reducible refine does_id ?_) | (with_reducible refine ops_id ?_)); refine walk ?_; (repeat' (first | exact trivial | with_reducible refine And.intro ?_ ?_)); all_goals (repeat (first | (with_reducible refine ImpB.mk fun hb => ?_) | (with_reducible refine ImpK.mk fun hK => ?_) | (with_reducible refine ImpF.mk fun hF => ?_) | (with_reducible refine ImpQ.mk fun hp => ?_) | (with_reducible refine AllE.mk fun p => ?_) | (with_reducible refine AllR.mk fun rest => ?_) | (with_reducible refine AllK.mk fun K => ?_))))); repeat' (with_reducible refine And.intro ?_ ?_))
  (focus (refine ⟨_, _, Gh.refl, [], rfl, ?_⟩; (refine ⟨?_, ?_, ?_⟩ <;> simp only [go_sem, List.range, List.range.loop, List.nodup_cons, List.nodup_nil, List.mem_cons, List.not_mem_nil, or_false, or_self, decide_true, decide_false, Int.reduceToNat, Nat.min_eq_left, Nat.min_eq_right, Int.reducePow, Nat.reducePow, Int.reduceLE, Int.reduceLT, Int.reduceMul, Int.reduceAdd, Int.reduceSub, Int.reduceNeg, Bool.not_true, Bool.not_false, Bool.not_not, ↓reduceIte, Nat.reduceAdd, Nat.reduceSub, Nat.reduceMul, Nat.reduceEqDiff, reduceCtorEq, Nat.reduceLT, Nat.reduceLeDiff, Nat.reduceGT]); (try any_goals (refine ⟨?_, ?_⟩)); (try any_goals (with_reducible rfl))))
theorem c_cmpSt {h : List Ch} {K : KT} {x : Slo} {t : Int} (H : K (.int .i64 (cmpI x.st t)) h) : Does Try.prog 24 [.agg [.int .i64 x.job, .int .i64 x.win, .int .i64 x.st, .int .i64 x.en], .int .i64 t] h K :=
  frame_pure (b_cmpSt x t) (br_cons (br_agg (br_cons br_int (br_cons br_int (br_cons br_int (br_cons br_int br_nil))))) (br_cons br_int br_nil)) (.inl rfl) (fun _ => rfl) H
abbrev i_cmpSt := Ctr.mk (i := 0) (g := 24) @c_cmpSt
attribute [instance] i_cmpSt
/-- how many end ahead of t -/
def bsS (xs : List Slo) (t : Int) : Nat := (xs.takeWhile fun x => decide (x.st < t)).length
def bsBS (xs : List Slo) (t : Int) : Bool := decide (bsS xs t < xs.length) && decide ((sAt xs (bsS xs t)).st = t)
theorem tw_at {p : Slo → Bool} : ∀ {l : List Slo} {i : Nat}, i ≤ l.length → (∀ k, k < i → p (sAt l k) = true) → (i < l.length → p (sAt l i) = false) → (l.takeWhile p).length = i
  | [], i, h, _, _ => by simp at h; subst h; rfl
  | x :: l, 0, _, _, h => by
    have : p x = false := h (by simp)
    rw [List.takeWhile_cons, this]; rfl
  | x :: l, i + 1, h, h1, h2 => by
    have : p x = true := h1 0 (by omega)
    rw [List.takeWhile_cons, this]
    show (_ :: _).length = _
    rw [List.length_cons, tw_at (i := i) (by simpa using h) (fun k hk => h1 (k + 1) (by omega)) (fun hi => h2 (by simpa using hi))]
theorem srtS_at {l : List Slo} (h : srtS l) {i j : Nat} (hij : i ≤ j) (hj : j < l.length) : (sAt l i).st ≤ (sAt l j).st := by
  rcases Nat.lt_or_eq_of_le hij with q | rfl
  · have := List.pairwise_iff_getElem.1 h i j (by omega) hj q
    rw [sAt_eq hj, sAt_eq (by omega)]
    exact this
  · exact Int.le_refl _
theorem bsS_at {xs : List Slo} {t : Int} {i : Nat} (hi : i ≤ xs.length) (h1 : ∀ k, k < i → (sAt xs k).st < t) (h2 : ∀ k, i ≤ k → k < xs.length → t ≤ (sAt xs k).st) : bsS xs t = i :=
  tw_at hi (fun k hk => decide_eq_true (h1 k hk)) (fun h => decide_eq_false (by have := h2 i (Nat.le_refl _) h; omega))
theorem bsS_le (xs : List Slo) (t : Int) : bsS xs t ≤ xs.length := (List.takeWhile_sublist _).length_le
theorem b_bsearch (xs : List Slo) (t : Int) (hl : xs.length ≤ 1099511627776) (hs : srtS xs) : DoesK Try.prog 0 23 [.ro .slo xs, .int .i64 t, .fn 24 []] [] (EndF 0 (.tup [.int .i64 (bsS xs t), .bool (bsBS xs t)]) []) := by
  refine DoesK.close ?_
  refine w_body (rs := [.tmp 6, .tmp 7]) (tm := [.ro .slo xs, .int .i64 t, .fn 24 [], .any, .any, .any, .any, .any, .any, .any, .any, .any, .any, .any, .any, .any, .any, .any, .any, .any, .any, .any, .any, .any, .any, .any, .any, .any, .any, .any, .any, .any, .any, .any, .any, .any, .any, .any, .any, .any, .any, .any, .any, .any, .any, .any, .any, .any, .any]) fn_23 rfl rfl rfl rfl fun R hR => ?_
  (all_goals (try ((first | (with_reducible refine wp_id ?_) | (with_reducible refine does_id ?_) | (with_reducible refine ops_id ?_)); refine walk ?_; (repeat' (first | exact trivial | with_reducible refine And.intro ?_ ?_)); all_goals (repeat (first | (with_reducible refine ImpB.mk fun hb => ?_) | (with_reducible refine ImpK.mk fun hK => ?_) | (with_reducible refine ImpF.mk fun hF => ?_) | (with_reducible refine ImpQ.mk fun hp => ?_) | (with_reducible refine AllE.mk fun p => ?_) | (with_reducible refine AllR.mk fun rest => ?_) | (with_reducible refine AllK.mk fun K => ?_))))); repeat' (with_reducible refine And.intro ?_ ?_))
  any_goals ((try (refine w_seq fun K hK => ?_)); (try (refine w_block ?_)); refine w_loop (A := Nat × Nat) (fun p => p.1 ≤ p.2 ∧ p.2 ≤ xs.length ∧ (∀ k, k < p.1 → (sAt xs k).st < t) ∧ ∀ k, p.2 ≤ k → k < xs.length → t ≤ (sAt xs k).st) (fun p => p.2 - p.1) (fun p => [(9, .int .i64 p.1), (10, .int .i64 p.2)]) (fun p => []) ((0, xs.length)) (ws := ?ws1) (tk := ?tk1) ?hw1 ?ht1 ?hi ?h0 ?LH1; (case hw1 => simp only [go_sem, decide_true, decide_false, Int.reduceToNat, Nat.min_eq_left, Nat.min_eq_right, Int.reducePow, Nat.reducePow, Int.reduceLE, Int.reduceLT, Int.reduceMul, Int.reduceAdd, Int.reduceSub, Int.reduceNeg, Bool.not_true, Bool.not_false, Bool.not_not, ↓reduceIte, Nat.reduceAdd, Nat.reduceSub, Nat.reduceMul, Nat.reduceEqDiff, reduceCtorEq, Nat.reduceLT, Nat.reduceLeDiff, Nat.reduceGT]; exact rfl); (case ht1 => simp only [go_sem, decide_true, decide_false, Int.reduceToNat, Nat.min_eq_left, Nat.min_eq_right, Int.reducePow, Nat.reducePow, Int.reduceLE, Int.reduceLT, Int.reduceMul, Int.reduceAdd, Int.reduceSub, Int.reduceNeg, Bool.not_true, Bool.not_false, Bool.not_not, ↓reduceIte, Nat.reduceAdd, Nat.reduceSub, Nat.reduceMul, Nat.reduceEqDiff, reduceCtorEq, Nat.reduceLT, Nat.reduceLeDiff, Nat.reduceGT]; exact rfl); (case' LH1 => rintro ⟨i, j⟩ E t hx hE ht; simp only [go_sem] at ht; subst ht; simp only [go_sem]; try dsimp only at hx))
  case hi => exact ⟨Nat.zero_le _, Nat.le_refl _, fun k hk => absurd hk (Nat.not_lt_zero k), fun k h1 h2 => by dsimp only at h1; omega⟩
  case h0 =>
    (focus (refine ⟨_, _, Gh.refl, [], rfl, ?_⟩; (refine ⟨?_, ?_, ?_⟩ <;> simp only [go_sem, List.range, List.range.loop, List.nodup_cons, List.nodup_nil, List.mem_cons, List.not_mem_nil, or_false, or_self, decide_true, decide_false, Int.reduceToNat, Nat.min_eq_left, Nat.min_eq_right, Int.reducePow, Nat.reducePow, Int.reduceLE, Int.reduceLT, Int.reduceMul, Int.reduceAdd, Int.reduceSub, Int.reduceNeg, Bool.not_true, Bool.not_false, Bool.not_not, ↓reduceIte, Nat.reduceAdd, Nat.reduceSub, Nat.reduceMul, Nat.reduceEqDiff, reduceCtorEq, Nat.reduceLT, Nat.reduceLeDiff, Nat.reduceGT]); (try any_goals (refine ⟨?_, ?_⟩)); (try any_goals (with_reducible rfl))))
    all_goals rfl
  case LH1 =>
    obtain ⟨h1, h2, h3, h4⟩ := hx
    have h1' : i ≤ j := h1
    have h2' : j ≤ xs.length := h2
    by_cases hij : i < j
    · have d1 : decide ((i : Int) < (j : Int)) = true := decide_eq_true (by omega)
      obtain ⟨m, hm⟩ : ∃ m : Nat, (i + j) / 2 = m := ⟨_, rfl⟩
      have w1 : IntKind.i64.wrap ((i : Int) + (j : Int)) = ((i + j : Nat) : Int) := by rw [wrap_i64 _ (by omega) (by omega)]; omega
      have w2 : IntKind.u64.wrap ((i + j : Nat) : Int) = ((i + j : Nat) : Int) := by rw [wrap_u64]; omega
      have w3 : Int.fdiv ((i + j : Nat) : Int) 2 = (m : Int) := by rw [Int.fdiv_eq_ediv_of_nonneg _ (by omega)]; omega
      have w4 : IntKind.i64.wrap (m : Int) = (m : Int) := wrap_i64 _ (by omega) (by omega)
      have w5 : IntKind.i64.wrap ((m : Int) + 1) = ((m + 1 : Nat) : Int) := by rw [wrap_i64 _ (by omega) (by omega)]; omega
      by_cases c2 : (sAt xs m).st < t
      · have d2 : decide (cmpI (sAt xs m).st t < 0) = true := by rw [cmpI_lt]; exact decide_eq_true c2
        (have zx1 := @d1; have zx2 := @w1; have zx3 := @w2; have zx4 := @w3; have zx5 := @w4; have zx6 := @w5; have zx7 := @d2; all_goals (try ((first | (with_reducible refine wp_id ?_) | (with_reducible refine does_id ?_) | (with_reducible refine ops_id ?_)); refine walk ?_; (repeat' (first | exact trivial | with_reducible refine And.intro ?_ ?_)); all_goals (repeat (first | (with_reducible refine ImpB.mk fun hb => ?_) | (with_reducible refine ImpK.mk fun hK => ?_) | (with_reducible refine ImpF.mk fun hF => ?_) | (with_reducible refine ImpQ.mk fun hp => ?_) | (with_reducible refine AllE.mk fun p => ?_) | (with_reducible refine AllR.mk fun rest => ?_) | (with_reducible refine AllK.mk fun K => ?_))))); repeat' (with_reducible refine And.intro ?_ ?_))
        (all_goals first | exact Int.natCast_nonneg _ | exact Int.ofNat_lt.2 (by assumption) | assumption | omega | exact Nat.le_refl _ | (exfalso; simp at hb; done) | (simp only [go_sem, decide_true, decide_false, Int.reduceToNat, Nat.min_eq_left, Nat.min_eq_right, Int.reducePow, Nat.reducePow, Int.reduceLE, Int.reduceLT, Int.reduceMul, Int.reduceAdd, Int.reduceSub, Int.reduceNeg, Bool.not_true, Bool.not_false, Bool.not_not, ↓reduceIte, Nat.reduceAdd, Nat.reduceSub, Nat.reduceMul, Nat.reduceEqDiff, reduceCtorEq, Nat.reduceLT, Nat.reduceLeDiff, Nat.reduceGT]; done) | (unfold capM; omega) | (simp only [List.length_drop, List.length_take, List.length_append, List.length_cons, List.length_nil]; omega) | skip)
        refine ⟨(m + 1, j), ⟨⟨by dsimp only; omega, h2', fun k hk => ?_, h4⟩, by dsimp only; omega⟩, ?_⟩
        · have hk' : k < m + 1 := hk
          have := srtS_at hs (i := k) (j := m) (by omega) (by omega)
          omega
        · (focus (refine ⟨_, _, Gh.refl, [], rfl, ?_⟩; (refine ⟨?_, ?_, ?_⟩ <;> simp only [go_sem, List.range, List.range.loop, List.nodup_cons, List.nodup_nil, List.mem_cons, List.not_mem_nil, or_false, or_self, decide_true, decide_false, Int.reduceToNat, Nat.min_eq_left, Nat.min_eq_right, Int.reducePow, Nat.reducePow, Int.reduceLE, Int.reduceLT, Int.reduceMul, Int.reduceAdd, Int.reduceSub, Int.reduceNeg, Bool.not_true, Bool.not_false, Bool.not_not, ↓reduceIte, Nat.reduceAdd, Nat.reduceSub, Nat.reduceMul, Nat.reduceEqDiff, reduceCtorEq, Nat.reduceLT, Nat.reduceLeDiff, Nat.reduceGT]); (try any_goals (refine ⟨?_, ?_⟩)); (try any_goals (with_reducible rfl))))
      · have d2 : decide (cmpI (sAt xs m).st t < 0) = false := by rw [cmpI_lt]; exact decide_eq_false c2
        (have zx1 := @d1; have zx2 := @w1; have zx3 := @w2; have zx4 := @w3; have zx5 := @w4; have zx6 := @w5; have zx7 := @d2; all_goals (try ((first | (with_reducible refine wp_id ?_) | (with_reducible refine does_id ?_) | (with_reducible refine ops_id ?_)); refine walk ?_; (repeat' (first | exact trivial | with_reducible refine And.intro ?_ ?_)); all_goals (repeat (first | (with_reducible refine ImpB.mk fun hb => ?_) | (with_reducible refine ImpK.mk fun hK => ?_) | (with_reducible refine ImpF.mk fun hF => ?_) | (with_reducible refine ImpQ.mk fun hp => ?_) | (with_reducible refine AllE.mk fun p => ?_) | (with_reducible refine AllR.mk fun rest => ?_) | (with_reducible refine AllK.mk fun K => ?_))))); repeat' (with_reducible refine And.intro ?_ ?_))
        (all_goals first | exact Int.natCast_nonneg _ | exact Int.ofNat_lt.2 (by assumption) | assumption | omega | exact Nat.le_refl _ | (exfalso; simp at hb; done) | (simp only [go_sem, decide_true, decide_false, Int.reduceToNat, Nat.min_eq_left, Nat.min_eq_right, Int.reducePow, Nat.reducePow, Int.reduceLE, Int.reduceLT, Int.reduceMul, Int.reduceAdd, Int.reduceSub, Int.reduceNeg, Bool.not_true, Bool.not_false, Bool.not_not, ↓reduceIte, Nat.reduceAdd, Nat.reduceSub, Nat.reduceMul, Nat.reduceEqDiff, reduceCtorEq, Nat.reduceLT, Nat.reduceLeDiff, Nat.reduceGT]; done) | (unfold capM; omega) | (simp only [List.length_drop, List.length_take, List.length_append, List.length_cons, List.length_nil]; omega) | skip)
        refine ⟨(i, m), ⟨⟨by dsimp only; omega, by dsimp only; omega, h3, fun k hk1 hk2 => ?_⟩, by dsimp only; omega⟩, ?_⟩
        · have hk' : m ≤ k := hk1
          have := srtS_at hs (i := m) (j := k) hk' hk2
          omega
        · (focus (refine ⟨_, _, Gh.refl, [], rfl, ?_⟩; (refine ⟨?_, ?_, ?_⟩ <;> simp only [go_sem, List.range, List.range.loop, List.nodup_cons, List.nodup_nil, List.mem_cons, List.not_mem_nil, or_false, or_self, decide_true, decide_false, Int.reduceToNat, Nat.min_eq_left, Nat.min_eq_right, Int.reducePow, Nat.reducePow, Int.reduceLE, Int.reduceLT, Int.reduceMul, Int.reduceAdd, Int.reduceSub, Int.reduceNeg, Bool.not_true, Bool.not_false, Bool.not_not, ↓reduceIte, Nat.reduceAdd, Nat.reduceSub, Nat.reduceMul, Nat.reduceEqDiff, reduceCtorEq, Nat.reduceLT, Nat.reduceLeDiff, Nat.reduceGT]); (try any_goals (refine ⟨?_, ?_⟩)); (try any_goals (with_reducible rfl))))
    · have d1 : decide ((i : Int) < (j : Int)) = false := decide_eq_false (by omega)
      obtain rfl : i = j := by omega
      have hb1 := bsS_at h2' h3 h4
      by_cases c3 : i < xs.length
      · have d3 : decide ((i : Int) < (xs.length : Int)) = true := decide_eq_true (by omega)
        have hb2 : bsBS xs t = decide (cmpI (sAt xs i).st t = 0) := by unfold bsBS; rw [hb1, decide_eq_true c3, cmpI_eq]; rfl
        (have zx1 := @d1; have zx2 := @d3; all_goals (try ((first | (with_reducible refine wp_id ?_) | (with_reducible refine does_id ?_) | (with_reducible refine ops_id ?_)); refine walk ?_; (repeat' (first | exact trivial | with_reducible refine And.intro ?_ ?_)); all_goals (repeat (first | (with_reducible refine ImpB.mk fun hb => ?_) | (with_reducible refine ImpK.mk fun hK => ?_) | (with_reducible refine ImpF.mk fun hF => ?_) | (with_reducible refine ImpQ.mk fun hp => ?_) | (with_reducible refine AllE.mk fun p => ?_) | (with_reducible refine AllR.mk fun rest => ?_) | (with_reducible refine AllK.mk fun K => ?_))))); repeat' (with_reducible refine And.intro ?_ ?_))
        (all_goals first | exact Int.natCast_nonneg _ | exact Int.ofNat_lt.2 (by assumption) | assumption | omega | exact Nat.le_refl _ | (exfalso; simp at hb; done) | (simp only [go_sem, decide_true, decide_false, Int.reduceToNat, Nat.min_eq_left, Nat.min_eq_right, Int.reducePow, Nat.reducePow, Int.reduceLE, Int.reduceLT, Int.reduceMul, Int.reduceAdd, Int.reduceSub, Int.reduceNeg, Bool.not_true, Bool.not_false, Bool.not_not, ↓reduceIte, Nat.reduceAdd, Nat.reduceSub, Nat.reduceMul, Nat.reduceEqDiff, reduceCtorEq, Nat.reduceLT, Nat.reduceLeDiff, Nat.reduceGT]; done) | (unfold capM; omega) | (simp only [List.length_drop, List.length_take, List.length_append, List.length_cons, List.length_nil]; omega) | skip)
        (focus (refine ⟨_, _, Gh.refl, [], rfl, ?_⟩; (refine ⟨?_, ?_, ?_⟩ <;> simp only [go_sem, List.range, List.range.loop, List.nodup_cons, List.nodup_nil, List.mem_cons, List.not_mem_nil, or_false, or_self, decide_true, decide_false, Int.reduceToNat, Nat.min_eq_left, Nat.min_eq_right, Int.reducePow, Nat.reducePow, Int.reduceLE, Int.reduceLT, Int.reduceMul, Int.reduceAdd, Int.reduceSub, Int.reduceNeg, Bool.not_true, Bool.not_false, Bool.not_not, ↓reduceIte, Nat.reduceAdd, Nat.reduceSub, Nat.reduceMul, Nat.reduceEqDiff, reduceCtorEq, Nat.reduceLT, Nat.reduceLeDiff, Nat.reduceGT]); (try any_goals (refine ⟨?_, ?_⟩)); (try any_goals (with_reducible rfl))))
        all_goals first | exact hb2 | (rw [hb1]; done) | (rw [hb1]; rfl) | trace_state
      · have d3 : decide ((i : Int) < (xs.length : Int)) = false := decide_eq_false (by omega)
        have hb2 : bsBS xs t = false := by unfold bsBS; rw [hb1, decide_eq_false c3]; rfl
        (have zx1 := @d1; have zx2 := @d3; all_goals (try ((first | (with_reducible refine wp_id ?_) | (with_reducible refine does_id ?_) | (with_reducible refine ops_id ?_)); refine walk ?_; (repeat' (first | exact trivial | with_reducible refine And.intro ?_ ?_)); all_goals (repeat (first | (with_reducible refine ImpB.mk fun hb => ?_) | (with_reducible refine ImpK.mk fun hK => ?_) | (with_reducible refine ImpF.mk fun hF => ?_) | (with_reducible refine ImpQ.mk fun hp => ?_) | (with_reducible refine AllE.mk fun p => ?_) | (with_reducible refine AllR.mk fun rest => ?_) | (with_reducible refine AllK.mk fun K => ?_))))); repeat' (with_reducible refine And.intro ?_ ?_))
        (all_goals first | exact Int.natCast_nonneg _ | exact Int.ofNat_lt.2 (by assumption) | assumption | omega | exact Nat.le_refl _ | (exfalso; simp at hb; done) | (simp only [go_sem, decide_true, decide_false, Int.reduceToNat, Nat.min_eq_left, Nat.min_eq_right, Int.reducePow, Nat.reducePow, Int.reduceLE, Int.reduceLT, Int.reduceMul, Int.reduceAdd, Int.reduceSub, Int.reduceNeg, Bool.not_true, Bool.not_false, Bool.not_not, ↓reduceIte, Nat.reduceAdd, Nat.reduceSub, Nat.reduceMul, Nat.reduceEqDiff, reduceCtorEq, Nat.reduceLT, Nat.reduceLeDiff, Nat.reduceGT]; done) | (unfold capM; omega) | (simp only [List.length_drop, List.length_take, List.length_append, List.length_cons, List.length_nil]; omega) | skip)
        (focus (refine ⟨_, _, Gh.refl, [], rfl, ?_⟩; (refine ⟨?_, ?_, ?_⟩ <;> simp only [go_sem, List.range, List.range.loop, List.nodup_cons, List.nodup_nil, List.mem_cons, List.not_mem_nil, or_false, or_self, decide_true, decide_false, Int.reduceToNat, Nat.min_eq_left, Nat.min_eq_right, Int.reducePow, Nat.reducePow, Int.reduceLE, Int.reduceLT, Int.reduceMul, Int.reduceAdd, Int.reduceSub, Int.reduceNeg, Bool.not_true, Bool.not_false, Bool.not_not, ↓reduceIte, Nat.reduceAdd, Nat.reduceSub, Nat.reduceMul, Nat.reduceEqDiff, reduceCtorEq, Nat.reduceLT, Nat.reduceLeDiff, Nat.reduceGT]); (try any_goals (refine ⟨?_, ?_⟩)); (try any_goals (with_reducible rfl))))
        all_goals first | exact hb2 | (rw [hb1]; done) | (rw [hb1]; rfl) | trace_state
theorem c_bsearch {h : List Ch} {K : KT} {xs : List Slo} {t : Int} {a : AV} (H : K (.tup [.int .i64 (bsS xs t), .bool (bsBS xs t)]) h) (b1 : brA [] h (.ro .slo xs) a) (s1 : xs.length ≤ 1099511627776) (s2 : srtS xs) : Does Try.prog 23 [a, .int .i64 t, .fn 24 []] h K := -- nocall
  frame_pure (b_bsearch xs t s1 s2) (br_cons b1 (br_cons br_int (br_cons br_fn br_nil))) (.inr rfl) (fun _ => rfl) H
theorem c_bsearch_s {h : List Ch} {K : KT} {d : List Slo} {t : Int} {u n : Nat} (H : K (.tup [.int .i64 (bsS (d.take n) t), .bool (bsBS (d.take n) t)]) h) (o : hth h u = .rows .slo d) (s1 : n ≤ d.length) (s2 : d.length ≤ 1099511627776) (s3 : srtS d) : Does Try.prog 23 [.sl u .slo 0 n, .int .i64 t, .fn 24 []] h K := by
  have hb := br_sl (σ := []) (h := h) (e := .slo) (ys := d) (t := u) (s := 0) (n := n) o (by omega) (by simp)
  rw [List.drop_zero] at hb
  exact c_bsearch H hb (by rw [List.length_take]; omega) (s3.sublist (List.take_sublist _ _))
abbrev i_bsearch_s := Ctr.mk (i := 0) (g := 23) @c_bsearch_s
attribute [instance] i_bsearch_s
end Go.V

set_option maxRecDepth 100000
set_option maxHeartbeats 8000000
namespace Go.V
open Go.Proofs
/-- the first contact with a place -/
def fsI (w : List Win) (j : Job) (d : Int) (m : List Slo) : Nat := w.findIdx fun c => plB c j d m
def asB (w : List Win) (j : Job) (d : Int) (m : List Slo) : Bool := decide (fsI w j d m < w.length)
def asS (w : List Win) (j : Job) (d : Int) (m : List Slo) : Slo := if asB w j d m then ⟨0, fsI w j d m, plI (w.getD (fsI w j d m) Win.zero) j d m, plI (w.getD (fsI w j d m) Win.zero) j d m + d⟩ else Slo.zero
theorem getEq {α : Type} {l : List α} {k : Nat} {z : α} (h : k < l.length) : l.getD k z = l[k] := by rw [List.getD_eq_getElem?_getD, List.getElem?_eq_getElem h]; rfl
theorem fs_at {w : List Win} {j : Job} {d : Int} {m : List Slo} {k : Nat} (hk : k < w.length) (h : ∀ i, i < k → plB (w.getD i Win.zero) j d m = false) (h1 : plB (w.getD k Win.zero) j d m = true) : fsI w j d m = k := by
  unfold fsI
  rw [List.findIdx_eq hk]
  refine ⟨by rw [← getEq hk]; exact h1, fun i hi => ?_⟩
  rw [← getEq (z := Win.zero)]; exact h i hi
theorem fs_no {w : List Win} {j : Job} {d : Int} {m : List Slo} (h : ∀ i, i < w.length → plB (w.getD i Win.zero) j d m = false) : asB w j d m = false := by
  refine decide_eq_false fun q => ?_
  have t : plB w[fsI w j d m] j d m = true := List.findIdx_getElem (w := q)
  rw [← getEq (z := Win.zero) q, h _ q] at t
  cases t
def goodW (w : List Win) : Prop := ∀ c ∈ w, vldW c = true
theorem b_assign1 (w : List Win) (j : Job) (d : Int) (m : List Slo) (hw : goodW w) (hj : vldJ j = true) (hm : bdS m) (hd : 1 ≤ d ∧ d ≤ 2147483648) (hl : m.length ≤ 1099511627776) (hwl : w.length ≤ 1099511627776) : DoesK Try.prog 0 21 [.ro .win w, .agg (JobL j), .int .i64 d, .ro .slo m] [] (EndF 0 (.tup [.agg (SloL (asS w j d m)), .bool (asB w j d m)]) []) := by
  refine DoesK.close ?_
  refine w_body (rs := [.cell 8 37, .tmp 9]) (tm := [.ro .win w, .agg (JobL j), .int .i64 d, .ro .slo m, .any, .any, .any, .any, .any, .any, .any, .any, .any, .any, .any, .any, .any, .any, .any, .any, .any, .any, .any, .any, .any, .any, .any, .any, .any, .any, .any, .any, .any, .any, .any, .any, .any, .any]) fn_21 rfl rfl rfl rfl fun R hR => ?_
  (all_goals (try ((first | (with_reducible refine wp_id ?_) | (with_reducible refine does_id ?_) | (with_reducible refine ops_id ?_)); refine walk ?_; (repeat' (first | exact trivial | with_reducible refine And.intro ?_ ?_)); all_goals (repeat (first | (with_reducible refine ImpB.mk fun hb => ?_) | (with_reducible refine ImpK.mk fun hK => ?_) | (with_reducible refine ImpF.mk fun hF => ?_) | (with_reducible refine ImpQ.mk fun hp => ?_) | (with_reducible refine AllE.mk fun p => ?_) | (with_reducible refine AllR.mk fun rest => ?_) | (with_reducible refine AllK.mk fun K => ?_))))); repeat' (with_reducible refine And.intro ?_ ?_))
  any_goals ((try (refine w_seq fun K hK => ?_)); (try (refine w_block ?_)); refine w_loop (A := Nat) (fun k => k ≤ w.length ∧ ∀ i, i < k → plB (w.getD i Win.zero) j d m = false) (fun k => w.length - k) (fun k => [(16, .int .i64 k)]) (fun _ => []) (0) (ws := ?ws1) (tk := ?tk1) ?hw1 ?ht1 ?hi ?h0 ?LH1; (case hw1 => simp only [go_sem, decide_true, decide_false, Int.reduceToNat, Nat.min_eq_left, Nat.min_eq_right, Int.reducePow, Nat.reducePow, Int.reduceLE, Int.reduceLT, Int.reduceMul, Int.reduceAdd, Int.reduceSub, Int.reduceNeg, Bool.not_true, Bool.not_false, Bool.not_not, ↓reduceIte, Nat.reduceAdd, Nat.reduceSub, Nat.reduceMul, Nat.reduceEqDiff, reduceCtorEq, Nat.reduceLT, Nat.reduceLeDiff, Nat.reduceGT]; exact rfl); (case ht1 => simp only [go_sem, decide_true, decide_false, Int.reduceToNat, Nat.min_eq_left, Nat.min_eq_right, Int.reducePow, Nat.reducePow, Int.reduceLE, Int.reduceLT, Int.reduceMul, Int.reduceAdd, Int.reduceSub, Int.reduceNeg, Bool.not_true, Bool.not_false, Bool.not_not, ↓reduceIte, Nat.reduceAdd, Nat.reduceSub, Nat.reduceMul, Nat.reduceEqDiff, reduceCtorEq, Nat.reduceLT, Nat.reduceLeDiff, Nat.reduceGT]; exact rfl); (case' LH1 => rintro k E t hx hE ht; simp only [go_sem] at ht; subst ht; simp only [go_sem]; try dsimp only at hx))
  case hi => exact ⟨Nat.zero_le _, fun i hi => absurd hi (by omega)⟩
  case h0 => (focus (refine ⟨_, _, Gh.refl, [0, 1], rfl, ?_⟩; (refine ⟨?_, ?_, ?_⟩ <;> simp only [go_sem, List.range, List.range.loop, List.nodup_cons, List.nodup_nil, List.mem_cons, List.not_mem_nil, or_false, or_self, decide_true, decide_false, Int.reduceToNat, Nat.min_eq_left, Nat.min_eq_right, Int.reducePow, Nat.reducePow, Int.reduceLE, Int.reduceLT, Int.reduceMul, Int.reduceAdd, Int.reduceSub, Int.reduceNeg, Bool.not_true, Bool.not_false, Bool.not_not, ↓reduceIte, Nat.reduceAdd, Nat.reduceSub, Nat.reduceMul, Nat.reduceEqDiff, reduceCtorEq, Nat.reduceLT, Nat.reduceLeDiff, Nat.reduceGT]); (try any_goals (refine ⟨?_, ?_⟩)); (try any_goals (with_reducible rfl))))
  case LH1 =>
    obtain ⟨hk0, hc⟩ := hx
    have hw1 : IntKind.i64.wrap ((k : Int) + 1) = ((k + 1 : Nat) : Int) := by rw [wrap_i64 _ (by omega) (by omega)]; omega
    by_cases hk : k < w.length
    · have hkd : decide ((k : Int) < (w.length : Int)) = true := decide_eq_true (by omega)
      obtain ⟨c, hce⟩ : ∃ c, w.getD k Win.zero = c := ⟨_, rfl⟩
      have hcv : vldW c = true := by rw [← hce]; exact hw _ (getM hk)
      have hp := pl_bd (d := d) hcv hj hm
      have hw2 : IntKind.i64.wrap (plI c j d m + d) = plI c j d m + d := wrap_i64 _ (by omega) (by omega)
      cases hb1 : plB c j d m
      · (have zx1 := @hkd; have zx2 := @hw1; have zx3 := @hce; have zx4 := @hb1; all_goals (try ((first | (with_reducible refine wp_id ?_) | (with_reducible refine does_id ?_) | (with_reducible refine ops_id ?_)); refine walk ?_; (repeat' (first | exact trivial | with_reducible refine And.intro ?_ ?_)); all_goals (repeat (first | (with_reducible refine ImpB.mk fun hb => ?_) | (with_reducible refine ImpK.mk fun hK => ?_) | (with_reducible refine ImpF.mk fun hF => ?_) | (with_reducible refine ImpQ.mk fun hp => ?_) | (with_reducible refine AllE.mk fun p => ?_) | (with_reducible refine AllR.mk fun rest => ?_) | (with_reducible refine AllK.mk fun K => ?_))))); repeat' (with_reducible refine And.intro ?_ ?_))
        all_goals first | assumption | omega | skip
        refine ⟨k + 1, ⟨⟨by first | omega | (dsimp only; omega), fun i hi => ?_⟩, by first | omega | (dsimp only; omega)⟩, ?_⟩
        · by_cases e : i = k
          · rw [e, hce]; exact hb1
          · exact hc i (by omega)
        (focus (refine ⟨_, _, Gh.refl, [0, 1], rfl, ?_⟩; (refine ⟨?_, ?_, ?_⟩ <;> simp only [go_sem, List.range, List.range.loop, List.nodup_cons, List.nodup_nil, List.mem_cons, List.not_mem_nil, or_false, or_self, decide_true, decide_false, Int.reduceToNat, Nat.min_eq_left, Nat.min_eq_right, Int.reducePow, Nat.reducePow, Int.reduceLE, Int.reduceLT, Int.reduceMul, Int.reduceAdd, Int.reduceSub, Int.reduceNeg, Bool.not_true, Bool.not_false, Bool.not_not, ↓reduceIte, Nat.reduceAdd, Nat.reduceSub, Nat.reduceMul, Nat.reduceEqDiff, reduceCtorEq, Nat.reduceLT, Nat.reduceLeDiff, Nat.reduceGT]); (try any_goals (refine ⟨?_, ?_⟩)); (try any_goals (with_reducible rfl))))
      · (have zx1 := @hkd; have zx2 := @hw1; have zx3 := @hce; have zx4 := @hb1; have zx5 := @hw2; all_goals (try ((first | (with_reducible refine wp_id ?_) | (with_reducible refine does_id ?_) | (with_reducible refine ops_id ?_)); refine walk ?_; (repeat' (first | exact trivial | with_reducible refine And.intro ?_ ?_)); all_goals (repeat (first | (with_reducible refine ImpB.mk fun hb => ?_) | (with_reducible refine ImpK.mk fun hK => ?_) | (with_reducible refine ImpF.mk fun hF => ?_) | (with_reducible refine ImpQ.mk fun hp => ?_) | (with_reducible refine AllE.mk fun p => ?_) | (with_reducible refine AllR.mk fun rest => ?_) | (with_reducible refine AllK.mk fun K => ?_))))); repeat' (with_reducible refine And.intro ?_ ?_))
        all_goals first | assumption | omega | skip
        have hf := fs_at hk hc (by rw [hce]; exact hb1)
        have hB : asB w j d m = true := decide_eq_true (by rw [hf]; exact hk)
        have hS : asS w j d m = ⟨0, k, plI c j d m, plI c j d m + d⟩ := by unfold asS; rw [if_pos hB, hf, hce]
        rw [hB, hS]
        (focus (refine ⟨_, _, Gh.refl, [], rfl, ?_⟩; (refine ⟨?_, ?_, ?_⟩ <;> simp only [go_sem, List.range, List.range.loop, List.nodup_cons, List.nodup_nil, List.mem_cons, List.not_mem_nil, or_false, or_self, decide_true, decide_false, Int.reduceToNat, Nat.min_eq_left, Nat.min_eq_right, Int.reducePow, Nat.reducePow, Int.reduceLE, Int.reduceLT, Int.reduceMul, Int.reduceAdd, Int.reduceSub, Int.reduceNeg, Bool.not_true, Bool.not_false, Bool.not_not, ↓reduceIte, Nat.reduceAdd, Nat.reduceSub, Nat.reduceMul, Nat.reduceEqDiff, reduceCtorEq, Nat.reduceLT, Nat.reduceLeDiff, Nat.reduceGT]); (try any_goals (refine ⟨?_, ?_⟩)); (try any_goals (with_reducible rfl))))
    · have hkd : decide ((k : Int) < (w.length : Int)) = false := decide_eq_false (by omega)
      have hn := fs_no fun i hi => hc i (by omega)
      (have zx1 := @hkd; all_goals (try ((first | (with_reducible refine wp_id ?_) | (with_reducible refine does_id ?_) | (with_reducible refine ops_id ?_)); refine walk ?_; (repeat' (first | exact trivial | with_reducible refine And.intro ?_ ?_)); all_goals (repeat (first | (with_reducible refine ImpB.mk fun hb => ?_) | (with_reducible refine ImpK.mk fun hK => ?_) | (with_reducible refine ImpF.mk fun hF => ?_) | (with_reducible refine ImpQ.mk fun hp => ?_) | (with_reducible refine AllE.mk fun p => ?_) | (with_reducible refine AllR.mk fun rest => ?_) | (with_reducible refine AllK.mk fun K => ?_))))); repeat' (with_reducible refine And.intro ?_ ?_))
      have ha : asS w j d m = Slo.zero := by unfold asS; rw [hn]; rfl
      rw [ha, hn]
      (focus (refine ⟨_, _, Gh.refl, [], rfl, ?_⟩; (refine ⟨?_, ?_, ?_⟩ <;> simp only [go_sem, List.range, List.range.loop, List.nodup_cons, List.nodup_nil, List.mem_cons, List.not_mem_nil, or_false, or_self, decide_true, decide_false, Int.reduceToNat, Nat.min_eq_left, Nat.min_eq_right, Int.reducePow, Nat.reducePow, Int.reduceLE, Int.reduceLT, Int.reduceMul, Int.reduceAdd, Int.reduceSub, Int.reduceNeg, Bool.not_true, Bool.not_false, Bool.not_not, ↓reduceIte, Nat.reduceAdd, Nat.reduceSub, Nat.reduceMul, Nat.reduceEqDiff, reduceCtorEq, Nat.reduceLT, Nat.reduceLeDiff, Nat.reduceGT]); (try any_goals (refine ⟨?_, ?_⟩)); (try any_goals (with_reducible rfl))))
      all_goals (repeat' (first | rfl | (refine And.intro ?_ ?_)))
theorem c_assign1 {h : List Ch} {K : KT} {w : List Win} {j : Job} {d : Int} {m : List Slo} {x : AV} (H : K (.tup [.agg (SloL (asS w j d m)), .bool (asB w j d m)]) h) (b1 : brA [] h (.ro .slo m) x) (s1 : goodW w) (s2 : vldJ j = true) (s3 : bdS m) (s4 : 1 ≤ d ∧ d ≤ 2147483648) (s5 : m.length ≤ 1099511627776) (s6 : w.length ≤ 1099511627776) : Does Try.prog 21 [.ro .win w, .agg [.int .i64 j.id, .int .i64 j.size, .int .i64 j.ear, .int .i64 j.dl, .int .i64 j.pri], .int .i64 d, x] h K :=
  frame_pure (b_assign1 w j d m s1 s2 s3 s4 s5 s6) (br_cons br_ro (br_cons (br_Job j) (br_cons br_int (br_cons b1 br_nil)))) (.inr rfl) (fun _ => rfl) H
abbrev i_assign1 := Ctr.mk (i := 0) (g := 21) @c_assign1
attribute [instance] i_assign1
end Go.V

set_option maxRecDepth 100000
set_option maxHeartbeats 16000000
namespace Go.V
open Go.Proofs
def iotaI (n : Nat) : List Int := (List.range n).map fun k : Nat => (k : Int)
theorem iota_len (n : Nat) : (iotaI n).length = n := by unfold iotaI; simp
theorem iota_next (n : Nat) : iotaI (n + 1) = iotaI n ++ [(n : Int)] := by unfold iotaI; rw [List.range_succ, List.map_append]; rfl
theorem iota_in {l : List Job} : ∀ x ∈ iotaI l.length, inJ l x := fun x hx => by
  unfold iotaI at hx
  obtain ⟨k, hk, rfl⟩ := List.mem_map.1 hx
  have := List.mem_range.1 hk
  exact ⟨by omega, by omega⟩
/-- one job more -/
def insS (m : List Slo) (s : Slo) : List Slo := m.take (bsS m s.st) ++ s :: m.drop (bsS m s.st)
def jbI (l : List Job) (i : Int) : Job := l.getD i.toNat Job.zero
def stJ (w : List Win) (l : List Job) (rate : Int) (p : List Slo × List Int) (i : Int) : List Slo × List Int :=
  if asB w (jbI l i) (durI (jbI l i) rate) p.1 then (insS p.1 { asS w (jbI l i) (durI (jbI l i) rate) p.1 with job := i }, p.2) else (p.1, p.2 ++ [i])
def ordJ (l : List Job) : List Int := srt (keyJ l) (iotaI l.length)
def runJ (w : List Win) (l : List Job) (rate : Int) (o : List Int) : List Slo × List Int := o.foldl (stJ w l rate) ([], [])
theorem run_next {w : List Win} {l : List Job} {rate : Int} {o : List Int} {k : Nat} (h : k < o.length) : runJ w l rate (o.take (k + 1)) = stJ w l rate (runJ w l rate (o.take k)) (o.getD k 0) := by
  unfold runJ
  rw [getT (z := (0 : Int)) h, List.foldl_append]
  rfl
/-- what holds of the assignments made -/
def okM (m : List Slo) : Prop := bdS m ∧ srtS m
theorem bsS_lt {m : List Slo} {t : Int} {x : Slo} (h : x ∈ m.take (bsS m t)) : x.st < t := by
  unfold bsS at h
  have e : m.take (m.takeWhile fun x => decide (x.st < t)).length = m.takeWhile fun x => decide (x.st < t) := (List.prefix_iff_eq_take.1 (List.takeWhile_prefix _)).symm
  rw [e] at h
  have := List.all_takeWhile (p := fun x : Slo => decide (x.st < t)) (l := m)
  exact of_decide_eq_true (List.all_eq_true.1 this _ h)
theorem bsS_ge {t : Int} {x : Slo} : ∀ {m : List Slo}, srtS m → x ∈ m.drop (bsS m t) → t ≤ x.st
  | [], _, h => by simp [bsS] at h
  | y :: ys, hs, h => by
    have hs' := List.pairwise_cons.1 hs
    unfold bsS at h
    rw [List.takeWhile_cons] at h
    by_cases q : y.st < t
    · rw [decide_eq_true q, if_pos rfl, List.length_cons, List.drop_succ_cons] at h
      exact bsS_ge hs'.2 h
    · rw [decide_eq_false q] at h
      have h' : x ∈ y :: ys := h
      rcases List.mem_cons.1 h' with rfl | h'
      · omega
      · have := hs'.1 x h'; omega
theorem okM_ins {m : List Slo} {s : Slo} (h : okM m) (h1 : 0 ≤ s.st ∧ s.st ≤ 1099511627776) (h2 : 0 ≤ s.en ∧ s.en ≤ 1099511627776) : okM (insS m s) := by
  obtain ⟨hb, hs⟩ := h
  unfold insS
  refine ⟨fun x hx => ?_, ?_⟩
  · rcases List.mem_append.1 hx with hx | hx
    · exact hb x (List.take_subset _ _ hx)
    · rcases List.mem_cons.1 hx with rfl | hx
      · exact ⟨h1, h2⟩
      · exact hb x (List.drop_subset _ _ hx)
  · refine List.pairwise_append.2 ⟨hs.sublist (List.take_sublist _ _), List.pairwise_cons.2 ⟨fun x hx => bsS_ge hs hx, hs.sublist (List.drop_sublist _ _)⟩, fun x hx y hy => ?_⟩
    have := bsS_lt hx
    rcases List.mem_cons.1 hy with rfl | hy
    · omega
    · have := bsS_ge hs hy; omega
theorem insS_len {m : List Slo} {s : Slo} : (insS m s).length = m.length + 1 := by
  have := bsS_le m s.st
  unfold insS
  rw [List.length_append, List.length_cons, List.length_take, List.length_drop]
  omega
theorem us_good {w : List Win} {l : List Job} {rate : Int} (hu : usB w l rate = true) : (1 ≤ rate ∧ rate ≤ 2147483648) ∧ w.length ≤ 256 ∧ l.length ≤ 256 ∧ goodW w ∧ ∀ j ∈ l, vldJ j = true := by
  obtain ⟨h1, h2, h3, h4, h5⟩ := (usB_iff w l rate).1 hu
  exact ⟨h1, h2, h3, fun c hc => List.all_eq_true.1 h4 c hc, fun j hj => List.all_eq_true.1 h5 j hj⟩
theorem as_bd {w : List Win} {j : Job} {d : Int} {m : List Slo} (hw : goodW w) (hj : vldJ j = true) (hm : bdS m) (hd : 1 ≤ d ∧ d ≤ 2147483648) (hb : asB w j d m = true) : (0 ≤ (asS w j d m).st ∧ (asS w j d m).st ≤ 1099511627776) ∧ 0 ≤ (asS w j d m).en ∧ (asS w j d m).en ≤ 1099511627776 := by
  have hf : fsI w j d m < w.length := of_decide_eq_true hb
  have hp : plB (w[fsI w j d m]) j d m = true := List.findIdx_getElem (w := hf)
  have hv := hw _ (List.getElem_mem hf)
  have b := pl_bd (d := d) hv hj hm
  have a1 := (vldW_iff _).1 hv
  have e := getEq (z := Win.zero) hf
  unfold asS
  rw [if_pos hb, e]
  dsimp only
  have q := of_decide_eq_true hp
  omega
theorem b_passign (w : List Win) (l : List Job) (rate : Int) (hw : w.length ≤ 9223372036854775807) (hl : l.length ≤ 9223372036854775807) (hs : l.length ≤ 21 ∨ usB w l rate = false) : DoesK Try.prog 0 9 [.ro .win w, .ro .job l, .int .i64 rate] []
    (EndF 0 (if usB w l rate then .tup [.ro .slo (runJ w l rate (ordJ l)).1, .ro .int (sortZ (runJ w l rate (ordJ l)).2), .int .i64 0] else .tup [.ro .slo [], .ro .int [], .int .i64 1]) []) := by
  refine DoesK.close ?_
  cases hu : usB w l rate
  · refine w_body (rs := [.tmp 6, .tmp 7, .tmp 8]) (tm := [.ro .win w, .ro .job l, .int .i64 rate, .any, .any, .any, .any, .any, .any, .any, .any, .any, .any, .any, .any, .any, .any, .any, .any, .any, .any, .any, .any, .any, .any, .any, .any, .any, .any, .any, .any, .any, .any, .any, .any, .any, .any, .any, .any, .any, .any, .any, .any, .any, .any, .any, .any, .any, .any, .any, .any, .any, .any, .any, .any, .any, .any, .any, .any, .any, .any, .any, .any, .any, .any, .any, .any, .any, .any, .any, .any, .any, .any, .any, .any, .any, .any, .any, .any, .any, .any, .any, .any, .any]) fn_9 rfl rfl rfl rfl fun R hR => ?_
    (have zx1 := @hu; all_goals (try ((first | (with_reducible refine wp_id ?_) | (with_reducible refine does_id ?_) | (with_reducible refine ops_id ?_)); refine walk ?_; (repeat' (first | exact trivial | with_reducible refine And.intro ?_ ?_)); all_goals (repeat (first | (with_reducible refine ImpB.mk fun hb => ?_) | (with_reducible refine ImpK.mk fun hK => ?_) | (with_reducible refine ImpF.mk fun hF => ?_) | (with_reducible refine ImpQ.mk fun hp => ?_) | (with_reducible refine AllE.mk fun p => ?_) | (with_reducible refine AllR.mk fun rest => ?_) | (with_reducible refine AllK.mk fun K => ?_))))); repeat' (with_reducible refine And.intro ?_ ?_))
    (focus (refine ⟨_, _, Gh.refl, [], rfl, ?_⟩; (refine ⟨?_, ?_, ?_⟩ <;> simp only [go_sem, List.range, List.range.loop, List.nodup_cons, List.nodup_nil, List.mem_cons, List.not_mem_nil, or_false, or_self, decide_true, decide_false, Int.reduceToNat, Nat.min_eq_left, Nat.min_eq_right, Int.reducePow, Nat.reducePow, Int.reduceLE, Int.reduceLT, Int.reduceMul, Int.reduceAdd, Int.reduceSub, Int.reduceNeg, Bool.not_true, Bool.not_false, Bool.not_not, ↓reduceIte, Nat.reduceAdd, Nat.reduceSub, Nat.reduceMul, Nat.reduceEqDiff, reduceCtorEq, Nat.reduceLT, Nat.reduceLeDiff, Nat.reduceGT]); (try any_goals (refine ⟨?_, ?_⟩)); (try any_goals (with_reducible rfl))))
    trace_state
  · have h20 : l.length ≤ 21 := hs.elim id (fun q => by rw [hu] at q; cases q)
    refine w_body (rs := [.tmp 6, .tmp 7, .tmp 8]) (tm := [.ro .win w, .ro .job l, .int .i64 rate, .any, .any, .any, .any, .any, .any, .any, .any, .any, .any, .any, .any, .any, .any, .any, .any, .any, .any, .any, .any, .any, .any, .any, .any, .any, .any, .any, .any, .any, .any, .any, .any, .any, .any, .any, .any, .any, .any, .any, .any, .any, .any, .any, .any, .any, .any, .any, .any, .any, .any, .any, .any, .any, .any, .any, .any, .any, .any, .any, .any, .any, .any, .any, .any, .any, .any, .any, .any, .any, .any, .any, .any, .any, .any, .any, .any, .any, .any, .any, .any, .any]) fn_9 rfl rfl rfl rfl fun R hR => ?_
    (have zx1 := @hu; all_goals (try ((first | (with_reducible refine wp_id ?_) | (with_reducible refine does_id ?_) | (with_reducible refine ops_id ?_)); refine walk ?_; (repeat' (first | exact trivial | with_reducible refine And.intro ?_ ?_)); all_goals (repeat (first | (with_reducible refine ImpB.mk fun hb => ?_) | (with_reducible refine ImpK.mk fun hK => ?_) | (with_reducible refine ImpF.mk fun hF => ?_) | (with_reducible refine ImpQ.mk fun hp => ?_) | (with_reducible refine AllE.mk fun p => ?_) | (with_reducible refine AllR.mk fun rest => ?_) | (with_reducible refine AllK.mk fun K => ?_))))); repeat' (with_reducible refine And.intro ?_ ?_))
    refine Wp.ghost (gh_adopt (s := 9) .int trivial) ?_
    simp only [go_sem, decide_true, decide_false, Int.reduceToNat, Nat.min_eq_left, Nat.min_eq_right, Int.reducePow, Nat.reducePow, Int.reduceLE, Int.reduceLT, Int.reduceMul, Int.reduceAdd, Int.reduceSub, Int.reduceNeg, Bool.not_true, Bool.not_false, Bool.not_not, ↓reduceIte, Nat.reduceAdd, Nat.reduceSub, Nat.reduceMul, Nat.reduceEqDiff, reduceCtorEq, Nat.reduceLT, Nat.reduceLeDiff, Nat.reduceGT]
    any_goals ((try (refine w_seq fun K hK => ?_)); (try (refine w_block ?_)); refine w_loop (A := Nat) (fun k => k ≤ l.length) (fun k => l.length - k) (fun k => [(26, .int .i64 k), (9, .sl 1 .int 0 k)]) (fun k => [(1, .rows .int (iotaI k))]) (0) (ws := ?ws1) (tk := ?tk1) ?hw1 ?ht1 ?hi ?h0 ?LH1; (case hw1 => simp only [go_sem, decide_true, decide_false, Int.reduceToNat, Nat.min_eq_left, Nat.min_eq_right, Int.reducePow, Nat.reducePow, Int.reduceLE, Int.reduceLT, Int.reduceMul, Int.reduceAdd, Int.reduceSub, Int.reduceNeg, Bool.not_true, Bool.not_false, Bool.not_not, ↓reduceIte, Nat.reduceAdd, Nat.reduceSub, Nat.reduceMul, Nat.reduceEqDiff, reduceCtorEq, Nat.reduceLT, Nat.reduceLeDiff, Nat.reduceGT]; exact rfl); (case ht1 => simp only [go_sem, decide_true, decide_false, Int.reduceToNat, Nat.min_eq_left, Nat.min_eq_right, Int.reducePow, Nat.reducePow, Int.reduceLE, Int.reduceLT, Int.reduceMul, Int.reduceAdd, Int.reduceSub, Int.reduceNeg, Bool.not_true, Bool.not_false, Bool.not_not, ↓reduceIte, Nat.reduceAdd, Nat.reduceSub, Nat.reduceMul, Nat.reduceEqDiff, reduceCtorEq, Nat.reduceLT, Nat.reduceLeDiff, Nat.reduceGT]; exact rfl); (case' LH1 => rintro k E t hx hE ht; simp only [go_sem] at ht; subst ht; simp only [go_sem]; try dsimp only at hx))
    case hi => exact Nat.zero_le _
    case h0 =>
      (focus (refine ⟨_, _, Gh.refl, [0, 1], rfl, ?_⟩; (refine ⟨?_, ?_, ?_⟩ <;> simp only [go_sem, List.range, List.range.loop, List.nodup_cons, List.nodup_nil, List.mem_cons, List.not_mem_nil, or_false, or_self, decide_true, decide_false, Int.reduceToNat, Nat.min_eq_left, Nat.min_eq_right, Int.reducePow, Nat.reducePow, Int.reduceLE, Int.reduceLT, Int.reduceMul, Int.reduceAdd, Int.reduceSub, Int.reduceNeg, Bool.not_true, Bool.not_false, Bool.not_not, ↓reduceIte, Nat.reduceAdd, Nat.reduceSub, Nat.reduceMul, Nat.reduceEqDiff, reduceCtorEq, Nat.reduceLT, Nat.reduceLeDiff, Nat.reduceGT]); (try any_goals (refine ⟨?_, ?_⟩)); (try any_goals (with_reducible rfl))))
      all_goals exact rfl
    case LH1 =>
      have hk0 : k ≤ l.length := hx
      have hil := iota_len k
      have hw1 : IntKind.i64.wrap ((k : Int) + 1) = ((k + 1 : Nat) : Int) := by rw [wrap_i64 _ (by omega) (by omega)]; omega
      by_cases hk : k < l.length
      · have hkd : decide ((k : Int) < (l.length : Int)) = true := decide_eq_true (by omega)
        (have zx1 := @hkd; have zx2 := @hw1; have zx3 := @hil; all_goals (try ((first | (with_reducible refine wp_id ?_) | (with_reducible refine does_id ?_) | (with_reducible refine ops_id ?_)); refine walk ?_; (repeat' (first | exact trivial | with_reducible refine And.intro ?_ ?_)); all_goals (repeat (first | (with_reducible refine ImpB.mk fun hb => ?_) | (with_reducible refine ImpK.mk fun hK => ?_) | (with_reducible refine ImpF.mk fun hF => ?_) | (with_reducible refine ImpQ.mk fun hp => ?_) | (with_reducible refine AllE.mk fun p => ?_) | (with_reducible refine AllR.mk fun rest => ?_) | (with_reducible refine AllK.mk fun K => ?_))))); repeat' (with_reducible refine And.intro ?_ ?_))
        (all_goals first | exact Int.natCast_nonneg _ | exact Int.ofNat_lt.2 (by assumption) | assumption | omega | exact Nat.le_refl _ | (exfalso; simp at hb; done) | (simp only [go_sem, decide_true, decide_false, Int.reduceToNat, Nat.min_eq_left, Nat.min_eq_right, Int.reducePow, Nat.reducePow, Int.reduceLE, Int.reduceLT, Int.reduceMul, Int.reduceAdd, Int.reduceSub, Int.reduceNeg, Bool.not_true, Bool.not_false, Bool.not_not, ↓reduceIte, Nat.reduceAdd, Nat.reduceSub, Nat.reduceMul, Nat.reduceEqDiff, reduceCtorEq, Nat.reduceLT, Nat.reduceLeDiff, Nat.reduceGT]; done) | (unfold capM; omega) | (simp only [List.length_drop, List.length_take, List.length_append, List.length_cons, List.length_nil]; omega) | skip)
        refine ⟨k + 1, ⟨by first | omega | (dsimp only; omega), by first | omega | (dsimp only; omega)⟩, ?_⟩
        (focus (refine ⟨_, _, Gh.refl, [0, 3], rfl, ?_⟩; (refine ⟨?_, ?_, ?_⟩ <;> simp only [go_sem, List.range, List.range.loop, List.nodup_cons, List.nodup_nil, List.mem_cons, List.not_mem_nil, or_false, or_self, decide_true, decide_false, Int.reduceToNat, Nat.min_eq_left, Nat.min_eq_right, Int.reducePow, Nat.reducePow, Int.reduceLE, Int.reduceLT, Int.reduceMul, Int.reduceAdd, Int.reduceSub, Int.reduceNeg, Bool.not_true, Bool.not_false, Bool.not_not, ↓reduceIte, Nat.reduceAdd, Nat.reduceSub, Nat.reduceMul, Nat.reduceEqDiff, reduceCtorEq, Nat.reduceLT, Nat.reduceLeDiff, Nat.reduceGT]); (try any_goals (refine ⟨?_, ?_⟩)); (try any_goals (with_reducible rfl))))
        all_goals first | exact rfl | exact (iota_next k) | exact (iota_next k).symm | trace_state
      · have hkd : decide ((k : Int) < (l.length : Int)) = false := decide_eq_false (by omega)
        obtain rfl : k = l.length := by omega
        (have zx1 := @hkd; have zx2 := @hil; all_goals (try ((first | (with_reducible refine wp_id ?_) | (with_reducible refine does_id ?_) | (with_reducible refine ops_id ?_)); refine walk ?_; (repeat' (first | exact trivial | with_reducible refine And.intro ?_ ?_)); all_goals (repeat (first | (with_reducible refine ImpB.mk fun hb => ?_) | (with_reducible refine ImpK.mk fun hK => ?_) | (with_reducible refine ImpF.mk fun hF => ?_) | (with_reducible refine ImpQ.mk fun hp => ?_) | (with_reducible refine AllE.mk fun p => ?_) | (with_reducible refine AllR.mk fun rest => ?_) | (with_reducible refine AllK.mk fun K => ?_))))); repeat' (with_reducible refine And.intro ?_ ?_))
        all_goals first | exact iota_in | omega | skip
        refine Wp.ghost (gh_adopt (s := 11) .slo trivial) ?_
        simp only [go_sem, decide_true, decide_false, Int.reduceToNat, Nat.min_eq_left, Nat.min_eq_right, Int.reducePow, Nat.reducePow, Int.reduceLE, Int.reduceLT, Int.reduceMul, Int.reduceAdd, Int.reduceSub, Int.reduceNeg, Bool.not_true, Bool.not_false, Bool.not_not, ↓reduceIte, Nat.reduceAdd, Nat.reduceSub, Nat.reduceMul, Nat.reduceEqDiff, reduceCtorEq, Nat.reduceLT, Nat.reduceLeDiff, Nat.reduceGT]
        refine Wp.ghost (gh_adopt (s := 12) .int trivial) ?_
        simp only [go_sem, decide_true, decide_false, Int.reduceToNat, Nat.min_eq_left, Nat.min_eq_right, Int.reducePow, Nat.reducePow, Int.reduceLE, Int.reduceLT, Int.reduceMul, Int.reduceAdd, Int.reduceSub, Int.reduceNeg, Bool.not_true, Bool.not_false, Bool.not_not, ↓reduceIte, Nat.reduceAdd, Nat.reduceSub, Nat.reduceMul, Nat.reduceEqDiff, reduceCtorEq, Nat.reduceLT, Nat.reduceLeDiff, Nat.reduceGT]
        obtain ⟨o, ho⟩ : ∃ o, srt (keyJ l) (iotaI l.length) = o := ⟨_, rfl⟩
        have hol : o.length = l.length := by rw [← ho, srt_len, iota_len]
        have hoi : ∀ x ∈ o, inJ l x := by rw [← ho]; exact KE.all srt_KE.symm iota_in
        rw [ho]
        obtain ⟨F, hF⟩ : ∃ F, runJ w l rate = F := ⟨_, rfl⟩
        have hr0 : F (o.take 0) = ([], []) := by rw [← hF]; rfl
        any_goals ((try (refine w_seq fun K hK => ?_)); (try (refine w_block ?_)); refine w_loop (A := Nat) (fun k => k ≤ l.length ∧ okM (F (o.take k)).1 ∧ (F (o.take k)).1.length ≤ k ∧ (F (o.take k)).2.length ≤ k) (fun k => l.length - k) (fun k => [(39, .int .i64 k), (11, .sl 2 .slo 0 (F (o.take k)).1.length), (12, .sl 3 .int 0 (F (o.take k)).2.length)]) (fun k => [(2, .rows .slo (F (o.take k)).1), (3, .rows .int (F (o.take k)).2)]) (0) (ws := ?ws2) (tk := ?tk2) ?hw2 ?ht2 ?hi_1 ?h0_1 ?LH2; (case hw2 => simp only [go_sem, decide_true, decide_false, Int.reduceToNat, Nat.min_eq_left, Nat.min_eq_right, Int.reducePow, Nat.reducePow, Int.reduceLE, Int.reduceLT, Int.reduceMul, Int.reduceAdd, Int.reduceSub, Int.reduceNeg, Bool.not_true, Bool.not_false, Bool.not_not, ↓reduceIte, Nat.reduceAdd, Nat.reduceSub, Nat.reduceMul, Nat.reduceEqDiff, reduceCtorEq, Nat.reduceLT, Nat.reduceLeDiff, Nat.reduceGT]; exact rfl); (case ht2 => simp only [go_sem, decide_true, decide_false, Int.reduceToNat, Nat.min_eq_left, Nat.min_eq_right, Int.reducePow, Nat.reducePow, Int.reduceLE, Int.reduceLT, Int.reduceMul, Int.reduceAdd, Int.reduceSub, Int.reduceNeg, Bool.not_true, Bool.not_false, Bool.not_not, ↓reduceIte, Nat.reduceAdd, Nat.reduceSub, Nat.reduceMul, Nat.reduceEqDiff, reduceCtorEq, Nat.reduceLT, Nat.reduceLeDiff, Nat.reduceGT]; exact rfl); (case' LH2 => rintro k E t hx hE ht; simp only [go_sem] at ht; subst ht; simp only [go_sem]; try dsimp only at hx))
        case hi_1 => exact ⟨Nat.zero_le _, by rw [hr0]; exact ⟨⟨fun s hs => absurd hs List.not_mem_nil, List.Pairwise.nil⟩, Nat.le_refl _, Nat.le_refl _⟩⟩
        case h0_1 =>
          (focus (refine ⟨_, _, Gh.refl, [0, 1, 2, 3], rfl, ?_⟩; (refine ⟨?_, ?_, ?_⟩ <;> simp only [go_sem, List.range, List.range.loop, List.nodup_cons, List.nodup_nil, List.mem_cons, List.not_mem_nil, or_false, or_self, decide_true, decide_false, Int.reduceToNat, Nat.min_eq_left, Nat.min_eq_right, Int.reducePow, Nat.reducePow, Int.reduceLE, Int.reduceLT, Int.reduceMul, Int.reduceAdd, Int.reduceSub, Int.reduceNeg, Bool.not_true, Bool.not_false, Bool.not_not, ↓reduceIte, Nat.reduceAdd, Nat.reduceSub, Nat.reduceMul, Nat.reduceEqDiff, reduceCtorEq, Nat.reduceLT, Nat.reduceLeDiff, Nat.reduceGT]); (try any_goals (refine ⟨?_, ?_⟩)); (try any_goals (with_reducible rfl))))
          all_goals first | (rw [show F [] = ([], []) from hr0]; done) | (rw [show F [] = ([], []) from hr0]; rfl) | trace_state
        case LH2 =>
          obtain ⟨hk0, hok, hml, hll⟩ := hx
          have hw1 : IntKind.i64.wrap ((k : Int) + 1) = ((k + 1 : Nat) : Int) := by rw [wrap_i64 _ (by omega) (by omega)]; omega
          by_cases hk : k < l.length
          · have hkd : decide ((k : Int) < (l.length : Int)) = true := decide_eq_true (by omega)
            have hnx : F (o.take (k + 1)) = stJ w l rate (F (o.take k)) (o.getD k 0) := by rw [← hF]; exact run_next (by omega)
            obtain ⟨i, hie⟩ : ∃ i, o.getD k 0 = i := ⟨_, rfl⟩
            have hij : inJ l i := by rw [← hie]; exact hoi _ (getM (by omega))
            obtain ⟨hi1, hi2⟩ := id hij
            obtain ⟨⟨m, lf⟩, hm⟩ : ∃ p, F (o.take k) = p := ⟨_, rfl⟩
            rw [hm] at hok hml hll hnx ⊢
            rw [hie] at hnx
            dsimp only at hok hml hll ⊢
            obtain ⟨j, hje⟩ : ∃ j, l.getD i.toNat Job.zero = j := ⟨_, rfl⟩
            obtain ⟨hr, hwl, _, hgw, hgj⟩ := us_good hu
            have hjv : vldJ j = true := by rw [← hje]; exact hgj _ (getM (by omega))
            have hdb := dur_bd hr ((vldJ_iff j).1 hjv).1
            obtain ⟨hbm, hsm⟩ := id hok
            have hja := (vldJ_iff j).1 hjv
            have hje' : jbI l i = j := hje
            unfold stJ at hnx
            rw [hje'] at hnx
            dsimp only at hnx
            cases hb1 : asB w j (durI j rate) m
            · (have zx1 := @hkd; have zx2 := @hw1; have zx3 := @hie; have zx4 := @hje; have zx5 := @hb1; all_goals (try ((first | (with_reducible refine wp_id ?_) | (with_reducible refine does_id ?_) | (with_reducible refine ops_id ?_)); refine walk ?_; (repeat' (first | exact trivial | with_reducible refine And.intro ?_ ?_)); all_goals (repeat (first | (with_reducible refine ImpB.mk fun hb => ?_) | (with_reducible refine ImpK.mk fun hK => ?_) | (with_reducible refine ImpF.mk fun hF => ?_) | (with_reducible refine ImpQ.mk fun hp => ?_) | (with_reducible refine AllE.mk fun p => ?_) | (with_reducible refine AllR.mk fun rest => ?_) | (with_reducible refine AllK.mk fun K => ?_))))); repeat' (with_reducible refine And.intro ?_ ?_))
              all_goals first | assumption | exact bsS_le _ _ | omega | skip
              rw [hb1, if_neg (by decide)] at hnx
              refine ⟨k + 1, ⟨⟨by first | omega | (dsimp only; omega), by rw [hnx]; exact hok, by rw [hnx]; dsimp only; omega, by rw [hnx, List.length_append]; dsimp only [List.length_cons, List.length_nil]; omega⟩, by first | omega | (dsimp only; omega)⟩, ?_⟩
              dsimp only
              rw [hnx]
              (focus (refine ⟨_, _, Gh.refl, [0, 1, 2, 6], rfl, ?_⟩; (refine ⟨?_, ?_, ?_⟩ <;> simp only [go_sem, List.range, List.range.loop, List.nodup_cons, List.nodup_nil, List.mem_cons, List.not_mem_nil, or_false, or_self, decide_true, decide_false, Int.reduceToNat, Nat.min_eq_left, Nat.min_eq_right, Int.reducePow, Nat.reducePow, Int.reduceLE, Int.reduceLT, Int.reduceMul, Int.reduceAdd, Int.reduceSub, Int.reduceNeg, Bool.not_true, Bool.not_false, Bool.not_not, ↓reduceIte, Nat.reduceAdd, Nat.reduceSub, Nat.reduceMul, Nat.reduceEqDiff, reduceCtorEq, Nat.reduceLT, Nat.reduceLeDiff, Nat.reduceGT]); (try any_goals (refine ⟨?_, ?_⟩)); (try any_goals (with_reducible rfl))))
              all_goals trace_state
            · obtain ⟨s, hse⟩ : ∃ s, asS w j (durI j rate) m = s := ⟨_, rfl⟩
              (have zx1 := @hkd; have zx2 := @hw1; have zx3 := @hie; have zx4 := @hje; have zx5 := @hb1; have zx6 := @hse; all_goals (try ((first | (with_reducible refine wp_id ?_) | (with_reducible refine does_id ?_) | (with_reducible refine ops_id ?_)); refine walk ?_; (repeat' (first | exact trivial | with_reducible refine And.intro ?_ ?_)); all_goals (repeat (first | (with_reducible refine ImpB.mk fun hb => ?_) | (with_reducible refine ImpK.mk fun hK => ?_) | (with_reducible refine ImpF.mk fun hF => ?_) | (with_reducible refine ImpQ.mk fun hp => ?_) | (with_reducible refine AllE.mk fun p => ?_) | (with_reducible refine AllR.mk fun rest => ?_) | (with_reducible refine AllK.mk fun K => ?_))))); repeat' (with_reducible refine And.intro ?_ ?_))
              all_goals first | assumption | exact bsS_le _ _ | omega | skip
              rw [hb1, if_pos rfl, hse] at hnx
              have hbd := as_bd hgw hjv hbm hdb hb1
              rw [hse] at hbd
              refine ⟨k + 1, ⟨⟨by first | omega | (dsimp only; omega), by rw [hnx]; exact okM_ins hok hbd.1 hbd.2, by rw [hnx]; dsimp only; rw [insS_len]; omega, by rw [hnx]; dsimp only; omega⟩, by first | omega | (dsimp only; omega)⟩, ?_⟩
              dsimp only
              rw [hnx]
              (focus (refine ⟨_, _, Gh.refl, [0, 1, 6, 3], rfl, ?_⟩; (refine ⟨?_, ?_, ?_⟩ <;> simp only [go_sem, List.range, List.range.loop, List.nodup_cons, List.nodup_nil, List.mem_cons, List.not_mem_nil, or_false, or_self, decide_true, decide_false, Int.reduceToNat, Nat.min_eq_left, Nat.min_eq_right, Int.reducePow, Nat.reducePow, Int.reduceLE, Int.reduceLT, Int.reduceMul, Int.reduceAdd, Int.reduceSub, Int.reduceNeg, Bool.not_true, Bool.not_false, Bool.not_not, ↓reduceIte, Nat.reduceAdd, Nat.reduceSub, Nat.reduceMul, Nat.reduceEqDiff, reduceCtorEq, Nat.reduceLT, Nat.reduceLeDiff, Nat.reduceGT]); (try any_goals (refine ⟨?_, ?_⟩)); (try any_goals (with_reducible rfl))))
              all_goals first | exact insS_len | exact rfl | trace_state
          · have hkd : decide ((k : Int) < (l.length : Int)) = false := decide_eq_false (by omega)
            obtain rfl : k = l.length := by omega
            (have zx1 := @hkd; all_goals (try ((first | (with_reducible refine wp_id ?_) | (with_reducible refine does_id ?_) | (with_reducible refine ops_id ?_)); refine walk ?_; (repeat' (first | exact trivial | with_reducible refine And.intro ?_ ?_)); all_goals (repeat (first | (with_reducible refine ImpB.mk fun hb => ?_) | (with_reducible refine ImpK.mk fun hK => ?_) | (with_reducible refine ImpF.mk fun hF => ?_) | (with_reducible refine ImpQ.mk fun hp => ?_) | (with_reducible refine AllE.mk fun p => ?_) | (with_reducible refine AllR.mk fun rest => ?_) | (with_reducible refine AllK.mk fun K => ?_))))); repeat' (with_reducible refine And.intro ?_ ?_))
            have hto : o.take l.length = o := List.take_of_length_le (by omega)
            have hru : runJ w l rate (ordJ l) = F o := by unfold ordJ; rw [ho, hF]
            rw [hru, hto, ← sortZ_len (F o).2]
            refine ⟨_, _, (gh_frz (t := 2) (e := .slo) (xs := (F o).1) rfl ?f1 ?f2).trans (gh_frz (t := 3) (e := .int) (xs := sortZ (F o).2) rfl ?f3 ?f4), [], rfl, ?ft⟩
            case' ft => (refine ⟨?_, ?_, ?_⟩ <;> simp only [go_sem, List.range, List.range.loop, List.nodup_cons, List.nodup_nil, List.mem_cons, List.not_mem_nil, or_false, or_self, decide_true, decide_false, Int.reduceToNat, Nat.min_eq_left, Nat.min_eq_right, Int.reducePow, Nat.reducePow, Int.reduceLE, Int.reduceLT, Int.reduceMul, Int.reduceAdd, Int.reduceSub, Int.reduceNeg, Bool.not_true, Bool.not_false, Bool.not_not, ↓reduceIte, Nat.reduceAdd, Nat.reduceSub, Nat.reduceMul, Nat.reduceEqDiff, reduceCtorEq, Nat.reduceLT, Nat.reduceLeDiff, Nat.reduceGT])
            case' f1 => simp only [go_sem, decide_true, decide_false, Int.reduceToNat, Nat.min_eq_left, Nat.min_eq_right, Int.reducePow, Nat.reducePow, Int.reduceLE, Int.reduceLT, Int.reduceMul, Int.reduceAdd, Int.reduceSub, Int.reduceNeg, Bool.not_true, Bool.not_false, Bool.not_not, ↓reduceIte, Nat.reduceAdd, Nat.reduceSub, Nat.reduceMul, Nat.reduceEqDiff, reduceCtorEq, Nat.reduceLT, Nat.reduceLeDiff, Nat.reduceGT]
            case' f2 => simp only [go_sem, decide_true, decide_false, Int.reduceToNat, Nat.min_eq_left, Nat.min_eq_right, Int.reducePow, Nat.reducePow, Int.reduceLE, Int.reduceLT, Int.reduceMul, Int.reduceAdd, Int.reduceSub, Int.reduceNeg, Bool.not_true, Bool.not_false, Bool.not_not, ↓reduceIte, Nat.reduceAdd, Nat.reduceSub, Nat.reduceMul, Nat.reduceEqDiff, reduceCtorEq, Nat.reduceLT, Nat.reduceLeDiff, Nat.reduceGT]
            case' f3 => simp only [go_sem, decide_true, decide_false, Int.reduceToNat, Nat.min_eq_left, Nat.min_eq_right, Int.reducePow, Nat.reducePow, Int.reduceLE, Int.reduceLT, Int.reduceMul, Int.reduceAdd, Int.reduceSub, Int.reduceNeg, Bool.not_true, Bool.not_false, Bool.not_not, ↓reduceIte, Nat.reduceAdd, Nat.reduceSub, Nat.reduceMul, Nat.reduceEqDiff, reduceCtorEq, Nat.reduceLT, Nat.reduceLeDiff, Nat.reduceGT]
            case' f4 => simp only [go_sem, decide_true, decide_false, Int.reduceToNat, Nat.min_eq_left, Nat.min_eq_right, Int.reducePow, Nat.reducePow, Int.reduceLE, Int.reduceLT, Int.reduceMul, Int.reduceAdd, Int.reduceSub, Int.reduceNeg, Bool.not_true, Bool.not_false, Bool.not_not, ↓reduceIte, Nat.reduceAdd, Nat.reduceSub, Nat.reduceMul, Nat.reduceEqDiff, reduceCtorEq, Nat.reduceLT, Nat.reduceLeDiff, Nat.reduceGT]
            all_goals first | exact Nat.le_refl _ | exact ⟨Nat.le_refl _, False.elim⟩ | trace_state
abbrev pAns (w : List Win) (l : List Job) (rate : Int) : AV := if usB w l rate then .tup [.ro .slo (runJ w l rate (ordJ l)).1, .ro .int (sortZ (runJ w l rate (ordJ l)).2), .int .i64 0] else .tup [.ro .slo [], .ro .int [], .int .i64 1]
theorem c_passign {h : List Ch} {K : KT} {w : List Win} {l : List Job} {rate : Int} {a b : AV} (H : K (pAns w l rate) h) (q1 : isRO .win w a) (q2 : isRO .job l b) (s1 : w.length ≤ 9223372036854775807) (s2 : l.length ≤ 9223372036854775807) (s3 : l.length ≤ 21 ∨ usB w l rate = false) : Does Try.prog 9 [a, b, .int .i64 rate] h K :=
  frame_pure (b_passign w l rate s1 s2 s3) (br_cons q1.br (br_cons q2.br (br_cons br_int br_nil))) (.inl (by rw [brTL, q1.brT, brTL, q2.brT]; rfl)) (fun _ => by split <;> rfl) H
abbrev i_passign := Ctr.mk (i := 0) (g := 9) @c_passign
attribute [instance] i_passign
end Go.V

set_option maxRecDepth 100000
set_option maxHeartbeats 16000000
namespace Go.V
open Go.Proofs
/-- the jobs of one priority -/
def rO (l : List Job) (p : Int) (k : Nat) : List Int := (iotaI k).filter fun a => decide (keyJ l a = p)
def rOs (l : List Job) : Nat → List Int
  | 0 => []
  | P + 1 => rOs l P ++ rO l P l.length
attribute [irreducible] rOs rO
end Go.V
