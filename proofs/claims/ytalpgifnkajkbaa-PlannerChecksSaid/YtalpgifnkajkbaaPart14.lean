/-
  Jobs: insertion sort.
  Jobs: the stable sort, at most 20.
  Assignments: the search in a sorted list.
  Assignments: assign.
-/
import Derived.Test.YtalpgifnkajkbaaPart13
set_option linter.unusedVariables false
set_option linter.unusedSimpArgs false
set_option maxRecDepth 100000
set_option maxHeartbeats 8000000
namespace Go.V
open Go.Proofs
theorem KE.all {f : Int → Int} {xs ys : List Int} {p : Int → Prop} (h : KE f xs ys) (hp : ∀ a ∈ xs, p a) : ∀ a ∈ ys, p a := fun a ha => hp a (h.symm.mem ha)
theorem getMI {zs : List Int} {k : Nat} (h : k < zs.length) : zs.getD k 0 ∈ zs := getM h
theorem swA_take {k a : Nat} {zs : List Int} (h : a ≤ k) : (swA k zs).take a = zs.take a := by
  unfold swA
  rw [List.take_set_of_le h, List.take_set_of_le (by omega)]
theorem swA_drop {k b : Nat} {zs : List Int} (h : k + 1 < b) : (swA k zs).drop b = zs.drop b := by
  unfold swA
  rw [List.drop_set_of_lt (by omega), List.drop_set_of_lt h]
/-- zs is xs with the places from a to i sorted -/
def mid (f : Int → Int) (xs : List Int) (a b : Nat) (zs : List Int) : Prop := zs.length = xs.length ∧ KE f xs zs ∧ zs.take a = xs.take a ∧ zs.drop b = xs.drop b
theorem mid.sw {f : Int → Int} {xs zs : List Int} {a b k : Nat} (h : mid f xs a b zs) (h1 : a ≤ k) (h2 : k + 1 < b) (h3 : b ≤ xs.length) (hk : f (zs.getD (k + 1) 0) < f (zs.getD k 0)) : mid f xs a b (swA k zs) := by
  obtain ⟨q1, q2, q3, q4⟩ := h
  exact ⟨by rw [swA_len]; exact q1, q2.trans (KE_swap (by omega) (by omega)), by rw [swA_take h1]; exact q3, by rw [swA_drop h2]; exact q4⟩
abbrev bxJ (l : List Job) : Ch := .cells [.ro .job l]
theorem b_ins (l : List Job) (xs : List Int) (a b : Nat) (hi : ∀ x ∈ xs, inJ l x) (hab : a ≤ b) (hb : b ≤ xs.length) (hl : xs.length ≤ 1099511627776) : DoesK Try.prog 2 49 [.sl 0 .int 0 xs.length, .int .i64 a, .int .i64 b, .fn 19 [.ptr 1 0]] [.rows .int xs, bxJ l]
    (EndF 2 (.tup []) ([.rows .int (srtR (keyJ l) a b xs), bxJ l] ++ [])) := by
  refine DoesK.close ?_
  have hw0 : IntKind.i64.wrap ((a : Int) + 1) = ((a + 1 : Nat) : Int) := by rw [wrap_i64 _ (by omega) (by omega)]; omega
  refine w_body (rs := []) (tm := [.sl 0 .int 0 xs.length, .int .i64 a, .int .i64 b, .fn 19 [.ptr 1 0], .any, .any, .any, .any, .any, .any, .any, .any, .any, .any, .any, .any, .any, .any, .any, .any, .any, .any, .any, .any, .any, .any, .any, .any, .any, .any, .any, .any, .any, .any, .any, .any, .any, .any, .any, .any, .any, .any, .any, .any, .any, .any, .any, .any, .any, .any, .any, .any, .any]) fn_49 rfl rfl rfl rfl fun R hR => ?_
  (have zx1 := @hw0; all_goals (try ((first | (with_reducible refine wp_id ?_) | (with_reducible refine does_id ?_) | (with_reducible refine ops_id ?_)); refine walk ?_; (repeat' (first | exact trivial | with_reducible refine And.intro ?_ ?_)); all_goals (repeat (first | (with_reducible refine ImpB.mk fun hb => ?_) | (with_reducible refine ImpK.mk fun hK => ?_) | (with_reducible refine ImpF.mk fun hF => ?_) | (with_reducible refine ImpQ.mk fun hp => ?_) | (with_reducible refine AllE.mk fun p => ?_) | (with_reducible refine AllR.mk fun rest => ?_) | (with_reducible refine AllK.mk fun K => ?_))))); repeat' (with_reducible refine And.intro ?_ ?_))
  any_goals ((try (refine w_seq fun K hK => ?_)); (try (refine w_block ?_)); refine w_loop (A := Nat × List Int) (fun p => a + 1 ≤ p.1 ∧ (p.1 ≤ b ∨ p.1 = a + 1) ∧ mid (keyJ l) xs a b p.2 ∧ (∀ i j, a ≤ i → i < j → j < p.1 → j < b → keyJ l (p.2.getD i 0) ≤ keyJ l (p.2.getD j 0))) (fun p => b + 1 - p.1) (fun p => [(8, .int .i64 p.1)]) (fun p => [(0, .rows .int p.2), (1, bxJ l)]) ((a + 1, xs)) (ws := ?ws1) (tk := ?tk1) ?hw1 ?ht1 ?hi ?h0 ?LH1; (case hw1 => simp only [go_sem, decide_true, decide_false, Int.reduceToNat, Nat.min_eq_left, Nat.min_eq_right, Int.reducePow, Nat.reducePow, Int.reduceLE, Int.reduceLT, Int.reduceMul, Int.reduceAdd, Int.reduceSub, Int.reduceNeg, Bool.not_true, Bool.not_false, Bool.not_not, ↓reduceIte, Nat.reduceAdd, Nat.reduceSub, Nat.reduceMul, Nat.reduceEqDiff, reduceCtorEq, Nat.reduceLT, Nat.reduceLeDiff, Nat.reduceGT]; exact rfl); (case ht1 => simp only [go_sem, decide_true, decide_false, Int.reduceToNat, Nat.min_eq_left, Nat.min_eq_right, Int.reducePow, Nat.reducePow, Int.reduceLE, Int.reduceLT, Int.reduceMul, Int.reduceAdd, Int.reduceSub, Int.reduceNeg, Bool.not_true, Bool.not_false, Bool.not_not, ↓reduceIte, Nat.reduceAdd, Nat.reduceSub, Nat.reduceMul, Nat.reduceEqDiff, reduceCtorEq, Nat.reduceLT, Nat.reduceLeDiff, Nat.reduceGT]; exact rfl); (case' LH1 => rintro ⟨i, zs⟩ E t hx hE ht; simp only [go_sem] at ht; subst ht; simp only [go_sem]; try dsimp only at hx))
  case hi => exact ⟨Nat.le_refl _, .inr rfl, ⟨rfl, KE.refl, rfl, rfl⟩, fun i j h1 h2 h3 => by dsimp only at h3; omega⟩
  case h0 => (focus (refine ⟨_, _, Gh.refl, [0, 1], rfl, ?_⟩; (refine ⟨?_, ?_, ?_⟩ <;> simp only [go_sem, List.range, List.range.loop, List.nodup_cons, List.nodup_nil, List.mem_cons, List.not_mem_nil, or_false, or_self, decide_true, decide_false, Int.reduceToNat, Nat.min_eq_left, Nat.min_eq_right, Int.reducePow, Nat.reducePow, Int.reduceLE, Int.reduceLT, Int.reduceMul, Int.reduceAdd, Int.reduceSub, Int.reduceNeg, Bool.not_true, Bool.not_false, Bool.not_not, ↓reduceIte, Nat.reduceAdd, Nat.reduceSub, Nat.reduceMul, Nat.reduceEqDiff, reduceCtorEq, Nat.reduceLT, Nat.reduceLeDiff, Nat.reduceGT]); (try any_goals (refine ⟨?_, ?_⟩)); (try any_goals (with_reducible rfl))))
  case LH1 =>
    obtain ⟨h1, h0, h2, h3⟩ := hx
    have h2' := h2
    obtain ⟨q1, q2, q3, q4⟩ := h2'
    (try dsimp only at h1 h0 q1 q2 q3 q4 h3)
    have hw1 : IntKind.i64.wrap ((i : Int) + 1) = ((i + 1 : Nat) : Int) := by rw [wrap_i64 _ (by omega) (by omega)]; omega
    by_cases hib : i < b
    · have d1 : decide ((i : Int) < (b : Int)) = true := decide_eq_true (by omega)
      (have zx1 := @d1; all_goals (try ((first | (with_reducible refine wp_id ?_) | (with_reducible refine does_id ?_) | (with_reducible refine ops_id ?_)); refine walk ?_; (repeat' (first | exact trivial | with_reducible refine And.intro ?_ ?_)); all_goals (repeat (first | (with_reducible refine ImpB.mk fun hb => ?_) | (with_reducible refine ImpK.mk fun hK => ?_) | (with_reducible refine ImpF.mk fun hF => ?_) | (with_reducible refine ImpQ.mk fun hp => ?_) | (with_reducible refine AllE.mk fun p => ?_) | (with_reducible refine AllR.mk fun rest => ?_) | (with_reducible refine AllK.mk fun K => ?_))))); repeat' (with_reducible refine And.intro ?_ ?_))
      any_goals ((try (refine w_seq fun K hK => ?_)); (try (refine w_block ?_)); refine w_loop (A := Nat × List Int) (fun p => a ≤ p.1 ∧ p.1 ≤ i ∧ mid (keyJ l) xs a b p.2 ∧ (∀ u v, a ≤ u → u < v → v ≤ i → v ≠ p.1 → keyJ l (p.2.getD u 0) ≤ keyJ l (p.2.getD v 0))) (fun p => p.1) (fun p => [(8, .int .i64 i), (9, .int .i64 p.1)]) (fun p => [(0, .rows .int p.2), (1, bxJ l)]) ((i, zs)) (ws := ?ws2) (tk := ?tk2) ?hw2 ?ht2 ?hi_1 ?h0_1 ?LH2; (case hw2 => simp only [go_sem, decide_true, decide_false, Int.reduceToNat, Nat.min_eq_left, Nat.min_eq_right, Int.reducePow, Nat.reducePow, Int.reduceLE, Int.reduceLT, Int.reduceMul, Int.reduceAdd, Int.reduceSub, Int.reduceNeg, Bool.not_true, Bool.not_false, Bool.not_not, ↓reduceIte, Nat.reduceAdd, Nat.reduceSub, Nat.reduceMul, Nat.reduceEqDiff, reduceCtorEq, Nat.reduceLT, Nat.reduceLeDiff, Nat.reduceGT]; exact rfl); (case ht2 => simp only [go_sem, decide_true, decide_false, Int.reduceToNat, Nat.min_eq_left, Nat.min_eq_right, Int.reducePow, Nat.reducePow, Int.reduceLE, Int.reduceLT, Int.reduceMul, Int.reduceAdd, Int.reduceSub, Int.reduceNeg, Bool.not_true, Bool.not_false, Bool.not_not, ↓reduceIte, Nat.reduceAdd, Nat.reduceSub, Nat.reduceMul, Nat.reduceEqDiff, reduceCtorEq, Nat.reduceLT, Nat.reduceLeDiff, Nat.reduceGT]; exact rfl); (case' LH2 => rintro ⟨j, ys⟩ E t hx hE ht; simp only [go_sem] at ht; subst ht; simp only [go_sem]; try dsimp only at hx))
      case hi_1 => exact ⟨by omega, Nat.le_refl _, h2, fun u v g1 g2 g3 g4 => h3 u v g1 g2 (by dsimp only at g4; omega) (by omega)⟩
      case h0_1 => (focus (refine ⟨_, _, Gh.refl, [0, 1], rfl, ?_⟩; (refine ⟨?_, ?_, ?_⟩ <;> simp only [go_sem, List.range, List.range.loop, List.nodup_cons, List.nodup_nil, List.mem_cons, List.not_mem_nil, or_false, or_self, decide_true, decide_false, Int.reduceToNat, Nat.min_eq_left, Nat.min_eq_right, Int.reducePow, Nat.reducePow, Int.reduceLE, Int.reduceLT, Int.reduceMul, Int.reduceAdd, Int.reduceSub, Int.reduceNeg, Bool.not_true, Bool.not_false, Bool.not_not, ↓reduceIte, Nat.reduceAdd, Nat.reduceSub, Nat.reduceMul, Nat.reduceEqDiff, reduceCtorEq, Nat.reduceLT, Nat.reduceLeDiff, Nat.reduceGT]); (try any_goals (refine ⟨?_, ?_⟩)); (try any_goals (with_reducible rfl))))
      case LH2 =>
        obtain ⟨g1, g2, g3, g4⟩ := hx
        have g3' := g3
        obtain ⟨p1, p2, p3, p4⟩ := g3'
        (try dsimp only at g1 g2 p1 p2 p3 p4 g4)
        have hin := KE.all p2 hi
        have hjl : j < ys.length := by omega
        by_cases hja : a < j
        · have d2 : decide ((a : Int) < (j : Int)) = true := decide_eq_true (by omega)
          have hw2 : IntKind.i64.wrap ((j : Int) - 1) = ((j - 1 : Nat) : Int) := by rw [wrap_i64 _ (by omega) (by omega)]; omega
          have i1 := hin _ (getMI hjl)
          have i2 := hin _ (getMI (zs := ys) (k := j - 1) (by omega))
          obtain ⟨k, rfl⟩ : ∃ k, j = k + 1 := ⟨j - 1, by omega⟩
          have ek : k + 1 - 1 = k := by omega
          rw [ek] at hw2 i2
          by_cases c : keyJ l (ys.getD (k + 1) 0) < keyJ l (ys.getD k 0)
          · have d3 : decide (cmpI (keyJ l (ys.getD (k + 1) 0)) (keyJ l (ys.getD k 0)) < 0) = true := by rw [cmpI_lt]; exact decide_eq_true c
            (have zx1 := @d2; have zx2 := @hw2; have zx3 := @d3; have zx4 := @p1; all_goals (try ((first | (with_reducible refine wp_id ?_) | (with_reducible refine does_id ?_) | (with_reducible refine ops_id ?_)); refine walk ?_; (repeat' (first | exact trivial | with_reducible refine And.intro ?_ ?_)); all_goals (repeat (first | (with_reducible refine ImpB.mk fun hb => ?_) | (with_reducible refine ImpK.mk fun hK => ?_) | (with_reducible refine ImpF.mk fun hF => ?_) | (with_reducible refine ImpQ.mk fun hp => ?_) | (with_reducible refine AllE.mk fun p => ?_) | (with_reducible refine AllR.mk fun rest => ?_) | (with_reducible refine AllK.mk fun K => ?_))))); repeat' (with_reducible refine And.intro ?_ ?_))
            all_goals first | exact i1 | exact i2 | exact Int.natCast_nonneg _ | omega | skip
            refine ⟨(k, swA k ys), ⟨⟨by (try dsimp only); omega, by (try dsimp only); omega, g3.sw (by omega) (by omega) hb c, fun u v e1 e2 e3 e4 => ?_⟩, by (try dsimp only); omega⟩, ?_⟩
            · dsimp only at e4 ⊢
              rw [swA_get hjl, swA_get hjl]
              have s1 := fun h => g4 u k e1 h (by omega) (by omega)
              have s2 := g4 u v e1 e2 e3
              have s3 := fun h h' => g4 k v (by omega) h e3 h'
              by_cases u1 : u = k
              · subst u1
                rw [if_pos rfl, if_neg (by omega)]
                by_cases v1 : v = u + 1
                · rw [if_pos v1]; omega
                · rw [if_neg v1]; have := s3 (by omega) v1; omega
              · rw [if_neg u1]
                by_cases u2 : u = k + 1
                · rw [if_pos u2, if_neg (by omega), if_neg (by omega)]
                  exact s3 (by omega) (by omega)
                · rw [if_neg u2, if_neg (by omega)]
                  by_cases v1 : v = k + 1
                  · rw [if_pos v1]; exact s1 (by omega)
                  · rw [if_neg v1]; exact s2 v1
            (focus (refine ⟨_, _, Gh.refl, [0, 1], rfl, ?_⟩; (refine ⟨?_, ?_, ?_⟩ <;> simp only [go_sem, List.range, List.range.loop, List.nodup_cons, List.nodup_nil, List.mem_cons, List.not_mem_nil, or_false, or_self, decide_true, decide_false, Int.reduceToNat, Nat.min_eq_left, Nat.min_eq_right, Int.reducePow, Nat.reducePow, Int.reduceLE, Int.reduceLT, Int.reduceMul, Int.reduceAdd, Int.reduceSub, Int.reduceNeg, Bool.not_true, Bool.not_false, Bool.not_not, ↓reduceIte, Nat.reduceAdd, Nat.reduceSub, Nat.reduceMul, Nat.reduceEqDiff, reduceCtorEq, Nat.reduceLT, Nat.reduceLeDiff, Nat.reduceGT]); (try any_goals (refine ⟨?_, ?_⟩)); (try any_goals (with_reducible rfl))))
            all_goals exact rfl
          · have d3 : decide (cmpI (keyJ l (ys.getD (k + 1) 0)) (keyJ l (ys.getD k 0)) < 0) = false := by rw [cmpI_lt]; exact decide_eq_false c
            (have zx1 := @d2; have zx2 := @hw2; have zx3 := @d3; have zx4 := @hw1; have zx5 := @p1; all_goals (try ((first | (with_reducible refine wp_id ?_) | (with_reducible refine does_id ?_) | (with_reducible refine ops_id ?_)); refine walk ?_; (repeat' (first | exact trivial | with_reducible refine And.intro ?_ ?_)); all_goals (repeat (first | (with_reducible refine ImpB.mk fun hb => ?_) | (with_reducible refine ImpK.mk fun hK => ?_) | (with_reducible refine ImpF.mk fun hF => ?_) | (with_reducible refine ImpQ.mk fun hp => ?_) | (with_reducible refine AllE.mk fun p => ?_) | (with_reducible refine AllR.mk fun rest => ?_) | (with_reducible refine AllK.mk fun K => ?_))))); repeat' (with_reducible refine And.intro ?_ ?_))
            all_goals first | exact i1 | exact i2 | exact Int.natCast_nonneg _ | omega | skip
            refine ⟨(i + 1, ys), ⟨⟨by (try dsimp only); omega, by (try dsimp only); omega, g3, fun u v e1 e2 e3 e4 => ?_⟩, by (try dsimp only); omega⟩, ?_⟩
            · dsimp only at e3 ⊢
              by_cases v1 : v = k + 1
              · subst v1
                by_cases u1 : u = k
                · subst u1; omega
                · have := g4 u k e1 (by omega) (by omega) (by omega); omega
              · exact g4 u v e1 e2 (by omega) v1
            (focus (refine ⟨_, _, Gh.refl, [0, 1], rfl, ?_⟩; (refine ⟨?_, ?_, ?_⟩ <;> simp only [go_sem, List.range, List.range.loop, List.nodup_cons, List.nodup_nil, List.mem_cons, List.not_mem_nil, or_false, or_self, decide_true, decide_false, Int.reduceToNat, Nat.min_eq_left, Nat.min_eq_right, Int.reducePow, Nat.reducePow, Int.reduceLE, Int.reduceLT, Int.reduceMul, Int.reduceAdd, Int.reduceSub, Int.reduceNeg, Bool.not_true, Bool.not_false, Bool.not_not, ↓reduceIte, Nat.reduceAdd, Nat.reduceSub, Nat.reduceMul, Nat.reduceEqDiff, reduceCtorEq, Nat.reduceLT, Nat.reduceLeDiff, Nat.reduceGT]); (try any_goals (refine ⟨?_, ?_⟩)); (try any_goals (with_reducible rfl))))
        · have d2 : decide ((a : Int) < (j : Int)) = false := decide_eq_false (by omega)
          obtain rfl : j = a := by omega
          (have zx1 := @d2; have zx2 := @hw1; all_goals (try ((first | (with_reducible refine wp_id ?_) | (with_reducible refine does_id ?_) | (with_reducible refine ops_id ?_)); refine walk ?_; (repeat' (first | exact trivial | with_reducible refine And.intro ?_ ?_)); all_goals (repeat (first | (with_reducible refine ImpB.mk fun hb => ?_) | (with_reducible refine ImpK.mk fun hK => ?_) | (with_reducible refine ImpF.mk fun hF => ?_) | (with_reducible refine ImpQ.mk fun hp => ?_) | (with_reducible refine AllE.mk fun p => ?_) | (with_reducible refine AllR.mk fun rest => ?_) | (with_reducible refine AllK.mk fun K => ?_))))); repeat' (with_reducible refine And.intro ?_ ?_))
          refine ⟨(i + 1, ys), ⟨⟨by (try dsimp only); omega, by (try dsimp only); omega, g3, fun u v e1 e2 e3 e4 => g4 u v e1 e2 (by dsimp only at e3; omega) (by (try dsimp only); omega)⟩, by (try dsimp only); omega⟩, ?_⟩
          (focus (refine ⟨_, _, Gh.refl, [0, 1], rfl, ?_⟩; (refine ⟨?_, ?_, ?_⟩ <;> simp only [go_sem, List.range, List.range.loop, List.nodup_cons, List.nodup_nil, List.mem_cons, List.not_mem_nil, or_false, or_self, decide_true, decide_false, Int.reduceToNat, Nat.min_eq_left, Nat.min_eq_right, Int.reducePow, Nat.reducePow, Int.reduceLE, Int.reduceLT, Int.reduceMul, Int.reduceAdd, Int.reduceSub, Int.reduceNeg, Bool.not_true, Bool.not_false, Bool.not_not, ↓reduceIte, Nat.reduceAdd, Nat.reduceSub, Nat.reduceMul, Nat.reduceEqDiff, reduceCtorEq, Nat.reduceLT, Nat.reduceLeDiff, Nat.reduceGT]); (try any_goals (refine ⟨?_, ?_⟩)); (try any_goals (with_reducible rfl))))
    · have d1 : decide ((i : Int) < (b : Int)) = false := decide_eq_false (by omega)
      (have zx1 := @d1; all_goals (try ((first | (with_reducible refine wp_id ?_) | (with_reducible refine does_id ?_) | (with_reducible refine ops_id ?_)); refine walk ?_; (repeat' (first | exact trivial | with_reducible refine And.intro ?_ ?_)); all_goals (repeat (first | (with_reducible refine ImpB.mk fun hb => ?_) | (with_reducible refine ImpK.mk fun hK => ?_) | (with_reducible refine ImpF.mk fun hF => ?_) | (with_reducible refine ImpQ.mk fun hp => ?_) | (with_reducible refine AllE.mk fun p => ?_) | (with_reducible refine AllR.mk fun rest => ?_) | (with_reducible refine AllK.mk fun K => ?_))))); repeat' (with_reducible refine And.intro ?_ ?_))
      rw [← srtR_uniq hab q1 q2 q3 q4 fun p q e1 e2 e3 e4 => h3 p q e1 e2 (by omega) e3]
      (focus (refine ⟨_, _, Gh.refl, [0, 1], rfl, ?_⟩; (refine ⟨?_, ?_, ?_⟩ <;> simp only [go_sem, List.range, List.range.loop, List.nodup_cons, List.nodup_nil, List.mem_cons, List.not_mem_nil, or_false, or_self, decide_true, decide_false, Int.reduceToNat, Nat.min_eq_left, Nat.min_eq_right, Int.reducePow, Nat.reducePow, Int.reduceLE, Int.reduceLT, Int.reduceMul, Int.reduceAdd, Int.reduceSub, Int.reduceNeg, Bool.not_true, Bool.not_false, Bool.not_not, ↓reduceIte, Nat.reduceAdd, Nat.reduceSub, Nat.reduceMul, Nat.reduceEqDiff, reduceCtorEq, Nat.reduceLT, Nat.reduceLeDiff, Nat.reduceGT]); (try any_goals (refine ⟨?_, ?_⟩)); (try any_goals (with_reducible rfl))))
theorem frame_two0 {P : Program} {g : FuncId} {h : List Ch} {t u : Nat} {la az : List AV} {ret ret' : AV} {c c' d d' : Ch} {K : KT} (hb : DoesK P 2 g la [c, d] (EndF 2 ret ([c', d'] ++ []))) (ht : hth h t = c) (hu : hth h u = d) (hne : t ≠ u) (hg : c ≠ .gone) (hg2 : d ≠ .gone) (hcc : ∀ σ, fitC σ c c) (hdd : ∀ σ, fitC σ d d) (hbr : brL [t, u] h la az) (hrf : brTL la az = [])
    (hc : ∀ ρ, renC ρ c' = c') (hd : ∀ ρ, renC ρ d' = d') (hret : renA (rhoC [t, u] h.length) ret = ret') (HK : K ret' ((h.set t c').set u d')) : Does P g az h K :=
  Does.frame (σ := [t, u]) (la := la) (lh := [c, d]) (ret := ret) (obj := [c', d']) (cs := []) hb rfl hbr ⟨hth_lt (by rw [ht]; exact hg), by rw [ht]; exact hcc _, hth_lt (by rw [hu]; exact hg2), by rw [hu]; exact hdd _, trivial⟩ (by simp [hne]) (.inl hrf) (by
    show K (renA _ ret) (((((h.set t .gone).set u .gone).set t (renC _ c')).set u (renC _ d')) ++ [])
    rw [hret, hc, hd, List.append_nil, List.set_comm (i := u) (j := t) _ _ (Ne.symm hne), List.set_set, List.set_set]
    exact HK)
theorem c_ins {h : List Ch} {K : KT} {l : List Job} {xs : List Int} {x y : Int} {n t u : Nat} (H : K (.tup []) (h.set t (.rows .int (srtR (keyJ l) x.toNat y.toNat xs)))) (o : hth h t = .rows .int xs) (o1 : hth h u = bxJ l) (s1 : ∀ x ∈ xs, inJ l x) (s2 : 0 ≤ x ∧ x ≤ y ∧ y ≤ n) (s3 : n = xs.length) (s4 : xs.length ≤ 1099511627776) : Does Try.prog 49 [.sl t .int 0 n, .int .i64 x, .int .i64 y, .fn 19 [.ptr u 0]] h K := by
  have hne : t ≠ u := fun e => by rw [e, o1] at o; cases o
  have hx : x = (x.toNat : Int) := by omega
  have hy : y = (y.toNat : Int) := by omega
  have hb := b_ins l xs x.toNat y.toNat s1 (by omega) (by omega) s4
  rw [hx, hy, s3]
  refine frame_two0 (ret' := .tup []) hb o o1 hne (by simp) (by simp) (fitC_rows _ _) (fun σ => ?_) (br_cons (br_own rfl) (br_cons br_int (br_cons br_int (br_cons (br_clo rfl) br_nil)))) rfl (fun _ => rfl) (fun _ => rfl) rfl ?_
  · simp only [fitC, fitL, fitA, asE_self, and_self]
  · rw [set_hth (by rw [hth_set_ne hne]; exact o1) (by simp)]
    exact H
abbrev i_ins := Ctr.mk (i := 0) (g := 49) @c_ins
attribute [instance] i_ins
end Go.V

set_option maxRecDepth 100000
set_option maxHeartbeats 8000000
namespace Go.V
open Go.Proofs
theorem srtR_all {f : Int → Int} {xs : List Int} : srtR f 0 xs.length xs = srt f xs := by unfold srtR; simp
theorem srtR_none {f : Int → Int} {k : Nat} {xs : List Int} (h : xs.length ≤ k) : srtR f k k xs = xs := by
  unfold srtR
  rw [List.take_of_length_le h, List.drop_eq_nil_of_le h]
  simp [srt]
theorem insF_len {f : Int → Int} {x : Int} : ∀ {l : List Int}, (insF f x l).length = l.length + 1
  | [] => rfl
  | y :: ys => by
    unfold insF
    split
    · rfl
    · simp [insF_len]
theorem srt_len {f : Int → Int} : ∀ {l : List Int}, (srt f l).length = l.length
  | [] => rfl
  | x :: xs => by rw [srt, insF_len, srt_len]; rfl
theorem b_stab (l : List Job) (xs : List Int) (hi : ∀ x ∈ xs, inJ l x) (hl : xs.length ≤ 20) : DoesK Try.prog 2 38 [.sl 0 .int 0 xs.length, .int .i64 xs.length, .fn 19 [.ptr 1 0]] [.rows .int xs, bxJ l]
    (EndF 2 (.tup []) ([.rows .int (srt (keyJ l) xs), bxJ l] ++ [])) := by
  refine DoesK.close ?_
  refine w_body (rs := []) (tm := [.sl 0 .int 0 xs.length, .int .i64 xs.length, .fn 19 [.ptr 1 0], .any, .any, .any, .any, .any, .any, .any, .any, .any, .any, .any, .any, .any, .any, .any, .any, .any, .any, .any, .any, .any, .any, .any, .any, .any, .any, .any, .any, .any, .any, .any, .any, .any, .any, .any, .any, .any, .any, .any, .any, .any, .any, .any, .any, .any, .any, .any, .any, .any, .any, .any, .any, .any, .any, .any, .any, .any, .any, .any, .any]) fn_38 rfl rfl rfl rfl fun R hR => ?_
  (all_goals (try ((first | (with_reducible refine wp_id ?_) | (with_reducible refine does_id ?_) | (with_reducible refine ops_id ?_)); refine walk ?_; (repeat' (first | exact trivial | with_reducible refine And.intro ?_ ?_)); all_goals (repeat (first | (with_reducible refine ImpB.mk fun hb => ?_) | (with_reducible refine ImpK.mk fun hK => ?_) | (with_reducible refine ImpF.mk fun hF => ?_) | (with_reducible refine ImpQ.mk fun hp => ?_) | (with_reducible refine AllE.mk fun p => ?_) | (with_reducible refine AllR.mk fun rest => ?_) | (with_reducible refine AllK.mk fun K => ?_))))); repeat' (with_reducible refine And.intro ?_ ?_))
  any_goals ((try (refine w_seq fun K hK => ?_)); (try (refine w_block ?_)); refine w_loop (A := Bool × List Int) (fun p => (p.1 = false ∧ p.2 = xs) ∨ (p.1 = true ∧ xs.length = 20 ∧ p.2 = srt (keyJ l) xs)) (fun p => if p.1 then 0 else 1) (fun p => [(6, .int .i64 20), (7, .int .i64 (if p.1 then 20 else 0)), (8, .int .i64 (if p.1 then 40 else 20))]) (fun p => [(0, .rows .int p.2), (1, bxJ l)]) ((false, xs)) (ws := ?ws1) (tk := ?tk1) ?hw1 ?ht1 ?hi ?h0 ?LH1; (case hw1 => simp only [go_sem, decide_true, decide_false, Int.reduceToNat, Nat.min_eq_left, Nat.min_eq_right, Int.reducePow, Nat.reducePow, Int.reduceLE, Int.reduceLT, Int.reduceMul, Int.reduceAdd, Int.reduceSub, Int.reduceNeg, Bool.not_true, Bool.not_false, Bool.not_not, ↓reduceIte, Nat.reduceAdd, Nat.reduceSub, Nat.reduceMul, Nat.reduceEqDiff, reduceCtorEq, Nat.reduceLT, Nat.reduceLeDiff, Nat.reduceGT]; exact rfl); (case ht1 => simp only [go_sem, decide_true, decide_false, Int.reduceToNat, Nat.min_eq_left, Nat.min_eq_right, Int.reducePow, Nat.reducePow, Int.reduceLE, Int.reduceLT, Int.reduceMul, Int.reduceAdd, Int.reduceSub, Int.reduceNeg, Bool.not_true, Bool.not_false, Bool.not_not, ↓reduceIte, Nat.reduceAdd, Nat.reduceSub, Nat.reduceMul, Nat.reduceEqDiff, reduceCtorEq, Nat.reduceLT, Nat.reduceLeDiff, Nat.reduceGT]; exact rfl); (case' LH1 => rintro ⟨a, zs⟩ E t hx hE ht; simp only [go_sem] at ht; subst ht; simp only [go_sem]; try dsimp only at hx))
  case hi => exact .inl ⟨rfl, rfl⟩
  case h0 => (focus (refine ⟨_, _, Gh.refl, [0, 1], rfl, ?_⟩; (refine ⟨?_, ?_, ?_⟩ <;> simp only [go_sem, List.range, List.range.loop, List.nodup_cons, List.nodup_nil, List.mem_cons, List.not_mem_nil, or_false, or_self, decide_true, decide_false, Int.reduceToNat, Nat.min_eq_left, Nat.min_eq_right, Int.reducePow, Nat.reducePow, Int.reduceLE, Int.reduceLT, Int.reduceMul, Int.reduceAdd, Int.reduceSub, Int.reduceNeg, Bool.not_true, Bool.not_false, Bool.not_not, ↓reduceIte, Nat.reduceAdd, Nat.reduceSub, Nat.reduceMul, Nat.reduceEqDiff, reduceCtorEq, Nat.reduceLT, Nat.reduceLeDiff, Nat.reduceGT]); (try any_goals (refine ⟨?_, ?_⟩)); (try any_goals (with_reducible rfl))))
  case LH1 =>
    rcases hx with ⟨h1, h2⟩ | ⟨h1, h0, h2⟩
    · obtain rfl : a = false := h1
      obtain rfl : zs = xs := h2
      by_cases h20 : zs.length = 20
      · have d1 : decide ((20 : Int) ≤ (zs.length : Int)) = true := decide_eq_true (by omega)
        have w1 : IntKind.i64.wrap (20 + 20) = 40 := rfl
        have e1 : srtR (keyJ l) (Int.toNat 0) (Int.toNat 20) zs = srt (keyJ l) zs := by rw [← srtR_all, h20]; rfl
        (have zx1 := @d1; have zx2 := @w1; have zx3 := @e1; all_goals (try ((first | (with_reducible refine wp_id ?_) | (with_reducible refine does_id ?_) | (with_reducible refine ops_id ?_)); refine walk ?_; (repeat' (first | exact trivial | with_reducible refine And.intro ?_ ?_)); all_goals (repeat (first | (with_reducible refine ImpB.mk fun hb => ?_) | (with_reducible refine ImpK.mk fun hK => ?_) | (with_reducible refine ImpF.mk fun hF => ?_) | (with_reducible refine ImpQ.mk fun hp => ?_) | (with_reducible refine AllE.mk fun p => ?_) | (with_reducible refine AllR.mk fun rest => ?_) | (with_reducible refine AllK.mk fun K => ?_))))); repeat' (with_reducible refine And.intro ?_ ?_))
        all_goals first | exact hi | omega | skip
        refine ⟨(true, srt (keyJ l) zs), ⟨.inr ⟨rfl, h20, rfl⟩, Nat.zero_lt_one⟩, ?_⟩
        (focus (refine ⟨_, _, Gh.refl, [0, 1], rfl, ?_⟩; (refine ⟨?_, ?_, ?_⟩ <;> simp only [go_sem, List.range, List.range.loop, List.nodup_cons, List.nodup_nil, List.mem_cons, List.not_mem_nil, or_false, or_self, decide_true, decide_false, Int.reduceToNat, Nat.min_eq_left, Nat.min_eq_right, Int.reducePow, Nat.reducePow, Int.reduceLE, Int.reduceLT, Int.reduceMul, Int.reduceAdd, Int.reduceSub, Int.reduceNeg, Bool.not_true, Bool.not_false, Bool.not_not, ↓reduceIte, Nat.reduceAdd, Nat.reduceSub, Nat.reduceMul, Nat.reduceEqDiff, reduceCtorEq, Nat.reduceLT, Nat.reduceLeDiff, Nat.reduceGT]); (try any_goals (refine ⟨?_, ?_⟩)); (try any_goals (with_reducible rfl))))
        all_goals first | exact rfl | exact e1.symm
      · have d1 : decide ((20 : Int) ≤ (zs.length : Int)) = false := decide_eq_false (by omega)
        have e1 : srtR (keyJ l) (Int.toNat 0) (Int.toNat (zs.length : Int)) zs = srt (keyJ l) zs := by rw [Int.toNat_natCast]; exact srtR_all
        (have zx1 := @d1; have zx2 := @e1; all_goals (try ((first | (with_reducible refine wp_id ?_) | (with_reducible refine does_id ?_) | (with_reducible refine ops_id ?_)); refine walk ?_; (repeat' (first | exact trivial | with_reducible refine And.intro ?_ ?_)); all_goals (repeat (first | (with_reducible refine ImpB.mk fun hb => ?_) | (with_reducible refine ImpK.mk fun hK => ?_) | (with_reducible refine ImpF.mk fun hF => ?_) | (with_reducible refine ImpQ.mk fun hp => ?_) | (with_reducible refine AllE.mk fun p => ?_) | (with_reducible refine AllR.mk fun rest => ?_) | (with_reducible refine AllK.mk fun K => ?_))))); repeat' (with_reducible refine And.intro ?_ ?_))
        all_goals first | exact hi | omega | skip
        any_goals ((try (refine w_seq fun K hK => ?_)); (try (refine w_block ?_)); refine w_loop (A := Nat) (fun _ => True) (fun _ => 0) (fun _ => [(6, .int .i64 20)]) (fun _ => [(0, .rows .int (srt (keyJ l) zs)), (1, bxJ l)]) (0) (ws := ?ws2) (tk := ?tk2) ?hw2 ?ht2 ?hi_1 ?h0_1 ?LH2; (case hw2 => simp only [go_sem, decide_true, decide_false, Int.reduceToNat, Nat.min_eq_left, Nat.min_eq_right, Int.reducePow, Nat.reducePow, Int.reduceLE, Int.reduceLT, Int.reduceMul, Int.reduceAdd, Int.reduceSub, Int.reduceNeg, Bool.not_true, Bool.not_false, Bool.not_not, ↓reduceIte, Nat.reduceAdd, Nat.reduceSub, Nat.reduceMul, Nat.reduceEqDiff, reduceCtorEq, Nat.reduceLT, Nat.reduceLeDiff, Nat.reduceGT]; exact rfl); (case ht2 => simp only [go_sem, decide_true, decide_false, Int.reduceToNat, Nat.min_eq_left, Nat.min_eq_right, Int.reducePow, Nat.reducePow, Int.reduceLE, Int.reduceLT, Int.reduceMul, Int.reduceAdd, Int.reduceSub, Int.reduceNeg, Bool.not_true, Bool.not_false, Bool.not_not, ↓reduceIte, Nat.reduceAdd, Nat.reduceSub, Nat.reduceMul, Nat.reduceEqDiff, reduceCtorEq, Nat.reduceLT, Nat.reduceLeDiff, Nat.reduceGT]; exact rfl); (case' LH2 => rintro k E t hx hE ht; simp only [go_sem] at ht; subst ht; simp only [go_sem]; try dsimp only at hx))
        case hi_1 => exact trivial
        case h0_1 => (focus (refine ⟨_, _, Gh.refl, [0, 1], rfl, ?_⟩; (refine ⟨?_, ?_, ?_⟩ <;> simp only [go_sem, List.range, List.range.loop, List.nodup_cons, List.nodup_nil, List.mem_cons, List.not_mem_nil, or_false, or_self, decide_true, decide_false, Int.reduceToNat, Nat.min_eq_left, Nat.min_eq_right, Int.reducePow, Nat.reducePow, Int.reduceLE, Int.reduceLT, Int.reduceMul, Int.reduceAdd, Int.reduceSub, Int.reduceNeg, Bool.not_true, Bool.not_false, Bool.not_not, ↓reduceIte, Nat.reduceAdd, Nat.reduceSub, Nat.reduceMul, Nat.reduceEqDiff, reduceCtorEq, Nat.reduceLT, Nat.reduceLeDiff, Nat.reduceGT]); (try any_goals (refine ⟨?_, ?_⟩)); (try any_goals (with_reducible rfl)))); (all_goals first | exact rfl | exact e1.symm)
        case LH2 =>
          have d5 : decide ((20 : Int) < (zs.length : Int)) = false := decide_eq_false (by omega)
          (have zx1 := @d5; all_goals (try ((first | (with_reducible refine wp_id ?_) | (with_reducible refine does_id ?_) | (with_reducible refine ops_id ?_)); refine walk ?_; (repeat' (first | exact trivial | with_reducible refine And.intro ?_ ?_)); all_goals (repeat (first | (with_reducible refine ImpB.mk fun hb => ?_) | (with_reducible refine ImpK.mk fun hK => ?_) | (with_reducible refine ImpF.mk fun hF => ?_) | (with_reducible refine ImpQ.mk fun hp => ?_) | (with_reducible refine AllE.mk fun p => ?_) | (with_reducible refine AllR.mk fun rest => ?_) | (with_reducible refine AllK.mk fun K => ?_))))); repeat' (with_reducible refine And.intro ?_ ?_))
          (focus (refine ⟨_, _, Gh.refl, [0, 1], rfl, ?_⟩; (refine ⟨?_, ?_, ?_⟩ <;> simp only [go_sem, List.range, List.range.loop, List.nodup_cons, List.nodup_nil, List.mem_cons, List.not_mem_nil, or_false, or_self, decide_true, decide_false, Int.reduceToNat, Nat.min_eq_left, Nat.min_eq_right, Int.reducePow, Nat.reducePow, Int.reduceLE, Int.reduceLT, Int.reduceMul, Int.reduceAdd, Int.reduceSub, Int.reduceNeg, Bool.not_true, Bool.not_false, Bool.not_not, ↓reduceIte, Nat.reduceAdd, Nat.reduceSub, Nat.reduceMul, Nat.reduceEqDiff, reduceCtorEq, Nat.reduceLT, Nat.reduceLeDiff, Nat.reduceGT]); (try any_goals (refine ⟨?_, ?_⟩)); (try any_goals (with_reducible rfl))))

    · obtain rfl : a = true := h1
      have hz : zs = srt (keyJ l) xs := h2
      subst hz
      have hi' := KE.all (srt_KE (f := keyJ l) (l := xs)).symm hi
      have hsl := srt_len (f := keyJ l) (l := xs)
      have d1 : decide ((40 : Int) ≤ (xs.length : Int)) = false := decide_eq_false (by omega)
      have e1 : srtR (keyJ l) (Int.toNat 20) (Int.toNat (xs.length : Int)) (srt (keyJ l) xs) = srt (keyJ l) xs := by rw [Int.toNat_natCast, h0]; exact srtR_none (by omega)
      (have zx1 := @d1; have zx2 := @e1; have zx3 := @hsl; all_goals (try ((first | (with_reducible refine wp_id ?_) | (with_reducible refine does_id ?_) | (with_reducible refine ops_id ?_)); refine walk ?_; (repeat' (first | exact trivial | with_reducible refine And.intro ?_ ?_)); all_goals (repeat (first | (with_reducible refine ImpB.mk fun hb => ?_) | (with_reducible refine ImpK.mk fun hK => ?_) | (with_reducible refine ImpF.mk fun hF => ?_) | (with_reducible refine ImpQ.mk fun hp => ?_) | (with_reducible refine AllE.mk fun p => ?_) | (with_reducible refine AllR.mk fun rest => ?_) | (with_reducible refine AllK.mk fun K => ?_))))); repeat' (with_reducible refine And.intro ?_ ?_))
      all_goals first | exact hi' | omega | skip
      any_goals ((try (refine w_seq fun K hK => ?_)); (try (refine w_block ?_)); refine w_loop (A := Nat) (fun _ => True) (fun _ => 0) (fun _ => [(6, .int .i64 20)]) (fun _ => [(0, .rows .int (srt (keyJ l) xs)), (1, bxJ l)]) (0) (ws := ?ws3) (tk := ?tk3) ?hw3 ?ht3 ?hi_2 ?h0_2 ?LH3; (case hw3 => simp only [go_sem, decide_true, decide_false, Int.reduceToNat, Nat.min_eq_left, Nat.min_eq_right, Int.reducePow, Nat.reducePow, Int.reduceLE, Int.reduceLT, Int.reduceMul, Int.reduceAdd, Int.reduceSub, Int.reduceNeg, Bool.not_true, Bool.not_false, Bool.not_not, ↓reduceIte, Nat.reduceAdd, Nat.reduceSub, Nat.reduceMul, Nat.reduceEqDiff, reduceCtorEq, Nat.reduceLT, Nat.reduceLeDiff, Nat.reduceGT]; exact rfl); (case ht3 => simp only [go_sem, decide_true, decide_false, Int.reduceToNat, Nat.min_eq_left, Nat.min_eq_right, Int.reducePow, Nat.reducePow, Int.reduceLE, Int.reduceLT, Int.reduceMul, Int.reduceAdd, Int.reduceSub, Int.reduceNeg, Bool.not_true, Bool.not_false, Bool.not_not, ↓reduceIte, Nat.reduceAdd, Nat.reduceSub, Nat.reduceMul, Nat.reduceEqDiff, reduceCtorEq, Nat.reduceLT, Nat.reduceLeDiff, Nat.reduceGT]; exact rfl); (case' LH3 => rintro k E t hx hE ht; simp only [go_sem] at ht; subst ht; simp only [go_sem]; try dsimp only at hx))
      case hi_2 => exact trivial
      case h0_2 => (focus (refine ⟨_, _, Gh.refl, [0, 1], rfl, ?_⟩; (refine ⟨?_, ?_, ?_⟩ <;> simp only [go_sem, List.range, List.range.loop, List.nodup_cons, List.nodup_nil, List.mem_cons, List.not_mem_nil, or_false, or_self, decide_true, decide_false, Int.reduceToNat, Nat.min_eq_left, Nat.min_eq_right, Int.reducePow, Nat.reducePow, Int.reduceLE, Int.reduceLT, Int.reduceMul, Int.reduceAdd, Int.reduceSub, Int.reduceNeg, Bool.not_true, Bool.not_false, Bool.not_not, ↓reduceIte, Nat.reduceAdd, Nat.reduceSub, Nat.reduceMul, Nat.reduceEqDiff, reduceCtorEq, Nat.reduceLT, Nat.reduceLeDiff, Nat.reduceGT]); (try any_goals (refine ⟨?_, ?_⟩)); (try any_goals (with_reducible rfl)))); (all_goals first | exact rfl | exact e1.symm)
      case LH3 =>
        have d5 : decide ((20 : Int) < (xs.length : Int)) = false := decide_eq_false (by omega)
        (have zx1 := @d5; all_goals (try ((first | (with_reducible refine wp_id ?_) | (with_reducible refine does_id ?_) | (with_reducible refine ops_id ?_)); refine walk ?_; (repeat' (first | exact trivial | with_reducible refine And.intro ?_ ?_)); all_goals (repeat (first | (with_reducible refine ImpB.mk fun hb => ?_) | (with_reducible refine ImpK.mk fun hK => ?_) | (with_reducible refine ImpF.mk fun hF => ?_) | (with_reducible refine ImpQ.mk fun hp => ?_) | (with_reducible refine AllE.mk fun p => ?_) | (with_reducible refine AllR.mk fun rest => ?_) | (with_reducible refine AllK.mk fun K => ?_))))); repeat' (with_reducible refine And.intro ?_ ?_))
        (focus (refine ⟨_, _, Gh.refl, [0, 1], rfl, ?_⟩; (refine ⟨?_, ?_, ?_⟩ <;> simp only [go_sem, List.range, List.range.loop, List.nodup_cons, List.nodup_nil, List.mem_cons, List.not_mem_nil, or_false, or_self, decide_true, decide_false, Int.reduceToNat, Nat.min_eq_left, Nat.min_eq_right, Int.reducePow, Nat.reducePow, Int.reduceLE, Int.reduceLT, Int.reduceMul, Int.reduceAdd, Int.reduceSub, Int.reduceNeg, Bool.not_true, Bool.not_false, Bool.not_not, ↓reduceIte, Nat.reduceAdd, Nat.reduceSub, Nat.reduceMul, Nat.reduceEqDiff, reduceCtorEq, Nat.reduceLT, Nat.reduceLeDiff, Nat.reduceGT]); (try any_goals (refine ⟨?_, ?_⟩)); (try any_goals (with_reducible rfl))))
theorem c_stab {h : List Ch} {K : KT} {l : List Job} {xs : List Int} {x : Int} {n t u : Nat} (H : K (.tup []) (h.set t (.rows .int (srt (keyJ l) xs)))) (o : hth h t = .rows .int xs) (o1 : hth h u = bxJ l) (s1 : ∀ x ∈ xs, inJ l x) (s2 : x = n) (s3 : n = xs.length) (s4 : xs.length ≤ 20) : Does Try.prog 38 [.sl t .int 0 n, .int .i64 x, .fn 19 [.ptr u 0]] h K := by
  have hne : t ≠ u := fun e => by rw [e, o1] at o; cases o
  have hb := b_stab l xs s1 s4
  rw [s2, s3]
  refine frame_two0 (ret' := .tup []) hb o o1 hne (by simp) (by simp) (fitC_rows _ _) (fun σ => ?_) (br_cons (br_own rfl) (br_cons br_int (br_cons (br_clo rfl) br_nil))) rfl (fun _ => rfl) (fun _ => rfl) rfl ?_
  · simp only [fitC, fitL, fitA, asE_self, and_self]
  · rw [set_hth (by rw [hth_set_ne hne]; exact o1) (by simp)]
    exact H
abbrev i_stab := Ctr.mk (i := 0) (g := 38) @c_stab
attribute [instance] i_stab
theorem b_sts (l : List Job) (xs : List Int) (hi : ∀ x ∈ xs, inJ l x) (hl : xs.length ≤ 20) : DoesK Try.prog 2 18 [.sl 0 .int 0 xs.length, .fn 19 [.ptr 1 0]] [.rows .int xs, bxJ l]
    (EndF 2 (.tup []) ([.rows .int (srt (keyJ l) xs), bxJ l] ++ [])) := by
  refine DoesK.close ?_
  refine w_body (rs := []) (tm := [.sl 0 .int 0 xs.length, .fn 19 [.ptr 1 0], .any, .any, .any, .any, .any, .any, .any]) fn_18 rfl rfl rfl rfl fun R hR => ?_
  (all_goals (try ((first | (with_reducible refine wp_id ?_) | (with_reducible refine does_id ?_) | (with_reducible refine ops_id ?_)); refine walk ?_; (repeat' (first | exact trivial | with_reducible refine And.intro ?_ ?_)); all_goals (repeat (first | (with_reducible refine ImpB.mk fun hb => ?_) | (with_reducible refine ImpK.mk fun hK => ?_) | (with_reducible refine ImpF.mk fun hF => ?_) | (with_reducible refine ImpQ.mk fun hp => ?_) | (with_reducible refine AllE.mk fun p => ?_) | (with_reducible refine AllR.mk fun rest => ?_) | (with_reducible refine AllK.mk fun K => ?_))))); repeat' (with_reducible refine And.intro ?_ ?_))
  all_goals first | exact hi | omega | skip
  (focus (refine ⟨_, _, Gh.refl, [0, 1], rfl, ?_⟩; (refine ⟨?_, ?_, ?_⟩ <;> simp only [go_sem, List.range, List.range.loop, List.nodup_cons, List.nodup_nil, List.mem_cons, List.not_mem_nil, or_false, or_self, decide_true, decide_false, Int.reduceToNat, Nat.min_eq_left, Nat.min_eq_right, Int.reducePow, Nat.reducePow, Int.reduceLE, Int.reduceLT, Int.reduceMul, Int.reduceAdd, Int.reduceSub, Int.reduceNeg, Bool.not_true, Bool.not_false, Bool.not_not, ↓reduceIte, Nat.reduceAdd, Nat.reduceSub, Nat.reduceMul, Nat.reduceEqDiff, reduceCtorEq, Nat.reduceLT, Nat.reduceLeDiff, Nat.reduceGT]); (try any_goals (refine ⟨?_, ?_⟩)); (try any_goals (with_reducible rfl))))
theorem c_sts {h : List Ch} {K : KT} {l : List Job} {xs : List Int} {n t u : Nat} (H : K (.tup []) (h.set t (.rows .int (srt (keyJ l) xs)))) (o : hth h t = .rows .int xs) (o1 : hth h u = bxJ l) (s1 : ∀ x ∈ xs, inJ l x) (s3 : n = xs.length) (s4 : xs.length ≤ 20) : Does Try.prog 18 [.sl t .int 0 n, .fn 19 [.ptr u 0]] h K := by
  have hne : t ≠ u := fun e => by rw [e, o1] at o; cases o
  have hb := b_sts l xs s1 s4
  rw [s3]
  refine frame_two0 (ret' := .tup []) hb o o1 hne (by simp) (by simp) (fitC_rows _ _) (fun σ => ?_) (br_cons (br_own rfl) (br_cons (br_clo rfl) br_nil)) rfl (fun _ => rfl) (fun _ => rfl) rfl ?_
  · simp only [fitC, fitL, fitA, asE_self, and_self]
  · rw [set_hth (by rw [hth_set_ne hne]; exact o1) (by simp)]
    exact H
abbrev i_sts := Ctr.mk (i := 0) (g := 18) @c_sts
attribute [instance] i_sts
end Go.V

set_option maxRecDepth 100000
set_option maxHeartbeats 8000000
namespace Go.V
open Go.Proofs
abbrev sAt (l : List Slo) (k : Nat) : Slo := l.getD k Slo.zero
theorem sAt_eq {l : List Slo} {k : Nat} (h : k < l.length) : sAt l k = l[k] := by rw [sAt, List.getD_eq_getElem?_getD, List.getElem?_eq_getElem h]; rfl
def srtS (l : List Slo) : Prop := l.Pairwise fun a b => a.st ≤ b.st
theorem b_cmpSt (x : Slo) (t : Int) : DoesK Try.prog 0 24 [.agg [.int .i64 x.job, .int .i64 x.win, .int .i64 x.st, .int .i64 x.en], .int .i64 t] [] (EndF 0 (.int .i64 (cmpI x.st t)) []) := by
  refine DoesK.close ?_
  refine w_body (rs := [.tmp 4]) (tm := [.agg [.int .i64 x.job, .int .i64 x.win, .int .i64 x.st, .int .i64 x.en], .int .i64 t, .any, .any, .any, .any, .any, .any, .any]) fn_24 rfl rfl rfl rfl fun R hR => ?_
  (all_goals (try ((first | (with_reducible refine wp_id ?_) | (with_reducible refine does_id ?_) | (with_reducible refine ops_id ?_)); refine walk ?_; (repeat' (first | exact trivial | with_reducible refine And.intro ?_ ?_)); all_goals (repeat (first | (with_reducible refine ImpB.mk fun hb => ?_) | (with_reducible refine ImpK.mk fun hK => ?_) | (with_reducible refine ImpF.mk fun hF => ?_) | (with_reducible refine ImpQ.mk fun hp => ?_) | (with_reducible refine AllE.mk fun p => ?_) | (with_reducible refine AllR.mk fun rest => ?_) | (with_reducible refine AllK.mk fun K => ?_))))); repeat' (with_reducible refine And.intro ?_ ?_))
  (focus (refine ⟨_, _, Gh.refl, [], rfl, ?_⟩; (refine ⟨?_, ?_, ?_⟩ <;> simp only [go_sem, List.range, List.range.loop, List.nodup_cons, List.nodup_nil, List.mem_cons, List.not_mem_nil, or_false, or_self, decide_true, decide_false, Int.reduceToNat, Nat.min_eq_left, Nat.min_eq_right, Int.reducePow, Nat.reducePow, Int.reduceLE, Int.reduceLT, Int.reduceMul, Int.reduceAdd, Int.reduceSub, Int.reduceNeg, Bool.not_true, Bool.not_false, Bool.not_not, ↓reduceIte, Nat.reduceAdd, Nat.reduceSub, Nat.reduceMul, Nat.reduceEqDiff, reduceCtorEq, Nat.reduceLT, Nat.reduceLeDiff, Nat.reduceGT]); (try any_goals (refine ⟨?_, ?_⟩)); (try any_goals (with_reducible rfl))))
theorem c_cmpSt {h : List Ch} {K : KT} {x : Slo} {t : Int} (H : K (.int .i64 (cmpI x.st t)) h) : Does Try.prog 24 [.agg [.int .i64 x.job, .int .i64 x.win, .int .i64 x.st, .int .i64 x.en], .int .i64 t] h K :=
  frame_pure (b_cmpSt x t) (br_cons (br_agg (br_cons br_int (br_cons br_int (br_cons br_int (br_cons br_int br_nil))))) (br_cons br_int br_nil)) (.inl rfl) (fun _ => rfl) H
abbrev i_cmpSt := Ctr.mk (i := 0) (g := 24) @c_cmpSt
attribute [instance] i_cmpSt
/-- how many end ahead of t -/
def bsS (xs : List Slo) (t : Int) : Nat := (xs.takeWhile fun x => decide (x.st < t)).length
def bsBS (xs : List Slo) (t : Int) : Bool := decide (bsS xs t < xs.length) && decide ((sAt xs (bsS xs t)).st = t)
theorem tw_at {p : Slo → Bool} : ∀ {l : List Slo} {i : Nat}, i ≤ l.length → (∀ k, k < i → p (sAt l k) = true) → (i < l.length → p (sAt l i) = false) → (l.takeWhile p).length = i
  | [], i, h, _, _ => by simp at h; subst h; rfl
  | x :: l, 0, _, _, h => by
    have : p x = false := h (by simp)
    rw [List.takeWhile_cons, this]; rfl
  | x :: l, i + 1, h, h1, h2 => by
    have : p x = true := h1 0 (by omega)
    rw [List.takeWhile_cons, this]
    show (_ :: _).length = _
    rw [List.length_cons, tw_at (i := i) (by simpa using h) (fun k hk => h1 (k + 1) (by omega)) (fun hi => h2 (by simpa using hi))]
theorem srtS_at {l : List Slo} (h : srtS l) {i j : Nat} (hij : i ≤ j) (hj : j < l.length) : (sAt l i).st ≤ (sAt l j).st := by
  rcases Nat.lt_or_eq_of_le hij with q | rfl
  · have := List.pairwise_iff_getElem.1 h i j (by omega) hj q
    rw [sAt_eq hj, sAt_eq (by omega)]
    exact this
  · exact Int.le_refl _
theorem bsS_at {xs : List Slo} {t : Int} {i : Nat} (hi : i ≤ xs.length) (h1 : ∀ k, k < i → (sAt xs k).st < t) (h2 : ∀ k, i ≤ k → k < xs.length → t ≤ (sAt xs k).st) : bsS xs t = i :=
  tw_at hi (fun k hk => decide_eq_true (h1 k hk)) (fun h => decide_eq_false (by have := h2 i (Nat.le_refl _) h; omega))
theorem bsS_le (xs : List Slo) (t : Int) : bsS xs t ≤ xs.length := (List.takeWhile_sublist _).length_le
theorem b_bsearch (xs : List Slo) (t : Int) (hl : xs.length ≤ 1099511627776) (hs : srtS xs) : DoesK Try.prog 0 23 [.ro .slo xs, .int .i64 t, .fn 24 []] [] (EndF 0 (.tup [.int .i64 (bsS xs t), .bool (bsBS xs t)]) []) := by
  refine DoesK.close ?_
  refine w_body (rs := [.tmp 6, .tmp 7]) (tm := [.ro .slo xs, .int .i64 t, .fn 24 [], .any, .any, .any, .any, .any, .any, .any, .any, .any, .any, .any, .any, .any, .any, .any, .any, .any, .any, .any, .any, .any, .any, .any, .any, .any, .any, .any, .any, .any, .any, .any, .any, .any, .any, .any, .any, .any, .any, .any, .any, .any, .any, .any, .any, .any, .any]) fn_23 rfl rfl rfl rfl fun R hR => ?_
  (all_goals (try ((first | (with_reducible refine wp_id ?_) | (with_reducible refine does_id ?_) | (with_reducible refine ops_id ?_)); refine walk ?_; (repeat' (first | exact trivial | with_reducible refine And.intro ?_ ?_)); all_goals (repeat (first | (with_reducible refine ImpB.mk fun hb => ?_) | (with_reducible refine ImpK.mk fun hK => ?_) | (with_reducible refine ImpF.mk fun hF => ?_) | (with_reducible refine ImpQ.mk fun hp => ?_) | (with_reducible refine AllE.mk fun p => ?_) | (with_reducible refine AllR.mk fun rest => ?_) | (with_reducible refine AllK.mk fun K => ?_))))); repeat' (with_reducible refine And.intro ?_ ?_))
  any_goals ((try (refine w_seq fun K hK => ?_)); (try (refine w_block ?_)); refine w_loop (A := Nat × Nat) (fun p => p.1 ≤ p.2 ∧ p.2 ≤ xs.length ∧ (∀ k, k < p.1 → (sAt xs k).st < t) ∧ ∀ k, p.2 ≤ k → k < xs.length → t ≤ (sAt xs k).st) (fun p => p.2 - p.1) (fun p => [(9, .int .i64 p.1), (10, .int .i64 p.2)]) (fun p => []) ((0, xs.length)) (ws := ?ws1) (tk := ?tk1) ?hw1 ?ht1 ?hi ?h0 ?LH1; (case hw1 => simp only [go_sem, decide_true, decide_false, Int.reduceToNat, Nat.min_eq_left, Nat.min_eq_right, Int.reducePow, Nat.reducePow, Int.reduceLE, Int.reduceLT, Int.reduceMul, Int.reduceAdd, Int.reduceSub, Int.reduceNeg, Bool.not_true, Bool.not_false, Bool.not_not, ↓reduceIte, Nat.reduceAdd, Nat.reduceSub, Nat.reduceMul, Nat.reduceEqDiff, reduceCtorEq, Nat.reduceLT, Nat.reduceLeDiff, Nat.reduceGT]; exact rfl); (case ht1 => simp only [go_sem, decide_true, decide_false, Int.reduceToNat, Nat.min_eq_left, Nat.min_eq_right, Int.reducePow, Nat.reducePow, Int.reduceLE, Int.reduceLT, Int.reduceMul, Int.reduceAdd, Int.reduceSub, Int.reduceNeg, Bool.not_true, Bool.not_false, Bool.not_not, ↓reduceIte, Nat.reduceAdd, Nat.reduceSub, Nat.reduceMul, Nat.reduceEqDiff, reduceCtorEq, Nat.reduceLT, Nat.reduceLeDiff, Nat.reduceGT]; exact rfl); (case' LH1 => rintro ⟨i, j⟩ E t hx hE ht; simp only [go_sem] at ht; subst ht; simp only [go_sem]; try dsimp only at hx))
  case hi => exact ⟨Nat.zero_le _, Nat.le_refl _, fun k hk => absurd hk (Nat.not_lt_zero k), fun k h1 h2 => by dsimp only at h1; omega⟩
  case h0 =>
    (focus (refine ⟨_, _, Gh.refl, [], rfl, ?_⟩; (refine ⟨?_, ?_, ?_⟩ <;> simp only [go_sem, List.range, List.range.loop, List.nodup_cons, List.nodup_nil, List.mem_cons, List.not_mem_nil, or_false, or_self, decide_true, decide_false, Int.reduceToNat, Nat.min_eq_left, Nat.min_eq_right, Int.reducePow, Nat.reducePow, Int.reduceLE, Int.reduceLT, Int.reduceMul, Int.reduceAdd, Int.reduceSub, Int.reduceNeg, Bool.not_true, Bool.not_false, Bool.not_not, ↓reduceIte, Nat.reduceAdd, Nat.reduceSub, Nat.reduceMul, Nat.reduceEqDiff, reduceCtorEq, Nat.reduceLT, Nat.reduceLeDiff, Nat.reduceGT]); (try any_goals (refine ⟨?_, ?_⟩)); (try any_goals (with_reducible rfl))))
    all_goals rfl
  case LH1 =>
    obtain ⟨h1, h2, h3, h4⟩ := hx
    have h1' : i ≤ j := h1
    have h2' : j ≤ xs.length := h2
    by_cases hij : i < j
    · have d1 : decide ((i : Int) < (j : Int)) = true := decide_eq_true (by omega)
      obtain ⟨m, hm⟩ : ∃ m : Nat, (i + j) / 2 = m := ⟨_, rfl⟩
      have w1 : IntKind.i64.wrap ((i : Int) + (j : Int)) = ((i + j : Nat) : Int) := by rw [wrap_i64 _ (by omega) (by omega)]; omega
      have w2 : IntKind.u64.wrap ((i + j : Nat) : Int) = ((i + j : Nat) : Int) := by rw [wrap_u64]; omega
      have w3 : Int.fdiv ((i + j : Nat) : Int) 2 = (m : Int) := by rw [Int.fdiv_eq_ediv_of_nonneg _ (by omega)]; omega
      have w4 : IntKind.i64.wrap (m : Int) = (m : Int) := wrap_i64 _ (by omega) (by omega)
      have w5 : IntKind.i64.wrap ((m : Int) + 1) = ((m + 1 : Nat) : Int) := by rw [wrap_i64 _ (by omega) (by omega)]; omega
      by_cases c2 : (sAt xs m).st < t
      · have d2 : decide (cmpI (sAt xs m).st t < 0) = true := by rw [cmpI_lt]; exact decide_eq_true c2
        (have zx1 := @d1; have zx2 := @w1; have zx3 := @w2; have zx4 := @w3; have zx5 := @w4; have zx6 := @w5; have zx7 := @d2; all_goals (try ((first | (with_reducible refine wp_id ?_) | (with_reducible refine does_id ?_) | (with_reducible refine ops_id ?_)); refine walk ?_; (repeat' (first | exact trivial | with_reducible refine And.intro ?_ ?_)); all_goals (repeat (first | (with_reducible refine ImpB.mk fun hb => ?_) | (with_reducible refine ImpK.mk fun hK => ?_) | (with_reducible refine ImpF.mk fun hF => ?_) | (with_reducible refine ImpQ.mk fun hp => ?_) | (with_reducible refine AllE.mk fun p => ?_) | (with_reducible refine AllR.mk fun rest => ?_) | (with_reducible refine AllK.mk fun K => ?_))))); repeat' (with_reducible refine And.intro ?_ ?_))
        (all_goals first | exact Int.natCast_nonneg _ | exact Int.ofNat_lt.2 (by assumption) | assumption | omega | exact Nat.le_refl _ | (exfalso; simp at hb; done) | (simp only [go_sem, decide_true, decide_false, Int.reduceToNat, Nat.min_eq_left, Nat.min_eq_right, Int.reducePow, Nat.reducePow, Int.reduceLE, Int.reduceLT, Int.reduceMul, Int.reduceAdd, Int.reduceSub, Int.reduceNeg, Bool.not_true, Bool.not_false, Bool.not_not, ↓reduceIte, Nat.reduceAdd, Nat.reduceSub, Nat.reduceMul, Nat.reduceEqDiff, reduceCtorEq, Nat.reduceLT, Nat.reduceLeDiff, Nat.reduceGT]; done) | (unfold capM; omega) | (simp only [List.length_drop, List.length_take, List.length_append, List.length_cons, List.length_nil]; omega) | skip)
        refine ⟨(m + 1, j), ⟨⟨by dsimp only; omega, h2', fun k hk => ?_, h4⟩, by dsimp only; omega⟩, ?_⟩
        · have hk' : k < m + 1 := hk
          have := srtS_at hs (i := k) (j := m) (by omega) (by omega)
          omega
        · (focus (refine ⟨_, _, Gh.refl, [], rfl, ?_⟩; (refine ⟨?_, ?_, ?_⟩ <;> simp only [go_sem, List.range, List.range.loop, List.nodup_cons, List.nodup_nil, List.mem_cons, List.not_mem_nil, or_false, or_self, decide_true, decide_false, Int.reduceToNat, Nat.min_eq_left, Nat.min_eq_right, Int.reducePow, Nat.reducePow, Int.reduceLE, Int.reduceLT, Int.reduceMul, Int.reduceAdd, Int.reduceSub, Int.reduceNeg, Bool.not_true, Bool.not_false, Bool.not_not, ↓reduceIte, Nat.reduceAdd, Nat.reduceSub, Nat.reduceMul, Nat.reduceEqDiff, reduceCtorEq, Nat.reduceLT, Nat.reduceLeDiff, Nat.reduceGT]); (try any_goals (refine ⟨?_, ?_⟩)); (try any_goals (with_reducible rfl))))
      · have d2 : decide (cmpI (sAt xs m).st t < 0) = false := by rw [cmpI_lt]; exact decide_eq_false c2
        (have zx1 := @d1; have zx2 := @w1; have zx3 := @w2; have zx4 := @w3; have zx5 := @w4; have zx6 := @w5; have zx7 := @d2; all_goals (try ((first | (with_reducible refine wp_id ?_) | (with_reducible refine does_id ?_) | (with_reducible refine ops_id ?_)); refine walk ?_; (repeat' (first | exact trivial | with_reducible refine And.intro ?_ ?_)); all_goals (repeat (first | (with_reducible refine ImpB.mk fun hb => ?_) | (with_reducible refine ImpK.mk fun hK => ?_) | (with_reducible refine ImpF.mk fun hF => ?_) | (with_reducible refine ImpQ.mk fun hp => ?_) | (with_reducible refine AllE.mk fun p => ?_) | (with_reducible refine AllR.mk fun rest => ?_) | (with_reducible refine AllK.mk fun K => ?_))))); repeat' (with_reducible refine And.intro ?_ ?_))
        (all_goals first | exact Int.natCast_nonneg _ | exact Int.ofNat_lt.2 (by assumption) | assumption | omega | exact Nat.le_refl _ | (exfalso; simp at hb; done) | (simp only [go_sem, decide_true, decide_false, Int.reduceToNat, Nat.min_eq_left, Nat.min_eq_right, Int.reducePow, Nat.reducePow, Int.reduceLE, Int.reduceLT, Int.reduceMul, Int.reduceAdd, Int.reduceSub, Int.reduceNeg, Bool.not_true, Bool.not_false, Bool.not_not, ↓reduceIte, Nat.reduceAdd, Nat.reduceSub, Nat.reduceMul, Nat.reduceEqDiff, reduceCtorEq, Nat.reduceLT, Nat.reduceLeDiff, Nat.reduceGT]; done) | (unfold capM; omega) | (simp only [List.length_drop, List.length_take, List.length_append, List.length_cons, List.length_nil]; omega) | skip)
        refine ⟨(i, m), ⟨⟨by dsimp only; omega, by dsimp only; omega, h3, fun k hk1 hk2 => ?_⟩, by dsimp only; omega⟩, ?_⟩
        · have hk' : m ≤ k := hk1
          have := srtS_at hs (i := m) (j := k) hk' hk2
          omega
        · (focus (refine ⟨_, _, Gh.refl, [], rfl, ?_⟩; (refine ⟨?_, ?_, ?_⟩ <;> simp only [go_sem, List.range, List.range.loop, List.nodup_cons, List.nodup_nil, List.mem_cons, List.not_mem_nil, or_false, or_self, decide_true, decide_false, Int.reduceToNat, Nat.min_eq_left, Nat.min_eq_right, Int.reducePow, Nat.reducePow, Int.reduceLE, Int.reduceLT, Int.reduceMul, Int.reduceAdd, Int.reduceSub, Int.reduceNeg, Bool.not_true, Bool.not_false, Bool.not_not, ↓reduceIte, Nat.reduceAdd, Nat.reduceSub, Nat.reduceMul, Nat.reduceEqDiff, reduceCtorEq, Nat.reduceLT, Nat.reduceLeDiff, Nat.reduceGT]); (try any_goals (refine ⟨?_, ?_⟩)); (try any_goals (with_reducible rfl))))
    · have d1 : decide ((i : Int) < (j : Int)) = false := decide_eq_false (by omega)
      obtain rfl : i = j := by omega
      have hb1 := bsS_at h2' h3 h4
      by_cases c3 : i < xs.length
      · have d3 : decide ((i : Int) < (xs.length : Int)) = true := decide_eq_true (by omega)
        have hb2 : bsBS xs t = decide (cmpI (sAt xs i).st t = 0) := by unfold bsBS; rw [hb1, decide_eq_true c3, cmpI_eq]; rfl
        (have zx1 := @d1; have zx2 := @d3; all_goals (try ((first | (with_reducible refine wp_id ?_) | (with_reducible refine does_id ?_) | (with_reducible refine ops_id ?_)); refine walk ?_; (repeat' (first | exact trivial | with_reducible refine And.intro ?_ ?_)); all_goals (repeat (first | (with_reducible refine ImpB.mk fun hb => ?_) | (with_reducible refine ImpK.mk fun hK => ?_) | (with_reducible refine ImpF.mk fun hF => ?_) | (with_reducible refine ImpQ.mk fun hp => ?_) | (with_reducible refine AllE.mk fun p => ?_) | (with_reducible refine AllR.mk fun rest => ?_) | (with_reducible refine AllK.mk fun K => ?_))))); repeat' (with_reducible refine And.intro ?_ ?_))
        (all_goals first | exact Int.natCast_nonneg _ | exact Int.ofNat_lt.2 (by assumption) | assumption | omega | exact Nat.le_refl _ | (exfalso; simp at hb; done) | (simp only [go_sem, decide_true, decide_false, Int.reduceToNat, Nat.min_eq_left, Nat.min_eq_right, Int.reducePow, Nat.reducePow, Int.reduceLE, Int.reduceLT, Int.reduceMul, Int.reduceAdd, Int.reduceSub, Int.reduceNeg, Bool.not_true, Bool.not_false, Bool.not_not, ↓reduceIte, Nat.reduceAdd, Nat.reduceSub, Nat.reduceMul, Nat.reduceEqDiff, reduceCtorEq, Nat.reduceLT, Nat.reduceLeDiff, Nat.reduceGT]; done) | (unfold capM; omega) | (simp only [List.length_drop, List.length_take, List.length_append, List.length_cons, List.length_nil]; omega) | skip)
        (focus (refine ⟨_, _, Gh.refl, [], rfl, ?_⟩; (refine ⟨?_, ?_, ?_⟩ <;> simp only [go_sem, List.range, List.range.loop, List.nodup_cons, List.nodup_nil, List.mem_cons, List.not_mem_nil, or_false, or_self, decide_true, decide_false, Int.reduceToNat, Nat.min_eq_left, Nat.min_eq_right, Int.reducePow, Nat.reducePow, Int.reduceLE, Int.reduceLT, Int.reduceMul, Int.reduceAdd, Int.reduceSub, Int.reduceNeg, Bool.not_true, Bool.not_false, Bool.not_not, ↓reduceIte, Nat.reduceAdd, Nat.reduceSub, Nat.reduceMul, Nat.reduceEqDiff, reduceCtorEq, Nat.reduceLT, Nat.reduceLeDiff, Nat.reduceGT]); (try any_goals (refine ⟨?_, ?_⟩)); (try any_goals (with_reducible rfl))))
        all_goals first | exact hb2 | (rw [hb1]; done) | (rw [hb1]; rfl) | trace_state
      · have d3 : decide ((i : Int) < (xs.length : Int)) = false := decide_eq_false (by omega)
        have hb2 : bsBS xs t = false := by unfold bsBS; rw [hb1, decide_eq_false c3]; rfl
        (have zx1 := @d1; have zx2 := @d3; all_goals (try ((first | (with_reducible refine wp_id ?_) | (with_reducible refine does_id ?_) | (with_reducible refine ops_id ?_)); refine walk ?_; (repeat' (first | exact trivial | with_reducible refine And.intro ?_ ?_)); all_goals (repeat (first | (with_reducible refine ImpB.mk fun hb => ?_) | (with_reducible refine ImpK.mk fun hK => ?_) | (with_reducible refine ImpF.mk fun hF => ?_) | (with_reducible refine ImpQ.mk fun hp => ?_) | (with_reducible refine AllE.mk fun p => ?_) | (with_reducible refine AllR.mk fun rest => ?_) | (with_reducible refine AllK.mk fun K => ?_))))); repeat' (with_reducible refine And.intro ?_ ?_))
        (all_goals first | exact Int.natCast_nonneg _ | exact Int.ofNat_lt.2 (by assumption) | assumption | omega | exact Nat.le_refl _ | (exfalso; simp at hb; done) | (simp only [go_sem, decide_true, decide_false, Int.reduceToNat, Nat.min_eq_left, Nat.min_eq_right, Int.reducePow, Nat.reducePow, Int.reduceLE, Int.reduceLT, Int.reduceMul, Int.reduceAdd, Int.reduceSub, Int.reduceNeg, Bool.not_true, Bool.not_false, Bool.not_not, ↓reduceIte, Nat.reduceAdd, Nat.reduceSub, Nat.reduceMul, Nat.reduceEqDiff, reduceCtorEq, Nat.reduceLT, Nat.reduceLeDiff, Nat.reduceGT]; done) | (unfold capM; omega) | (simp only [List.length_drop, List.length_take, List.length_append, List.length_cons, List.length_nil]; omega) | skip)
        (focus (refine ⟨_, _, Gh.refl, [], rfl, ?_⟩; (refine ⟨?_, ?_, ?_⟩ <;> simp only [go_sem, List.range, List.range.loop, List.nodup_cons, List.nodup_nil, List.mem_cons, List.not_mem_nil, or_false, or_self, decide_true, decide_false, Int.reduceToNat, Nat.min_eq_left, Nat.min_eq_right, Int.reducePow, Nat.reducePow, Int.reduceLE, Int.reduceLT, Int.reduceMul, Int.reduceAdd, Int.reduceSub, Int.reduceNeg, Bool.not_true, Bool.not_false, Bool.not_not, ↓reduceIte, Nat.reduceAdd, Nat.reduceSub, Nat.reduceMul, Nat.reduceEqDiff, reduceCtorEq, Nat.reduceLT, Nat.reduceLeDiff, Nat.reduceGT]); (try any_goals (refine ⟨?_, ?_⟩)); (try any_goals (with_reducible rfl))))
        all_goals first | exact hb2 | (rw [hb1]; done) | (rw [hb1]; rfl) | trace_state
theorem c_bsearch {h : List Ch} {K : KT} {xs : List Slo} {t : Int} {a : AV} (H : K (.tup [.int .i64 (bsS xs t), .bool (bsBS xs t)]) h) (b1 : brA [] h (.ro .slo xs) a) (s1 : xs.length ≤ 1099511627776) (s2 : srtS xs) : Does Try.prog 23 [a, .int .i64 t, .fn 24 []] h K := -- nocall
  frame_pure (b_bsearch xs t s1 s2) (br_cons b1 (br_cons br_int (br_cons br_fn br_nil))) (.inr rfl) (fun _ => rfl) H
theorem c_bsearch_s {h : List Ch} {K : KT} {d : List Slo} {t : Int} {u n : Nat} (H : K (.tup [.int .i64 (bsS (d.take n) t), .bool (bsBS (d.take n) t)]) h) (o : hth h u = .rows .slo d) (s1 : n ≤ d.length) (s2 : d.length ≤ 1099511627776) (s3 : srtS d) : Does Try.prog 23 [.sl u .slo 0 n, .int .i64 t, .fn 24 []] h K := by
  have hb := br_sl (σ := []) (h := h) (e := .slo) (ys := d) (t := u) (s := 0) (n := n) o (by omega) (by simp)
  rw [List.drop_zero] at hb
  exact c_bsearch H hb (by rw [List.length_take]; omega) (s3.sublist (List.take_sublist _ _))
abbrev i_bsearch_s := Ctr.mk (i := 0) (g := 23) @c_bsearch_s
attribute [instance] i_bsearch_s
end Go.V

set_option maxRecDepth 100000
set_option maxHeartbeats 8000000
namespace Go.V
open Go.Proofs
/-- the first contact with a place -/
def fsI (w : List Win) (j : Job) (d : Int) (m : List Slo) : Nat := w.findIdx fun c => plB c j d m
def asB (w : List Win) (j : Job) (d : Int) (m : List Slo) : Bool := decide (fsI w j d m < w.length)
def asS (w : List Win) (j : Job) (d : Int) (m : List Slo) : Slo := if asB w j d m then ⟨0, fsI w j d m, plI (w.getD (fsI w j d m) Win.zero) j d m, plI (w.getD (fsI w j d m) Win.zero) j d m + d⟩ else Slo.zero
theorem getEq {α : Type} {l : List α} {k : Nat} {z : α} (h : k < l.length) : l.getD k z = l[k] := by rw [List.getD_eq_getElem?_getD, List.getElem?_eq_getElem h]; rfl
theorem fs_at {w : List Win} {j : Job} {d : Int} {m : List Slo} {k : Nat} (hk : k < w.length) (h : ∀ i, i < k → plB (w.getD i Win.zero) j d m = false) (h1 : plB (w.getD k Win.zero) j d m = true) : fsI w j d m = k := by
  unfold fsI
  rw [List.findIdx_eq hk]
  refine ⟨by rw [← getEq hk]; exact h1, fun i hi => ?_⟩
  rw [← getEq (z := Win.zero)]; exact h i hi
theorem fs_no {w : List Win} {j : Job} {d : Int} {m : List Slo} (h : ∀ i, i < w.length → plB (w.getD i Win.zero) j d m = false) : asB w j d m = false := by
  refine decide_eq_false fun q => ?_
  have t : plB w[fsI w j d m] j d m = true := List.findIdx_getElem (w := q)
  rw [← getEq (z := Win.zero) q, h _ q] at t
  cases t
def goodW (w : List Win) : Prop := ∀ c ∈ w, vldW c = true
theorem b_assign1 (w : List Win) (j : Job) (d : Int) (m : List Slo) (hw : goodW w) (hj : vldJ j = true) (hm : bdS m) (hd : 1 ≤ d ∧ d ≤ 2147483648) (hl : m.length ≤ 1099511627776) (hwl : w.length ≤ 1099511627776) : DoesK Try.prog 0 21 [.ro .win w, .agg (JobL j), .int .i64 d, .ro .slo m] [] (EndF 0 (.tup [.agg (SloL (asS w j d m)), .bool (asB w j d m)]) []) := by
  refine DoesK.close ?_
  refine w_body (rs := [.cell 8 37, .tmp 9]) (tm := [.ro .win w, .agg (JobL j), .int .i64 d, .ro .slo m, .any, .any, .any, .any, .any, .any, .any, .any, .any, .any, .any, .any, .any, .any, .any, .any, .any, .any, .any, .any, .any, .any, .any, .any, .any, .any, .any, .any, .any, .any, .any, .any, .any, .any]) fn_21 rfl rfl rfl rfl fun R hR => ?_
  (all_goals (try ((first | (with_reducible refine wp_id ?_) | (with_reducible refine does_id ?_) | (with_reducible refine ops_id ?_)); refine walk ?_; (repeat' (first | exact trivial | with_reducible refine And.intro ?_ ?_)); all_goals (repeat (first | (with_reducible refine ImpB.mk fun hb => ?_) | (with_reducible refine ImpK.mk fun hK => ?_) | (with_reducible refine ImpF.mk fun hF => ?_) | (with_reducible refine ImpQ.mk fun hp => ?_) | (with_reducible refine AllE.mk fun p => ?_) | (with_reducible refine AllR.mk fun rest => ?_) | (with_reducible refine AllK.mk fun K => ?_))))); repeat' (with_reducible refine And.intro ?_ ?_))
  any_goals ((try (refine w_seq fun K hK => ?_)); (try (refine w_block ?_)); refine w_loop (A := Nat) (fun k => k ≤ w.length ∧ ∀ i, i < k → plB (w.getD i Win.zero) j d m = false) (fun k => w.length - k) (fun k => [(16, .int .i64 k)]) (fun _ => []) (0) (ws := ?ws1) (tk := ?tk1) ?hw1 ?ht1 ?hi ?h0 ?LH1; (case hw1 => simp only [go_sem, decide_true, decide_false, Int.reduceToNat, Nat.min_eq_left, Nat.min_eq_right, Int.reducePow, Nat.reducePow, Int.reduceLE, Int.reduceLT, Int.reduceMul, Int.reduceAdd, Int.reduceSub, Int.reduceNeg, Bool.not_true, Bool.not_false, Bool.not_not, ↓reduceIte, Nat.reduceAdd, Nat.reduceSub, Nat.reduceMul, Nat.reduceEqDiff, reduceCtorEq, Nat.reduceLT, Nat.reduceLeDiff, Nat.reduceGT]; exact rfl); (case ht1 => simp only [go_sem, decide_true, decide_false, Int.reduceToNat, Nat.min_eq_left, Nat.min_eq_right, Int.reducePow, Nat.reducePow, Int.reduceLE, Int.reduceLT, Int.reduceMul, Int.reduceAdd, Int.reduceSub, Int.reduceNeg, Bool.not_true, Bool.not_false, Bool.not_not, ↓reduceIte, Nat.reduceAdd, Nat.reduceSub, Nat.reduceMul, Nat.reduceEqDiff, reduceCtorEq, Nat.reduceLT, Nat.reduceLeDiff, Nat.reduceGT]; exact rfl); (case' LH1 => rintro k E t hx hE ht; simp only [go_sem] at ht; subst ht; simp only [go_sem]; try dsimp only at hx))
  case hi => exact ⟨Nat.zero_le _, fun i hi => absurd hi (by omega)⟩
  case h0 => (focus (refine ⟨_, _, Gh.refl, [0, 1], rfl, ?_⟩; (refine ⟨?_, ?_, ?_⟩ <;> simp only [go_sem, List.range, List.range.loop, List.nodup_cons, List.nodup_nil, List.mem_cons, List.not_mem_nil, or_false, or_self, decide_true, decide_false, Int.reduceToNat, Nat.min_eq_left, Nat.min_eq_right, Int.reducePow, Nat.reducePow, Int.reduceLE, Int.reduceLT, Int.reduceMul, Int.reduceAdd, Int.reduceSub, Int.reduceNeg, Bool.not_true, Bool.not_false, Bool.not_not, ↓reduceIte, Nat.reduceAdd, Nat.reduceSub, Nat.reduceMul, Nat.reduceEqDiff, reduceCtorEq, Nat.reduceLT, Nat.reduceLeDiff, Nat.reduceGT]); (try any_goals (refine ⟨?_, ?_⟩)); (try any_goals (with_reducible rfl))))
  case LH1 =>
    obtain ⟨hk0, hc⟩ := hx
    have hw1 : IntKind.i64.wrap ((k : Int) + 1) = ((k + 1 : Nat) : Int) := by rw [wrap_i64 _ (by omega) (by omega)]; omega
    by_cases hk : k < w.length
    · have hkd : decide ((k : Int) < (w.length : Int)) = true := decide_eq_true (by omega)
      obtain ⟨c, hce⟩ : ∃ c, w.getD k Win.zero = c := ⟨_, rfl⟩
      have hcv : vldW c = true := by rw [← hce]; exact hw _ (getM hk)
      have hp := pl_bd (d := d) hcv hj hm
      have hw2 : IntKind.i64.wrap (plI c j d m + d) = plI c j d m + d := wrap_i64 _ (by omega) (by omega)
      cases hb1 : plB c j d m
      · (have zx1 := @hkd; have zx2 := @hw1; have zx3 := @hce; have zx4 := @hb1; all_goals (try ((first | (with_reducible refine wp_id ?_) | (with_reducible refine does_id ?_) | (with_reducible refine ops_id ?_)); refine walk ?_; (repeat' (first | exact trivial | with_reducible refine And.intro ?_ ?_)); all_goals (repeat (first | (with_reducible refine ImpB.mk fun hb => ?_) | (with_reducible refine ImpK.mk fun hK => ?_) | (with_reducible refine ImpF.mk fun hF => ?_) | (with_reducible refine ImpQ.mk fun hp => ?_) | (with_reducible refine AllE.mk fun p => ?_) | (with_reducible refine AllR.mk fun rest => ?_) | (with_reducible refine AllK.mk fun K => ?_))))); repeat' (with_reducible refine And.intro ?_ ?_))
        all_goals first | assumption | omega | skip
        refine ⟨k + 1, ⟨⟨by first | omega | (dsimp only; omega), fun i hi => ?_⟩, by first | omega | (dsimp only; omega)⟩, ?_⟩
        · by_cases e : i = k
          · rw [e, hce]; exact hb1
          · exact hc i (by omega)
        (focus (refine ⟨_, _, Gh.refl, [0, 1], rfl, ?_⟩; (refine ⟨?_, ?_, ?_⟩ <;> simp only [go_sem, List.range, List.range.loop, List.nodup_cons, List.nodup_nil, List.mem_cons, List.not_mem_nil, or_false, or_self, decide_true, decide_false, Int.reduceToNat, Nat.min_eq_left, Nat.min_eq_right, Int.reducePow, Nat.reducePow, Int.reduceLE, Int.reduceLT, Int.reduceMul, Int.reduceAdd, Int.reduceSub, Int.reduceNeg, Bool.not_true, Bool.not_false, Bool.not_not, ↓reduceIte, Nat.reduceAdd, Nat.reduceSub, Nat.reduceMul, Nat.reduceEqDiff, reduceCtorEq, Nat.reduceLT, Nat.reduceLeDiff, Nat.reduceGT]); (try any_goals (refine ⟨?_, ?_⟩)); (try any_goals (with_reducible rfl))))
      · (have zx1 := @hkd; have zx2 := @hw1; have zx3 := @hce; have zx4 := @hb1; have zx5 := @hw2; all_goals (try ((first | (with_reducible refine wp_id ?_) | (with_reducible refine does_id ?_) | (with_reducible refine ops_id ?_)); refine walk ?_; (repeat' (first | exact trivial | with_reducible refine And.intro ?_ ?_)); all_goals (repeat (first | (with_reducible refine ImpB.mk fun hb => ?_) | (with_reducible refine ImpK.mk fun hK => ?_) | (with_reducible refine ImpF.mk fun hF => ?_) | (with_reducible refine ImpQ.mk fun hp => ?_) | (with_reducible refine AllE.mk fun p => ?_) | (with_reducible refine AllR.mk fun rest => ?_) | (with_reducible refine AllK.mk fun K => ?_))))); repeat' (with_reducible refine And.intro ?_ ?_))
        all_goals first | assumption | omega | skip
        have hf := fs_at hk hc (by rw [hce]; exact hb1)
        have hB : asB w j d m = true := decide_eq_true (by rw [hf]; exact hk)
        have hS : asS w j d m = ⟨0, k, plI c j d m, plI c j d m + d⟩ := by unfold asS; rw [if_pos hB, hf, hce]
        rw [hB, hS]
        (focus (refine ⟨_, _, Gh.refl, [], rfl, ?_⟩; (refine ⟨?_, ?_, ?_⟩ <;> simp only [go_sem, List.range, List.range.loop, List.nodup_cons, List.nodup_nil, List.mem_cons, List.not_mem_nil, or_false, or_self, decide_true, decide_false, Int.reduceToNat, Nat.min_eq_left, Nat.min_eq_right, Int.reducePow, Nat.reducePow, Int.reduceLE, Int.reduceLT, Int.reduceMul, Int.reduceAdd, Int.reduceSub, Int.reduceNeg, Bool.not_true, Bool.not_false, Bool.not_not, ↓reduceIte, Nat.reduceAdd, Nat.reduceSub, Nat.reduceMul, Nat.reduceEqDiff, reduceCtorEq, Nat.reduceLT, Nat.reduceLeDiff, Nat.reduceGT]); (try any_goals (refine ⟨?_, ?_⟩)); (try any_goals (with_reducible rfl))))
    · have hkd : decide ((k : Int) < (w.length : Int)) = false := decide_eq_false (by omega)
      have hn := fs_no fun i hi => hc i (by omega)
      (have zx1 := @hkd; all_goals (try ((first | (with_reducible refine wp_id ?_) | (with_reducible refine does_id ?_) | (with_reducible refine ops_id ?_)); refine walk ?_; (repeat' (first | exact trivial | with_reducible refine And.intro ?_ ?_)); all_goals (repeat (first | (with_reducible refine ImpB.mk fun hb => ?_) | (with_reducible refine ImpK.mk fun hK => ?_) | (with_reducible refine ImpF.mk fun hF => ?_) | (with_reducible refine ImpQ.mk fun hp => ?_) | (with_reducible refine AllE.mk fun p => ?_) | (with_reducible refine AllR.mk fun rest => ?_) | (with_reducible refine AllK.mk fun K => ?_))))); repeat' (with_reducible refine And.intro ?_ ?_))
      have ha : asS w j d m = Slo.zero := by unfold asS; rw [hn]; rfl
      rw [ha, hn]
      (focus (refine ⟨_, _, Gh.refl, [], rfl, ?_⟩; (refine ⟨?_, ?_, ?_⟩ <;> simp only [go_sem, List.range, List.range.loop, List.nodup_cons, List.nodup_nil, List.mem_cons, List.not_mem_nil, or_false, or_self, decide_true, decide_false, Int.reduceToNat, Nat.min_eq_left, Nat.min_eq_right, Int.reducePow, Nat.reducePow, Int.reduceLE, Int.reduceLT, Int.reduceMul, Int.reduceAdd, Int.reduceSub, Int.reduceNeg, Bool.not_true, Bool.not_false, Bool.not_not, ↓reduceIte, Nat.reduceAdd, Nat.reduceSub, Nat.reduceMul, Nat.reduceEqDiff, reduceCtorEq, Nat.reduceLT, Nat.reduceLeDiff, Nat.reduceGT]); (try any_goals (refine ⟨?_, ?_⟩)); (try any_goals (with_reducible rfl))))
      all_goals (repeat' (first | rfl | (refine And.intro ?_ ?_)))
theorem c_assign1 {h : List Ch} {K : KT} {w : List Win} {j : Job} {d : Int} {m : List Slo} {x : AV} (H : K (.tup [.agg (SloL (asS w j d m)), .bool (asB w j d m)]) h) (b1 : brA [] h (.ro .slo m) x) (s1 : goodW w) (s2 : vldJ j = true) (s3 : bdS m) (s4 : 1 ≤ d ∧ d ≤ 2147483648) (s5 : m.length ≤ 1099511627776) (s6 : w.length ≤ 1099511627776) : Does Try.prog 21 [.ro .win w, .agg [.int .i64 j.id, .int .i64 j.size, .int .i64 j.ear, .int .i64 j.dl, .int .i64 j.pri], .int .i64 d, x] h K :=
  frame_pure (b_assign1 w j d m s1 s2 s3 s4 s5 s6) (br_cons br_ro (br_cons (br_Job j) (br_cons br_int (br_cons b1 br_nil)))) (.inr rfl) (fun _ => rfl) H
abbrev i_assign1 := Ctr.mk (i := 0) (g := 21) @c_assign1
attribute [instance] i_assign1
end Go.V
