/-
  Jobs: the stable sort, at most 20.
  Jobs: the merge of one job behind a sorted part.
  Jobs: the stable sort of 21.
-/
import Derived.Test.YtalpgifnkajkbaaPart13
set_option linter.unusedVariables false
set_option linter.unusedSimpArgs false
set_option maxRecDepth 100000
set_option maxHeartbeats 8000000
namespace Go.V
open Go.Proofs
theorem srtR_all {f : Int → Int} {xs : List Int} : srtR f 0 xs.length xs = srt f xs := by unfold srtR; simp
theorem srtR_none {f : Int → Int} {k : Nat} {xs : List Int} (h : xs.length ≤ k) : srtR f k k xs = xs := by
  unfold srtR
  rw [List.take_of_length_le h, List.drop_eq_nil_of_le h]
  simp [srt]
theorem insF_len {f : Int → Int} {x : Int} : ∀ {l : List Int}, (insF f x l).length = l.length + 1
  | [] => rfl
  | y :: ys => by
    unfold insF
    split
    · rfl
    · simp [insF_len]
theorem srt_len {f : Int → Int} : ∀ {l : List Int}, (srt f l).length = l.length
  | [] => rfl
  | x :: xs => by rw [srt, insF_len, srt_len]; rfl
theorem srtR_len {f : Int → Int} {a b : Nat} {xs : List Int} (h : a ≤ b) : (srtR f a b xs).length = xs.length := by
  conv => rhs; rw [← cut3 (xs := xs) h]
  unfold srtR
  simp only [List.length_append, srt_len]
theorem srtR_KE {f : Int → Int} {a b : Nat} {xs : List Int} (h : a ≤ b) : KE f xs (srtR f a b xs) := by
  have := (KE.app (KE.app (KE.refl (f := f) (xs := xs.take a)) (srt_KE (f := f) (l := (xs.take b).drop a))) (KE.refl (xs := xs.drop b))).symm
  rw [cut3 h] at this
  exact this
theorem b_stab (l : List Job) (xs : List Int) (hi : ∀ x ∈ xs, inJ l x) (hl : xs.length ≤ 20) : DoesK Try.prog 2 38 [.sl 0 .int 0 xs.length, .int .i64 xs.length, .fn 19 [.ptr 1 0]] [.rows .int xs, bxJ l]
    (EndF 2 (.tup []) ([.rows .int (srt (keyJ l) xs), bxJ l] ++ [])) := by
  refine DoesK.close ?_
  refine w_body (rs := []) (tm := [.sl 0 .int 0 xs.length, .int .i64 xs.length, .fn 19 [.ptr 1 0], .any, .any, .any, .any, .any, .any, .any, .any, .any, .any, .any, .any, .any, .any, .any, .any, .any, .any, .any, .any, .any, .any, .any, .any, .any, .any, .any, .any, .any, .any, .any, .any, .any, .any, .any, .any, .any, .any, .any, .any, .any, .any, .any, .any, .any, .any, .any, .any, .any, .any, .any, .any, .any, .any, .any, .any, .any, .any, .any, .any]) fn_38 rfl rfl rfl rfl fun R hR => ?_
  (all_goals (try ((first | (with_reducible refine wp_id ?_) | (with_reducible refine does_id ?_) | (with_reducible refine ops_id ?_)); refine walk ?_; (repeat' (first | exact trivial | with_reducible refine And.intro ?_ ?_)); all_goals (repeat (first | (with_reducible refine ImpB.mk fun hb => ?_) | (with_reducible refine ImpK.mk fun hK => ?_) | (with_reducible refine ImpF.mk fun hF => ?_) | (with_reducible refine ImpQ.mk fun hp => ?_) | (with_reducible refine AllE.mk fun p => ?_) | (with_reducible refine AllR.mk fun rest => ?_) | (with_reducible refine AllK.mk fun K => ?_))))); repeat' (with_reducible refine And.intro ?_ ?_))
  any_goals ((try (refine w_seq fun K hK => ?_)); (try (refine w_block ?_)); refine w_loop (A := Bool × List Int) (fun p => (p.1 = false ∧ p.2 = xs) ∨ (p.1 = true ∧ xs.length = 20 ∧ p.2 = srt (keyJ l) xs)) (fun p => if p.1 then 0 else 1) (fun p => [(6, .int .i64 20), (7, .int .i64 (if p.1 then 20 else 0)), (8, .int .i64 (if p.1 then 40 else 20))]) (fun p => [(0, .rows .int p.2), (1, bxJ l)]) ((false, xs)) (ws := ?ws1) (tk := ?tk1) ?hw1 ?ht1 ?hi ?h0 ?LH1; (case hw1 => simp only [go_sem, decide_true, decide_false, Int.reduceToNat, Nat.min_eq_left, Nat.min_eq_right, Int.reducePow, Nat.reducePow, Int.reduceLE, Int.reduceLT, Int.reduceMul, Int.reduceAdd, Int.reduceSub, Int.reduceNeg, Bool.not_true, Bool.not_false, Bool.not_not, ↓reduceIte, Nat.reduceAdd, Nat.reduceSub, Nat.reduceMul, Nat.reduceEqDiff, reduceCtorEq, Nat.reduceLT, Nat.reduceLeDiff, Nat.reduceGT]; exact rfl); (case ht1 => simp only [go_sem, decide_true, decide_false, Int.reduceToNat, Nat.min_eq_left, Nat.min_eq_right, Int.reducePow, Nat.reducePow, Int.reduceLE, Int.reduceLT, Int.reduceMul, Int.reduceAdd, Int.reduceSub, Int.reduceNeg, Bool.not_true, Bool.not_false, Bool.not_not, ↓reduceIte, Nat.reduceAdd, Nat.reduceSub, Nat.reduceMul, Nat.reduceEqDiff, reduceCtorEq, Nat.reduceLT, Nat.reduceLeDiff, Nat.reduceGT]; exact rfl); (case' LH1 => rintro ⟨a, zs⟩ E t hx hE ht; simp only [go_sem] at ht; subst ht; simp only [go_sem]; try dsimp only at hx))
  case hi => exact .inl ⟨rfl, rfl⟩
  case h0 => (focus (refine ⟨_, _, Gh.refl, [0, 1], rfl, ?_⟩; (refine ⟨?_, ?_, ?_⟩ <;> simp only [go_sem, List.range, List.range.loop, List.nodup_cons, List.nodup_nil, List.mem_cons, List.not_mem_nil, or_false, or_self, decide_true, decide_false, Int.reduceToNat, Nat.min_eq_left, Nat.min_eq_right, Int.reducePow, Nat.reducePow, Int.reduceLE, Int.reduceLT, Int.reduceMul, Int.reduceAdd, Int.reduceSub, Int.reduceNeg, Bool.not_true, Bool.not_false, Bool.not_not, ↓reduceIte, Nat.reduceAdd, Nat.reduceSub, Nat.reduceMul, Nat.reduceEqDiff, reduceCtorEq, Nat.reduceLT, Nat.reduceLeDiff, Nat.reduceGT]); (try any_goals (refine ⟨?_, ?_⟩)); (try any_goals (with_reducible rfl))))
  case LH1 =>
    rcases hx with ⟨h1, h2⟩ | ⟨h1, h0, h2⟩
    · obtain rfl : a = false := h1
      obtain rfl : zs = xs := h2
      by_cases h20 : zs.length = 20
      · have d1 : decide ((20 : Int) ≤ (zs.length : Int)) = true := decide_eq_true (by omega)
        have w1 : IntKind.i64.wrap (20 + 20) = 40 := rfl
        have e1 : srtR (keyJ l) (Int.toNat 0) (Int.toNat 20) zs = srt (keyJ l) zs := by rw [← srtR_all, h20]; rfl
        (have zx1 := @d1; have zx2 := @w1; have zx3 := @e1; all_goals (try ((first | (with_reducible refine wp_id ?_) | (with_reducible refine does_id ?_) | (with_reducible refine ops_id ?_)); refine walk ?_; (repeat' (first | exact trivial | with_reducible refine And.intro ?_ ?_)); all_goals (repeat (first | (with_reducible refine ImpB.mk fun hb => ?_) | (with_reducible refine ImpK.mk fun hK => ?_) | (with_reducible refine ImpF.mk fun hF => ?_) | (with_reducible refine ImpQ.mk fun hp => ?_) | (with_reducible refine AllE.mk fun p => ?_) | (with_reducible refine AllR.mk fun rest => ?_) | (with_reducible refine AllK.mk fun K => ?_))))); repeat' (with_reducible refine And.intro ?_ ?_))
        all_goals first | exact hi | omega | skip
        refine ⟨(true, srt (keyJ l) zs), ⟨.inr ⟨rfl, h20, rfl⟩, Nat.zero_lt_one⟩, ?_⟩
        (focus (refine ⟨_, _, Gh.refl, [0, 1], rfl, ?_⟩; (refine ⟨?_, ?_, ?_⟩ <;> simp only [go_sem, List.range, List.range.loop, List.nodup_cons, List.nodup_nil, List.mem_cons, List.not_mem_nil, or_false, or_self, decide_true, decide_false, Int.reduceToNat, Nat.min_eq_left, Nat.min_eq_right, Int.reducePow, Nat.reducePow, Int.reduceLE, Int.reduceLT, Int.reduceMul, Int.reduceAdd, Int.reduceSub, Int.reduceNeg, Bool.not_true, Bool.not_false, Bool.not_not, ↓reduceIte, Nat.reduceAdd, Nat.reduceSub, Nat.reduceMul, Nat.reduceEqDiff, reduceCtorEq, Nat.reduceLT, Nat.reduceLeDiff, Nat.reduceGT]); (try any_goals (refine ⟨?_, ?_⟩)); (try any_goals (with_reducible rfl))))
        all_goals first | exact rfl | exact e1.symm
      · have d1 : decide ((20 : Int) ≤ (zs.length : Int)) = false := decide_eq_false (by omega)
        have e1 : srtR (keyJ l) (Int.toNat 0) (Int.toNat (zs.length : Int)) zs = srt (keyJ l) zs := by rw [Int.toNat_natCast]; exact srtR_all
        (have zx1 := @d1; have zx2 := @e1; all_goals (try ((first | (with_reducible refine wp_id ?_) | (with_reducible refine does_id ?_) | (with_reducible refine ops_id ?_)); refine walk ?_; (repeat' (first | exact trivial | with_reducible refine And.intro ?_ ?_)); all_goals (repeat (first | (with_reducible refine ImpB.mk fun hb => ?_) | (with_reducible refine ImpK.mk fun hK => ?_) | (with_reducible refine ImpF.mk fun hF => ?_) | (with_reducible refine ImpQ.mk fun hp => ?_) | (with_reducible refine AllE.mk fun p => ?_) | (with_reducible refine AllR.mk fun rest => ?_) | (with_reducible refine AllK.mk fun K => ?_))))); repeat' (with_reducible refine And.intro ?_ ?_))
        all_goals first | exact hi | omega | skip
        any_goals ((try (refine w_seq fun K hK => ?_)); (try (refine w_block ?_)); refine w_loop (A := Nat) (fun _ => True) (fun _ => 0) (fun _ => [(6, .int .i64 20)]) (fun _ => [(0, .rows .int (srt (keyJ l) zs)), (1, bxJ l)]) (0) (ws := ?ws2) (tk := ?tk2) ?hw2 ?ht2 ?hi_1 ?h0_1 ?LH2; (case hw2 => simp only [go_sem, decide_true, decide_false, Int.reduceToNat, Nat.min_eq_left, Nat.min_eq_right, Int.reducePow, Nat.reducePow, Int.reduceLE, Int.reduceLT, Int.reduceMul, Int.reduceAdd, Int.reduceSub, Int.reduceNeg, Bool.not_true, Bool.not_false, Bool.not_not, ↓reduceIte, Nat.reduceAdd, Nat.reduceSub, Nat.reduceMul, Nat.reduceEqDiff, reduceCtorEq, Nat.reduceLT, Nat.reduceLeDiff, Nat.reduceGT]; exact rfl); (case ht2 => simp only [go_sem, decide_true, decide_false, Int.reduceToNat, Nat.min_eq_left, Nat.min_eq_right, Int.reducePow, Nat.reducePow, Int.reduceLE, Int.reduceLT, Int.reduceMul, Int.reduceAdd, Int.reduceSub, Int.reduceNeg, Bool.not_true, Bool.not_false, Bool.not_not, ↓reduceIte, Nat.reduceAdd, Nat.reduceSub, Nat.reduceMul, Nat.reduceEqDiff, reduceCtorEq, Nat.reduceLT, Nat.reduceLeDiff, Nat.reduceGT]; exact rfl); (case' LH2 => rintro k E t hx hE ht; simp only [go_sem] at ht; subst ht; simp only [go_sem]; try dsimp only at hx))
        case hi_1 => exact trivial
        case h0_1 => (focus (refine ⟨_, _, Gh.refl, [0, 1], rfl, ?_⟩; (refine ⟨?_, ?_, ?_⟩ <;> simp only [go_sem, List.range, List.range.loop, List.nodup_cons, List.nodup_nil, List.mem_cons, List.not_mem_nil, or_false, or_self, decide_true, decide_false, Int.reduceToNat, Nat.min_eq_left, Nat.min_eq_right, Int.reducePow, Nat.reducePow, Int.reduceLE, Int.reduceLT, Int.reduceMul, Int.reduceAdd, Int.reduceSub, Int.reduceNeg, Bool.not_true, Bool.not_false, Bool.not_not, ↓reduceIte, Nat.reduceAdd, Nat.reduceSub, Nat.reduceMul, Nat.reduceEqDiff, reduceCtorEq, Nat.reduceLT, Nat.reduceLeDiff, Nat.reduceGT]); (try any_goals (refine ⟨?_, ?_⟩)); (try any_goals (with_reducible rfl)))); (all_goals first | exact rfl | exact e1.symm)
        case LH2 =>
          have d5 : decide ((20 : Int) < (zs.length : Int)) = false := decide_eq_false (by omega)
          (have zx1 := @d5; all_goals (try ((first | (with_reducible refine wp_id ?_) | (with_reducible refine does_id ?_) | (with_reducible refine ops_id ?_)); refine walk ?_; (repeat' (first | exact trivial | with_reducible refine And.intro ?_ ?_)); all_goals (repeat (first | (with_reducible refine ImpB.mk fun hb => ?_) | (with_reducible refine ImpK.mk fun hK => ?_) | (with_reducible refine ImpF.mk fun hF => ?_) | (with_reducible refine ImpQ.mk fun hp => ?_) | (with_reducible refine AllE.mk fun p => ?_) | (with_reducible refine AllR.mk fun rest => ?_) | (with_reducible refine AllK.mk fun K => ?_))))); repeat' (with_reducible refine And.intro ?_ ?_))
          (focus (refine ⟨_, _, Gh.refl, [0, 1], rfl, ?_⟩; (refine ⟨?_, ?_, ?_⟩ <;> simp only [go_sem, List.range, List.range.loop, List.nodup_cons, List.nodup_nil, List.mem_cons, List.not_mem_nil, or_false, or_self, decide_true, decide_false, Int.reduceToNat, Nat.min_eq_left, Nat.min_eq_right, Int.reducePow, Nat.reducePow, Int.reduceLE, Int.reduceLT, Int.reduceMul, Int.reduceAdd, Int.reduceSub, Int.reduceNeg, Bool.not_true, Bool.not_false, Bool.not_not, ↓reduceIte, Nat.reduceAdd, Nat.reduceSub, Nat.reduceMul, Nat.reduceEqDiff, reduceCtorEq, Nat.reduceLT, Nat.reduceLeDiff, Nat.reduceGT]); (try any_goals (refine ⟨?_, ?_⟩)); (try any_goals (with_reducible rfl))))

    · obtain rfl : a = true := h1
      have hz : zs = srt (keyJ l) xs := h2
      subst hz
      have hi' := KE.all (srt_KE (f := keyJ l) (l := xs)).symm hi
      have hsl := srt_len (f := keyJ l) (l := xs)
      have d1 : decide ((40 : Int) ≤ (xs.length : Int)) = false := decide_eq_false (by omega)
      have e1 : srtR (keyJ l) (Int.toNat 20) (Int.toNat (xs.length : Int)) (srt (keyJ l) xs) = srt (keyJ l) xs := by rw [Int.toNat_natCast, h0]; exact srtR_none (by omega)
      (have zx1 := @d1; have zx2 := @e1; have zx3 := @hsl; all_goals (try ((first | (with_reducible refine wp_id ?_) | (with_reducible refine does_id ?_) | (with_reducible refine ops_id ?_)); refine walk ?_; (repeat' (first | exact trivial | with_reducible refine And.intro ?_ ?_)); all_goals (repeat (first | (with_reducible refine ImpB.mk fun hb => ?_) | (with_reducible refine ImpK.mk fun hK => ?_) | (with_reducible refine ImpF.mk fun hF => ?_) | (with_reducible refine ImpQ.mk fun hp => ?_) | (with_reducible refine AllE.mk fun p => ?_) | (with_reducible refine AllR.mk fun rest => ?_) | (with_reducible refine AllK.mk fun K => ?_))))); repeat' (with_reducible refine And.intro ?_ ?_))
      all_goals first | exact hi' | omega | skip
      any_goals ((try (refine w_seq fun K hK => ?_)); (try (refine w_block ?_)); refine w_loop (A := Nat) (fun _ => True) (fun _ => 0) (fun _ => [(6, .int .i64 20)]) (fun _ => [(0, .rows .int (srt (keyJ l) xs)), (1, bxJ l)]) (0) (ws := ?ws3) (tk := ?tk3) ?hw3 ?ht3 ?hi_2 ?h0_2 ?LH3; (case hw3 => simp only [go_sem, decide_true, decide_false, Int.reduceToNat, Nat.min_eq_left, Nat.min_eq_right, Int.reducePow, Nat.reducePow, Int.reduceLE, Int.reduceLT, Int.reduceMul, Int.reduceAdd, Int.reduceSub, Int.reduceNeg, Bool.not_true, Bool.not_false, Bool.not_not, ↓reduceIte, Nat.reduceAdd, Nat.reduceSub, Nat.reduceMul, Nat.reduceEqDiff, reduceCtorEq, Nat.reduceLT, Nat.reduceLeDiff, Nat.reduceGT]; exact rfl); (case ht3 => simp only [go_sem, decide_true, decide_false, Int.reduceToNat, Nat.min_eq_left, Nat.min_eq_right, Int.reducePow, Nat.reducePow, Int.reduceLE, Int.reduceLT, Int.reduceMul, Int.reduceAdd, Int.reduceSub, Int.reduceNeg, Bool.not_true, Bool.not_false, Bool.not_not, ↓reduceIte, Nat.reduceAdd, Nat.reduceSub, Nat.reduceMul, Nat.reduceEqDiff, reduceCtorEq, Nat.reduceLT, Nat.reduceLeDiff, Nat.reduceGT]; exact rfl); (case' LH3 => rintro k E t hx hE ht; simp only [go_sem] at ht; subst ht; simp only [go_sem]; try dsimp only at hx))
      case hi_2 => exact trivial
      case h0_2 => (focus (refine ⟨_, _, Gh.refl, [0, 1], rfl, ?_⟩; (refine ⟨?_, ?_, ?_⟩ <;> simp only [go_sem, List.range, List.range.loop, List.nodup_cons, List.nodup_nil, List.mem_cons, List.not_mem_nil, or_false, or_self, decide_true, decide_false, Int.reduceToNat, Nat.min_eq_left, Nat.min_eq_right, Int.reducePow, Nat.reducePow, Int.reduceLE, Int.reduceLT, Int.reduceMul, Int.reduceAdd, Int.reduceSub, Int.reduceNeg, Bool.not_true, Bool.not_false, Bool.not_not, ↓reduceIte, Nat.reduceAdd, Nat.reduceSub, Nat.reduceMul, Nat.reduceEqDiff, reduceCtorEq, Nat.reduceLT, Nat.reduceLeDiff, Nat.reduceGT]); (try any_goals (refine ⟨?_, ?_⟩)); (try any_goals (with_reducible rfl)))); (all_goals first | exact rfl | exact e1.symm)
      case LH3 =>
        have d5 : decide ((20 : Int) < (xs.length : Int)) = false := decide_eq_false (by omega)
        (have zx1 := @d5; all_goals (try ((first | (with_reducible refine wp_id ?_) | (with_reducible refine does_id ?_) | (with_reducible refine ops_id ?_)); refine walk ?_; (repeat' (first | exact trivial | with_reducible refine And.intro ?_ ?_)); all_goals (repeat (first | (with_reducible refine ImpB.mk fun hb => ?_) | (with_reducible refine ImpK.mk fun hK => ?_) | (with_reducible refine ImpF.mk fun hF => ?_) | (with_reducible refine ImpQ.mk fun hp => ?_) | (with_reducible refine AllE.mk fun p => ?_) | (with_reducible refine AllR.mk fun rest => ?_) | (with_reducible refine AllK.mk fun K => ?_))))); repeat' (with_reducible refine And.intro ?_ ?_))
        (focus (refine ⟨_, _, Gh.refl, [0, 1], rfl, ?_⟩; (refine ⟨?_, ?_, ?_⟩ <;> simp only [go_sem, List.range, List.range.loop, List.nodup_cons, List.nodup_nil, List.mem_cons, List.not_mem_nil, or_false, or_self, decide_true, decide_false, Int.reduceToNat, Nat.min_eq_left, Nat.min_eq_right, Int.reducePow, Nat.reducePow, Int.reduceLE, Int.reduceLT, Int.reduceMul, Int.reduceAdd, Int.reduceSub, Int.reduceNeg, Bool.not_true, Bool.not_false, Bool.not_not, ↓reduceIte, Nat.reduceAdd, Nat.reduceSub, Nat.reduceMul, Nat.reduceEqDiff, reduceCtorEq, Nat.reduceLT, Nat.reduceLeDiff, Nat.reduceGT]); (try any_goals (refine ⟨?_, ?_⟩)); (try any_goals (with_reducible rfl))))
theorem k_stab20 {h : List Ch} {K : KT} {l : List Job} {xs : List Int} {x : Int} {n t u : Nat} (H : K (.tup []) (h.set t (.rows .int (srt (keyJ l) xs)))) (o : hth h t = .rows .int xs) (o1 : hth h u = bxJ l) (s1 : ∀ x ∈ xs, inJ l x) (s2 : x = n) (s3 : n = xs.length) (s4 : xs.length ≤ 20) : Does Try.prog 38 [.sl t .int 0 n, .int .i64 x, .fn 19 [.ptr u 0]] h K := by
  have hne : t ≠ u := fun e => by rw [e, o1] at o; cases o
  have hb := b_stab l xs s1 s4
  rw [s2, s3]
  refine frame_two0 (ret' := .tup []) hb o o1 hne (by simp) (by simp) (fitC_rows _ _) (fun σ => ?_) (br_cons (br_own rfl) (br_cons br_int (br_cons (br_clo rfl) br_nil))) rfl (fun _ => rfl) (fun _ => rfl) rfl ?_
  · simp only [fitC, fitL, fitA, asE_self, and_self]
  · rw [set_hth (by rw [hth_set_ne hne]; exact o1) (by simp)]
    exact H
end Go.V

set_option maxRecDepth 100000
set_option maxHeartbeats 8000000
namespace Go.V
open Go.Proofs
theorem b_sym1 (l : List Job) (xs : List Int) (a m : Nat) (hi : ∀ x ∈ xs, inJ l x) (ham : a + 1 < m) (hm : m < xs.length) (hl : xs.length ≤ 1099511627776) (hs : ∀ u v, a ≤ u → u < v → v < m → keyJ l (xs.getD u 0) ≤ keyJ l (xs.getD v 0)) : DoesK Try.prog 2 50 [.sl 0 .int 0 xs.length, .int .i64 a, .int .i64 m, .int .i64 (m + 1 : Nat), .fn 19 [.ptr 1 0]] [.rows .int xs, bxJ l]
    (EndF 2 (.tup []) ([.rows .int (srtR (keyJ l) a (m + 1) xs), bxJ l] ++ [])) := by
  refine DoesK.close ?_
  have x1 : IntKind.i64.wrap ((m : Int) - (a : Int)) = ((m - a : Nat) : Int) := by rw [wrap_i64 _ (by omega) (by omega)]; omega
  have x2 : IntKind.i64.wrap (((m + 1 : Nat) : Int) - (m : Int)) = 1 := by rw [wrap_i64 _ (by omega) (by omega)]; omega
  have x3 : decide (((m - a : Nat) : Int) = 1) = false := decide_eq_false (by omega)
  refine w_body (rs := []) (tm := [.sl 0 .int 0 xs.length, .int .i64 a, .int .i64 m, .int .i64 (m + 1 : Nat), .fn 19 [.ptr 1 0], .any, .any, .any, .any, .any, .any, .any, .any, .any, .any, .any, .any, .any, .any, .any, .any, .any, .any, .any, .any, .any, .any, .any, .any, .any, .any, .any, .any, .any, .any, .any, .any, .any, .any, .any, .any, .any, .any, .any, .any, .any, .any, .any, .any, .any, .any, .any, .any, .any, .any, .any, .any, .any, .any, .any, .any, .any, .any, .any, .any, .any, .any, .any, .any, .any, .any, .any, .any, .any, .any, .any, .any, .any, .any, .any, .any, .any, .any, .any, .any, .any, .any, .any, .any, .any, .any, .any, .any, .any, .any, .any, .any, .any, .any, .any, .any, .any, .any, .any, .any, .any, .any, .any, .any, .any, .any, .any, .any, .any, .any, .any, .any, .any, .any, .any, .any, .any, .any, .any, .any, .any, .any, .any, .any, .any, .any, .any, .any, .any, .any, .any, .any, .any, .any, .any, .any, .any, .any, .any, .any, .any, .any, .any, .any, .any, .any, .any, .any, .any, .any, .any, .any, .any, .any, .any, .any, .any, .any, .any, .any, .any, .any, .any, .any, .any, .any, .any, .any, .any, .any, .any, .any, .any, .any, .any, .any, .any, .any, .any, .any, .any, .any, .any, .any, .any, .any, .any, .any, .any, .any, .any, .any, .any, .any, .any, .any, .any, .any, .any, .any, .any, .any, .any, .any, .any, .any, .any, .any, .any, .any, .any, .any, .any, .any, .any]) fn_50 rfl rfl rfl rfl fun R hR => ?_
  (have zx1 := @x1; have zx2 := @x2; have zx3 := @x3; all_goals (try ((first | (with_reducible refine wp_id ?_) | (with_reducible refine does_id ?_) | (with_reducible refine ops_id ?_)); refine walk ?_; (repeat' (first | exact trivial | with_reducible refine And.intro ?_ ?_)); all_goals (repeat (first | (with_reducible refine ImpB.mk fun hb => ?_) | (with_reducible refine ImpK.mk fun hK => ?_) | (with_reducible refine ImpF.mk fun hF => ?_) | (with_reducible refine ImpQ.mk fun hp => ?_) | (with_reducible refine AllE.mk fun p => ?_) | (with_reducible refine AllR.mk fun rest => ?_) | (with_reducible refine AllK.mk fun K => ?_))))); repeat' (with_reducible refine And.intro ?_ ?_))
  any_goals ((try (refine w_seq fun K hK => ?_)); (try (refine w_block ?_)); refine w_loop (A := Nat × Nat) (fun p => a ≤ p.1 ∧ p.1 ≤ p.2 ∧ p.2 ≤ m ∧ (∀ u, a ≤ u → u < p.1 → keyJ l (xs.getD u 0) ≤ keyJ l (xs.getD m 0)) ∧ (∀ u, p.2 ≤ u → u < m → keyJ l (xs.getD m 0) < keyJ l (xs.getD u 0))) (fun p => p.2 - p.1) (fun p => [(14, .int .i64 p.1), (15, .int .i64 p.2)]) (fun _ => []) ((a, m)) (ws := ?ws1) (tk := ?tk1) ?hw1 ?ht1 ?hi ?h0 ?LH1; (case hw1 => simp only [go_sem, decide_true, decide_false, Int.reduceToNat, Nat.min_eq_left, Nat.min_eq_right, Int.reducePow, Nat.reducePow, Int.reduceLE, Int.reduceLT, Int.reduceMul, Int.reduceAdd, Int.reduceSub, Int.reduceNeg, Bool.not_true, Bool.not_false, Bool.not_not, ↓reduceIte, Nat.reduceAdd, Nat.reduceSub, Nat.reduceMul, Nat.reduceEqDiff, reduceCtorEq, Nat.reduceLT, Nat.reduceLeDiff, Nat.reduceGT]; exact rfl); (case ht1 => simp only [go_sem, decide_true, decide_false, Int.reduceToNat, Nat.min_eq_left, Nat.min_eq_right, Int.reducePow, Nat.reducePow, Int.reduceLE, Int.reduceLT, Int.reduceMul, Int.reduceAdd, Int.reduceSub, Int.reduceNeg, Bool.not_true, Bool.not_false, Bool.not_not, ↓reduceIte, Nat.reduceAdd, Nat.reduceSub, Nat.reduceMul, Nat.reduceEqDiff, reduceCtorEq, Nat.reduceLT, Nat.reduceLeDiff, Nat.reduceGT]; exact rfl); (case' LH1 => rintro ⟨i, j⟩ E t hx hE ht; simp only [go_sem] at ht; subst ht; simp only [go_sem]; try dsimp only at hx))
  case hi => exact ⟨Nat.le_refl _, by omega, Nat.le_refl _, fun u h1 h2 => by dsimp only at h2; omega, fun u h1 h2 => by dsimp only at h1; omega⟩
  case h0 => (focus (refine ⟨_, _, Gh.refl, [0, 1], rfl, ?_⟩; (refine ⟨?_, ?_, ?_⟩ <;> simp only [go_sem, List.range, List.range.loop, List.nodup_cons, List.nodup_nil, List.mem_cons, List.not_mem_nil, or_false, or_self, decide_true, decide_false, Int.reduceToNat, Nat.min_eq_left, Nat.min_eq_right, Int.reducePow, Nat.reducePow, Int.reduceLE, Int.reduceLT, Int.reduceMul, Int.reduceAdd, Int.reduceSub, Int.reduceNeg, Bool.not_true, Bool.not_false, Bool.not_not, ↓reduceIte, Nat.reduceAdd, Nat.reduceSub, Nat.reduceMul, Nat.reduceEqDiff, reduceCtorEq, Nat.reduceLT, Nat.reduceLeDiff, Nat.reduceGT]); (try any_goals (refine ⟨?_, ?_⟩)); (try any_goals (with_reducible rfl))))
  case LH1 =>
    obtain ⟨h1, h2, h3, h4, h5⟩ := hx
    (try dsimp only at h1 h2 h3 h4 h5)
    by_cases hij : i < j
    · have d1 : decide ((i : Int) < (j : Int)) = true := decide_eq_true (by omega)
      obtain ⟨c, hc⟩ : ∃ c : Nat, (i + j) / 2 = c := ⟨_, rfl⟩
      have w1 : IntKind.i64.wrap ((i : Int) + (j : Int)) = ((i + j : Nat) : Int) := by rw [wrap_i64 _ (by omega) (by omega)]; omega
      have w2 : IntKind.u64.wrap ((i + j : Nat) : Int) = ((i + j : Nat) : Int) := by rw [wrap_u64]; omega
      have w3 : Int.fdiv ((i + j : Nat) : Int) 2 = (c : Int) := by rw [Int.fdiv_eq_ediv_of_nonneg _ (by omega)]; omega
      have w4 : IntKind.i64.wrap (c : Int) = (c : Int) := wrap_i64 _ (by omega) (by omega)
      have w5 : IntKind.i64.wrap ((c : Int) + 1) = ((c + 1 : Nat) : Int) := by rw [wrap_i64 _ (by omega) (by omega)]; omega
      have i1 := hi _ (getMI hm)
      have i2 := hi _ (getMI (zs := xs) (k := c) (by omega))
      by_cases q : keyJ l (xs.getD m 0) < keyJ l (xs.getD c 0)
      · have d2 : decide (cmpI (keyJ l (xs.getD m 0)) (keyJ l (xs.getD c 0)) < 0) = true := by rw [cmpI_lt]; exact decide_eq_true q
        (have zx1 := @d1; have zx2 := @w1; have zx3 := @w2; have zx4 := @w3; have zx5 := @w4; have zx6 := @w5; have zx7 := @d2; all_goals (try ((first | (with_reducible refine wp_id ?_) | (with_reducible refine does_id ?_) | (with_reducible refine ops_id ?_)); refine walk ?_; (repeat' (first | exact trivial | with_reducible refine And.intro ?_ ?_)); all_goals (repeat (first | (with_reducible refine ImpB.mk fun hb => ?_) | (with_reducible refine ImpK.mk fun hK => ?_) | (with_reducible refine ImpF.mk fun hF => ?_) | (with_reducible refine ImpQ.mk fun hp => ?_) | (with_reducible refine AllE.mk fun p => ?_) | (with_reducible refine AllR.mk fun rest => ?_) | (with_reducible refine AllK.mk fun K => ?_))))); repeat' (with_reducible refine And.intro ?_ ?_))
        all_goals first | exact i1 | exact i2 | exact Int.natCast_nonneg _ | omega | skip
        refine ⟨(i, c), ⟨⟨h1, by dsimp only; omega, by dsimp only; omega, h4, fun u e1 e2 => ?_⟩, by dsimp only; omega⟩, ?_⟩
        · dsimp only at e1
          by_cases e : u = c
          · rw [e]; exact q
          · have := hs c u (by omega) (by omega) e2; omega
        (focus (refine ⟨_, _, Gh.refl, [0, 1], rfl, ?_⟩; (refine ⟨?_, ?_, ?_⟩ <;> simp only [go_sem, List.range, List.range.loop, List.nodup_cons, List.nodup_nil, List.mem_cons, List.not_mem_nil, or_false, or_self, decide_true, decide_false, Int.reduceToNat, Nat.min_eq_left, Nat.min_eq_right, Int.reducePow, Nat.reducePow, Int.reduceLE, Int.reduceLT, Int.reduceMul, Int.reduceAdd, Int.reduceSub, Int.reduceNeg, Bool.not_true, Bool.not_false, Bool.not_not, ↓reduceIte, Nat.reduceAdd, Nat.reduceSub, Nat.reduceMul, Nat.reduceEqDiff, reduceCtorEq, Nat.reduceLT, Nat.reduceLeDiff, Nat.reduceGT]); (try any_goals (refine ⟨?_, ?_⟩)); (try any_goals (with_reducible rfl))))
      · have d2 : decide (cmpI (keyJ l (xs.getD m 0)) (keyJ l (xs.getD c 0)) < 0) = false := by rw [cmpI_lt]; exact decide_eq_false q
        (have zx1 := @d1; have zx2 := @w1; have zx3 := @w2; have zx4 := @w3; have zx5 := @w4; have zx6 := @w5; have zx7 := @d2; all_goals (try ((first | (with_reducible refine wp_id ?_) | (with_reducible refine does_id ?_) | (with_reducible refine ops_id ?_)); refine walk ?_; (repeat' (first | exact trivial | with_reducible refine And.intro ?_ ?_)); all_goals (repeat (first | (with_reducible refine ImpB.mk fun hb => ?_) | (with_reducible refine ImpK.mk fun hK => ?_) | (with_reducible refine ImpF.mk fun hF => ?_) | (with_reducible refine ImpQ.mk fun hp => ?_) | (with_reducible refine AllE.mk fun p => ?_) | (with_reducible refine AllR.mk fun rest => ?_) | (with_reducible refine AllK.mk fun K => ?_))))); repeat' (with_reducible refine And.intro ?_ ?_))
        all_goals first | exact i1 | exact i2 | exact Int.natCast_nonneg _ | omega | skip
        refine ⟨(c + 1, j), ⟨⟨by dsimp only; omega, by dsimp only; omega, h3, fun u e1 e2 => ?_, h5⟩, by dsimp only; omega⟩, ?_⟩
        · dsimp only at e2
          by_cases e : u = c
          · rw [e]; omega
          · have := hs u c e1 (by omega) (by omega); omega
        (focus (refine ⟨_, _, Gh.refl, [0, 1], rfl, ?_⟩; (refine ⟨?_, ?_, ?_⟩ <;> simp only [go_sem, List.range, List.range.loop, List.nodup_cons, List.nodup_nil, List.mem_cons, List.not_mem_nil, or_false, or_self, decide_true, decide_false, Int.reduceToNat, Nat.min_eq_left, Nat.min_eq_right, Int.reducePow, Nat.reducePow, Int.reduceLE, Int.reduceLT, Int.reduceMul, Int.reduceAdd, Int.reduceSub, Int.reduceNeg, Bool.not_true, Bool.not_false, Bool.not_not, ↓reduceIte, Nat.reduceAdd, Nat.reduceSub, Nat.reduceMul, Nat.reduceEqDiff, reduceCtorEq, Nat.reduceLT, Nat.reduceLeDiff, Nat.reduceGT]); (try any_goals (refine ⟨?_, ?_⟩)); (try any_goals (with_reducible rfl))))
    · have d1 : decide ((i : Int) < (j : Int)) = false := decide_eq_false (by omega)
      obtain rfl : i = j := by omega
      (have zx1 := @d1; all_goals (try ((first | (with_reducible refine wp_id ?_) | (with_reducible refine does_id ?_) | (with_reducible refine ops_id ?_)); refine walk ?_; (repeat' (first | exact trivial | with_reducible refine And.intro ?_ ?_)); all_goals (repeat (first | (with_reducible refine ImpB.mk fun hb => ?_) | (with_reducible refine ImpK.mk fun hK => ?_) | (with_reducible refine ImpF.mk fun hF => ?_) | (with_reducible refine ImpQ.mk fun hp => ?_) | (with_reducible refine AllE.mk fun p => ?_) | (with_reducible refine AllR.mk fun rest => ?_) | (with_reducible refine AllK.mk fun K => ?_))))); repeat' (with_reducible refine And.intro ?_ ?_))
      any_goals ((try (refine w_seq fun K hK => ?_)); (try (refine w_block ?_)); refine w_loop (A := Nat × List Int) (fun p => i ≤ p.1 ∧ p.1 ≤ m ∧ mid (keyJ l) xs a (m + 1) p.2 ∧ p.2.getD p.1 0 = xs.getD m 0 ∧ (∀ u, u < p.1 → p.2.getD u 0 = xs.getD u 0) ∧ (∀ u v, a ≤ u → u < v → v ≤ m → v ≠ p.1 → keyJ l (p.2.getD u 0) ≤ keyJ l (p.2.getD v 0))) (fun p => p.1) (fun p => [(14, .int .i64 i), (17, .int .i64 p.1)]) (fun p => [(0, .rows .int p.2), (1, bxJ l)]) ((m, xs)) (ws := ?ws2) (tk := ?tk2) ?hw2 ?ht2 ?hi_1 ?h0_1 ?LH2; (case hw2 => simp only [go_sem, decide_true, decide_false, Int.reduceToNat, Nat.min_eq_left, Nat.min_eq_right, Int.reducePow, Nat.reducePow, Int.reduceLE, Int.reduceLT, Int.reduceMul, Int.reduceAdd, Int.reduceSub, Int.reduceNeg, Bool.not_true, Bool.not_false, Bool.not_not, ↓reduceIte, Nat.reduceAdd, Nat.reduceSub, Nat.reduceMul, Nat.reduceEqDiff, reduceCtorEq, Nat.reduceLT, Nat.reduceLeDiff, Nat.reduceGT]; exact rfl); (case ht2 => simp only [go_sem, decide_true, decide_false, Int.reduceToNat, Nat.min_eq_left, Nat.min_eq_right, Int.reducePow, Nat.reducePow, Int.reduceLE, Int.reduceLT, Int.reduceMul, Int.reduceAdd, Int.reduceSub, Int.reduceNeg, Bool.not_true, Bool.not_false, Bool.not_not, ↓reduceIte, Nat.reduceAdd, Nat.reduceSub, Nat.reduceMul, Nat.reduceEqDiff, reduceCtorEq, Nat.reduceLT, Nat.reduceLeDiff, Nat.reduceGT]; exact rfl); (case' LH2 => rintro ⟨k, zs⟩ E t hx hE ht; simp only [go_sem] at ht; subst ht; simp only [go_sem]; try dsimp only at hx))
      case hi_1 => exact ⟨h3, Nat.le_refl _, ⟨rfl, KE.refl, rfl, rfl⟩, rfl, fun u _ => rfl, fun u v e1 e2 e3 e4 => hs u v e1 e2 (by dsimp only at e4; omega)⟩
      case h0_1 => (focus (refine ⟨_, _, Gh.refl, [0, 1], rfl, ?_⟩; (refine ⟨?_, ?_, ?_⟩ <;> simp only [go_sem, List.range, List.range.loop, List.nodup_cons, List.nodup_nil, List.mem_cons, List.not_mem_nil, or_false, or_self, decide_true, decide_false, Int.reduceToNat, Nat.min_eq_left, Nat.min_eq_right, Int.reducePow, Nat.reducePow, Int.reduceLE, Int.reduceLT, Int.reduceMul, Int.reduceAdd, Int.reduceSub, Int.reduceNeg, Bool.not_true, Bool.not_false, Bool.not_not, ↓reduceIte, Nat.reduceAdd, Nat.reduceSub, Nat.reduceMul, Nat.reduceEqDiff, reduceCtorEq, Nat.reduceLT, Nat.reduceLeDiff, Nat.reduceGT]); (try any_goals (refine ⟨?_, ?_⟩)); (try any_goals (with_reducible rfl))))
      case LH2 =>
        obtain ⟨g1, g2, g3, g4, g5, g6⟩ := hx
        have g3' := g3
        obtain ⟨p1, p2, p3, p4⟩ := g3'
        (try dsimp only at g1 g2 p1 p2 p3 p4 g4 g5 g6)
        by_cases hk : i < k
        · have d2 : decide ((i : Int) < (k : Int)) = true := decide_eq_true (by omega)
          obtain ⟨k, rfl⟩ : ∃ k', k = k' + 1 := ⟨k - 1, by omega⟩
          have hkl : k + 1 < zs.length := by omega
          have w0 : IntKind.i64.wrap (((k + 1 : Nat) : Int) - 1) = (k : Int) := by rw [wrap_i64 _ (by omega) (by omega)]; omega
          have c : keyJ l (zs.getD (k + 1) 0) < keyJ l (zs.getD k 0) := by
            rw [g4, g5 k (by omega)]
            exact h5 k (by omega) (by omega)
          (have zx1 := @d2; have zx2 := @w0; have zx3 := @p1; all_goals (try ((first | (with_reducible refine wp_id ?_) | (with_reducible refine does_id ?_) | (with_reducible refine ops_id ?_)); refine walk ?_; (repeat' (first | exact trivial | with_reducible refine And.intro ?_ ?_)); all_goals (repeat (first | (with_reducible refine ImpB.mk fun hb => ?_) | (with_reducible refine ImpK.mk fun hK => ?_) | (with_reducible refine ImpF.mk fun hF => ?_) | (with_reducible refine ImpQ.mk fun hp => ?_) | (with_reducible refine AllE.mk fun p => ?_) | (with_reducible refine AllR.mk fun rest => ?_) | (with_reducible refine AllK.mk fun K => ?_))))); repeat' (with_reducible refine And.intro ?_ ?_))
          all_goals first | exact Int.natCast_nonneg _ | omega | skip
          refine ⟨(k, swA k zs), ⟨⟨by (try dsimp only); omega, by (try dsimp only); omega, g3.sw (by omega) (by omega) (by omega) c, ?_, fun u hu => ?_, fun u v e1 e2 e3 e4 => ?_⟩, by (try dsimp only); omega⟩, ?_⟩
          · dsimp only
            rw [swA_get hkl, if_pos rfl]; exact g4
          · dsimp only at hu ⊢
            rw [swA_get hkl, if_neg (by omega), if_neg (by omega)]
            exact g5 u (by omega)
          · dsimp only at e4 ⊢
            rw [swA_get hkl, swA_get hkl]
            have s1 := fun h => g6 u k e1 h (by omega) (by omega)
            have s2 := g6 u v e1 e2 e3
            have s3 := fun h h' => g6 k v (by omega) h e3 h'
            by_cases u1 : u = k
            · subst u1
              rw [if_pos rfl, if_neg (by omega)]
              by_cases v1 : v = u + 1
              · rw [if_pos v1]; omega
              · rw [if_neg v1]; have := s3 (by omega) v1; omega
            · rw [if_neg u1]
              by_cases u2 : u = k + 1
              · rw [if_pos u2, if_neg (by omega), if_neg (by omega)]
                exact s3 (by omega) (by omega)
              · rw [if_neg u2, if_neg (by omega)]
                by_cases v1 : v = k + 1
                · rw [if_pos v1]; exact s1 (by omega)
                · rw [if_neg v1]; exact s2 v1
          (focus (refine ⟨_, _, Gh.refl, [0, 1], rfl, ?_⟩; (refine ⟨?_, ?_, ?_⟩ <;> simp only [go_sem, List.range, List.range.loop, List.nodup_cons, List.nodup_nil, List.mem_cons, List.not_mem_nil, or_false, or_self, decide_true, decide_false, Int.reduceToNat, Nat.min_eq_left, Nat.min_eq_right, Int.reducePow, Nat.reducePow, Int.reduceLE, Int.reduceLT, Int.reduceMul, Int.reduceAdd, Int.reduceSub, Int.reduceNeg, Bool.not_true, Bool.not_false, Bool.not_not, ↓reduceIte, Nat.reduceAdd, Nat.reduceSub, Nat.reduceMul, Nat.reduceEqDiff, reduceCtorEq, Nat.reduceLT, Nat.reduceLeDiff, Nat.reduceGT]); (try any_goals (refine ⟨?_, ?_⟩)); (try any_goals (with_reducible rfl))))
          all_goals exact rfl
        · have d2 : decide ((i : Int) < (k : Int)) = false := decide_eq_false (by omega)
          obtain rfl : k = i := by omega
          (have zx1 := @d2; all_goals (try ((first | (with_reducible refine wp_id ?_) | (with_reducible refine does_id ?_) | (with_reducible refine ops_id ?_)); refine walk ?_; (repeat' (first | exact trivial | with_reducible refine And.intro ?_ ?_)); all_goals (repeat (first | (with_reducible refine ImpB.mk fun hb => ?_) | (with_reducible refine ImpK.mk fun hK => ?_) | (with_reducible refine ImpF.mk fun hF => ?_) | (with_reducible refine ImpQ.mk fun hp => ?_) | (with_reducible refine AllE.mk fun p => ?_) | (with_reducible refine AllR.mk fun rest => ?_) | (with_reducible refine AllK.mk fun K => ?_))))); repeat' (with_reducible refine And.intro ?_ ?_))
          rw [← srtR_uniq (by omega) p1 p2 p3 p4 fun u v e1 e2 e3 e4 => ?_]
          · (focus (refine ⟨_, _, Gh.refl, [0, 1], rfl, ?_⟩; (refine ⟨?_, ?_, ?_⟩ <;> simp only [go_sem, List.range, List.range.loop, List.nodup_cons, List.nodup_nil, List.mem_cons, List.not_mem_nil, or_false, or_self, decide_true, decide_false, Int.reduceToNat, Nat.min_eq_left, Nat.min_eq_right, Int.reducePow, Nat.reducePow, Int.reduceLE, Int.reduceLT, Int.reduceMul, Int.reduceAdd, Int.reduceSub, Int.reduceNeg, Bool.not_true, Bool.not_false, Bool.not_not, ↓reduceIte, Nat.reduceAdd, Nat.reduceSub, Nat.reduceMul, Nat.reduceEqDiff, reduceCtorEq, Nat.reduceLT, Nat.reduceLeDiff, Nat.reduceGT]); (try any_goals (refine ⟨?_, ?_⟩)); (try any_goals (with_reducible rfl))))
          · by_cases v1 : v = k
            · subst v1
              rw [g4, g5 u e2]
              exact h4 u e1 e2
            · exact g6 u v e1 e2 (by omega) v1
end Go.V

set_option maxRecDepth 100000
set_option maxHeartbeats 8000000
namespace Go.V
open Go.Proofs
theorem srt_congr {f : Int → Int} {xs ys : List Int} (h : KE f xs ys) : srt f xs = srt f ys := srt_uniq srt_Srt srt_Srt ((srt_KE.trans h).trans srt_KE.symm)
theorem srtR_one {f : Int → Int} {k : Nat} {zs : List Int} : srtR f k (k + 1) zs = zs := (srtR_uniq (by omega) rfl KE.refl rfl rfl fun p q h1 h2 h3 _ => by omega).symm
theorem srtR_asc {f : Int → Int} {b : Nat} {xs : List Int} (hb : b ≤ xs.length) {u v : Nat} (h1 : u < v) (h2 : v < b) : f ((srtR f 0 b xs).getD u 0) ≤ f ((srtR f 0 b xs).getD v 0) := by
  have hl : (srt f (xs.take b)).length = b := by rw [srt_len, List.length_take]; omega
  have e : ∀ i, i < b → (srtR f 0 b xs).getD i 0 = (srt f (xs.take b)).getD i 0 := fun i hi => by
    unfold srtR
    rw [List.take_zero, List.drop_zero, List.nil_append, List.getD_eq_getElem?_getD, List.getElem?_append_left (by omega), ← List.getD_eq_getElem?_getD]
  rw [e u (by omega), e v h2]
  have := List.pairwise_iff_getElem.1 (srt_Srt (f := f) (l := xs.take b)) u v (by omega) (by omega) h1
  have q1 : (srt f (xs.take b)).getD u 0 = (srt f (xs.take b))[u] := by rw [List.getD_eq_getElem?_getD, List.getElem?_eq_getElem (by omega)]; rfl
  have q2 : (srt f (xs.take b)).getD v 0 = (srt f (xs.take b))[v] := by rw [List.getD_eq_getElem?_getD, List.getElem?_eq_getElem (by omega)]; rfl
  rw [q1, q2]; exact this
theorem c_sym1 {h : List Ch} {K : KT} {l : List Job} {xs : List Int} {x y z : Int} {n t u : Nat} (H : K (.tup []) (h.set t (.rows .int (srtR (keyJ l) x.toNat z.toNat xs)))) (o : hth h t = .rows .int xs) (o1 : hth h u = bxJ l) (s1 : ∀ x ∈ xs, inJ l x) (s2 : 0 ≤ x ∧ x + 1 < y ∧ y < n ∧ z = y + 1) (s3 : n = xs.length) (s4 : xs.length ≤ 1099511627776) (s5 : ∀ u v, x.toNat ≤ u → u < v → v < y.toNat → keyJ l (xs.getD u 0) ≤ keyJ l (xs.getD v 0)) : Does Try.prog 50 [.sl t .int 0 n, .int .i64 x, .int .i64 y, .int .i64 z, .fn 19 [.ptr u 0]] h K := by
  have hne : t ≠ u := fun e => by rw [e, o1] at o; cases o
  have hx : x = (x.toNat : Int) := by omega
  have hy : y = (y.toNat : Int) := by omega
  have hz : z = ((y.toNat + 1 : Nat) : Int) := by omega
  have hzn : z.toNat = y.toNat + 1 := by omega
  have hb := b_sym1 l xs x.toNat y.toNat s1 (by omega) (by omega) s4 s5
  rw [hzn] at H
  rw [hz, hy, s3, hx]
  refine frame_two0 (ret' := .tup []) hb o o1 hne (by simp) (by simp) (fitC_rows _ _) (fun σ => ?_) (br_cons (br_own rfl) (br_cons br_int (br_cons br_int (br_cons br_int (br_cons (br_clo rfl) br_nil))))) rfl (fun _ => rfl) (fun _ => rfl) rfl ?_
  · simp only [fitC, fitL, fitA, asE_self, and_self]
  · rw [set_hth (by rw [hth_set_ne hne]; exact o1) (by simp)]
    exact H
abbrev i_sym1 := Ctr.mk (i := 0) (g := 50) @c_sym1
attribute [instance] i_sym1
theorem b_stab21 (l : List Job) (xs : List Int) (hi : ∀ x ∈ xs, inJ l x) (hl : xs.length = 21) : DoesK Try.prog 2 38 [.sl 0 .int 0 21, .int .i64 21, .fn 19 [.ptr 1 0]] [.rows .int xs, bxJ l]
    (EndF 2 (.tup []) ([.rows .int (srt (keyJ l) xs), bxJ l] ++ [])) := by
  refine DoesK.close ?_
  obtain ⟨zs, hzs⟩ : ∃ zs, srtR (keyJ l) 0 20 xs = zs := ⟨_, rfl⟩
  have hzl : zs.length = 21 := by rw [← hzs, srtR_len (by omega), hl]
  have hzk : KE (keyJ l) xs zs := by rw [← hzs]; exact srtR_KE (by omega)
  have hzi := KE.all hzk hi
  have hza : ∀ u v, Int.toNat 0 ≤ u → u < v → v < Int.toNat 20 → keyJ l (zs.getD u 0) ≤ keyJ l (zs.getD v 0) := fun u v _ h1 h2 => by rw [← hzs]; exact srtR_asc (by omega) h1 h2
  have e1 : srtR (keyJ l) (Int.toNat 0) (Int.toNat 20) xs = zs := hzs
  have e2 : srtR (keyJ l) (Int.toNat 20) (Int.toNat 21) zs = zs := srtR_one
  have e3 : srtR (keyJ l) (Int.toNat 0) (Int.toNat 21) zs = srt (keyJ l) xs := by
    rw [srt_congr hzk, ← srtR_all, hzl]; rfl
  refine w_body (rs := []) (tm := [.sl 0 .int 0 21, .int .i64 21, .fn 19 [.ptr 1 0], .any, .any, .any, .any, .any, .any, .any, .any, .any, .any, .any, .any, .any, .any, .any, .any, .any, .any, .any, .any, .any, .any, .any, .any, .any, .any, .any, .any, .any, .any, .any, .any, .any, .any, .any, .any, .any, .any, .any, .any, .any, .any, .any, .any, .any, .any, .any, .any, .any, .any, .any, .any, .any, .any, .any, .any, .any, .any, .any, .any]) fn_38 rfl rfl rfl rfl fun R hR => ?_
  (all_goals (try ((first | (with_reducible refine wp_id ?_) | (with_reducible refine does_id ?_) | (with_reducible refine ops_id ?_)); refine walk ?_; (repeat' (first | exact trivial | with_reducible refine And.intro ?_ ?_)); all_goals (repeat (first | (with_reducible refine ImpB.mk fun hb => ?_) | (with_reducible refine ImpK.mk fun hK => ?_) | (with_reducible refine ImpF.mk fun hF => ?_) | (with_reducible refine ImpQ.mk fun hp => ?_) | (with_reducible refine AllE.mk fun p => ?_) | (with_reducible refine AllR.mk fun rest => ?_) | (with_reducible refine AllK.mk fun K => ?_))))); repeat' (with_reducible refine And.intro ?_ ?_))
  any_goals ((try (refine w_seq fun K hK => ?_)); (try (refine w_block ?_)); refine w_loop (A := Bool × List Int) (fun p => (p.1 = false ∧ p.2 = xs) ∨ (p.1 = true ∧ p.2 = zs)) (fun p => if p.1 then 0 else 1) (fun p => [(6, .int .i64 20), (7, .int .i64 (if p.1 then 20 else 0)), (8, .int .i64 (if p.1 then 40 else 20))]) (fun p => [(0, .rows .int p.2), (1, bxJ l)]) ((false, xs)) (ws := ?ws1) (tk := ?tk1) ?hw1 ?ht1 ?hi ?h0 ?LH1; (case hw1 => simp only [go_sem, decide_true, decide_false, Int.reduceToNat, Nat.min_eq_left, Nat.min_eq_right, Int.reducePow, Nat.reducePow, Int.reduceLE, Int.reduceLT, Int.reduceMul, Int.reduceAdd, Int.reduceSub, Int.reduceNeg, Bool.not_true, Bool.not_false, Bool.not_not, ↓reduceIte, Nat.reduceAdd, Nat.reduceSub, Nat.reduceMul, Nat.reduceEqDiff, reduceCtorEq, Nat.reduceLT, Nat.reduceLeDiff, Nat.reduceGT]; exact rfl); (case ht1 => simp only [go_sem, decide_true, decide_false, Int.reduceToNat, Nat.min_eq_left, Nat.min_eq_right, Int.reducePow, Nat.reducePow, Int.reduceLE, Int.reduceLT, Int.reduceMul, Int.reduceAdd, Int.reduceSub, Int.reduceNeg, Bool.not_true, Bool.not_false, Bool.not_not, ↓reduceIte, Nat.reduceAdd, Nat.reduceSub, Nat.reduceMul, Nat.reduceEqDiff, reduceCtorEq, Nat.reduceLT, Nat.reduceLeDiff, Nat.reduceGT]; exact rfl); (case' LH1 => rintro ⟨a, ys⟩ E t hx hE ht; simp only [go_sem] at ht; subst ht; simp only [go_sem]; try dsimp only at hx))
  case hi => exact .inl ⟨rfl, rfl⟩
  case h0 => (focus (refine ⟨_, _, Gh.refl, [0, 1], rfl, ?_⟩; (refine ⟨?_, ?_, ?_⟩ <;> simp only [go_sem, List.range, List.range.loop, List.nodup_cons, List.nodup_nil, List.mem_cons, List.not_mem_nil, or_false, or_self, decide_true, decide_false, Int.reduceToNat, Nat.min_eq_left, Nat.min_eq_right, Int.reducePow, Nat.reducePow, Int.reduceLE, Int.reduceLT, Int.reduceMul, Int.reduceAdd, Int.reduceSub, Int.reduceNeg, Bool.not_true, Bool.not_false, Bool.not_not, ↓reduceIte, Nat.reduceAdd, Nat.reduceSub, Nat.reduceMul, Nat.reduceEqDiff, reduceCtorEq, Nat.reduceLT, Nat.reduceLeDiff, Nat.reduceGT]); (try any_goals (refine ⟨?_, ?_⟩)); (try any_goals (with_reducible rfl))))
  case LH1 =>
    rcases hx with ⟨h1, h2⟩ | ⟨h1, h2⟩
    · obtain rfl : a = false := h1
      obtain rfl : ys = xs := h2
      have w1 : IntKind.i64.wrap (20 + 20) = 40 := rfl
      (have zx1 := @w1; have zx2 := @e1; all_goals (try ((first | (with_reducible refine wp_id ?_) | (with_reducible refine does_id ?_) | (with_reducible refine ops_id ?_)); refine walk ?_; (repeat' (first | exact trivial | with_reducible refine And.intro ?_ ?_)); all_goals (repeat (first | (with_reducible refine ImpB.mk fun hb => ?_) | (with_reducible refine ImpK.mk fun hK => ?_) | (with_reducible refine ImpF.mk fun hF => ?_) | (with_reducible refine ImpQ.mk fun hp => ?_) | (with_reducible refine AllE.mk fun p => ?_) | (with_reducible refine AllR.mk fun rest => ?_) | (with_reducible refine AllK.mk fun K => ?_))))); repeat' (with_reducible refine And.intro ?_ ?_))
      all_goals first | exact hi | omega | skip
      refine ⟨(true, zs), ⟨.inr ⟨rfl, rfl⟩, Nat.zero_lt_one⟩, ?_⟩
      (focus (refine ⟨_, _, Gh.refl, [0, 1], rfl, ?_⟩; (refine ⟨?_, ?_, ?_⟩ <;> simp only [go_sem, List.range, List.range.loop, List.nodup_cons, List.nodup_nil, List.mem_cons, List.not_mem_nil, or_false, or_self, decide_true, decide_false, Int.reduceToNat, Nat.min_eq_left, Nat.min_eq_right, Int.reducePow, Nat.reducePow, Int.reduceLE, Int.reduceLT, Int.reduceMul, Int.reduceAdd, Int.reduceSub, Int.reduceNeg, Bool.not_true, Bool.not_false, Bool.not_not, ↓reduceIte, Nat.reduceAdd, Nat.reduceSub, Nat.reduceMul, Nat.reduceEqDiff, reduceCtorEq, Nat.reduceLT, Nat.reduceLeDiff, Nat.reduceGT]); (try any_goals (refine ⟨?_, ?_⟩)); (try any_goals (with_reducible rfl))))
      all_goals first | exact rfl | exact e1.symm
    · obtain rfl : a = true := h1
      obtain rfl : ys = zs := h2
      (have zx1 := @e2; all_goals (try ((first | (with_reducible refine wp_id ?_) | (with_reducible refine does_id ?_) | (with_reducible refine ops_id ?_)); refine walk ?_; (repeat' (first | exact trivial | with_reducible refine And.intro ?_ ?_)); all_goals (repeat (first | (with_reducible refine ImpB.mk fun hb => ?_) | (with_reducible refine ImpK.mk fun hK => ?_) | (with_reducible refine ImpF.mk fun hF => ?_) | (with_reducible refine ImpQ.mk fun hp => ?_) | (with_reducible refine AllE.mk fun p => ?_) | (with_reducible refine AllR.mk fun rest => ?_) | (with_reducible refine AllK.mk fun K => ?_))))); repeat' (with_reducible refine And.intro ?_ ?_))
      all_goals first | exact hzi | omega | skip
      any_goals ((try (refine w_seq fun K hK => ?_)); (try (refine w_block ?_)); refine w_loop (A := Bool × List Int) (fun p => (p.1 = false ∧ p.2 = ys) ∨ (p.1 = true ∧ p.2 = srt (keyJ l) xs)) (fun p => if p.1 then 0 else 1) (fun p => [(6, .int .i64 (if p.1 then 40 else 20))]) (fun p => [(0, .rows .int p.2), (1, bxJ l)]) ((false, ys)) (ws := ?ws2) (tk := ?tk2) ?hw2 ?ht2 ?hi_1 ?h0_1 ?LH2; (case hw2 => simp only [go_sem, decide_true, decide_false, Int.reduceToNat, Nat.min_eq_left, Nat.min_eq_right, Int.reducePow, Nat.reducePow, Int.reduceLE, Int.reduceLT, Int.reduceMul, Int.reduceAdd, Int.reduceSub, Int.reduceNeg, Bool.not_true, Bool.not_false, Bool.not_not, ↓reduceIte, Nat.reduceAdd, Nat.reduceSub, Nat.reduceMul, Nat.reduceEqDiff, reduceCtorEq, Nat.reduceLT, Nat.reduceLeDiff, Nat.reduceGT]; exact rfl); (case ht2 => simp only [go_sem, decide_true, decide_false, Int.reduceToNat, Nat.min_eq_left, Nat.min_eq_right, Int.reducePow, Nat.reducePow, Int.reduceLE, Int.reduceLT, Int.reduceMul, Int.reduceAdd, Int.reduceSub, Int.reduceNeg, Bool.not_true, Bool.not_false, Bool.not_not, ↓reduceIte, Nat.reduceAdd, Nat.reduceSub, Nat.reduceMul, Nat.reduceEqDiff, reduceCtorEq, Nat.reduceLT, Nat.reduceLeDiff, Nat.reduceGT]; exact rfl); (case' LH2 => rintro ⟨d, vs⟩ E t hx hE ht; simp only [go_sem] at ht; subst ht; simp only [go_sem]; try dsimp only at hx))
      case hi_1 => exact .inl ⟨rfl, rfl⟩
      case h0_1 => (focus (refine ⟨_, _, Gh.refl, [0, 1], rfl, ?_⟩; (refine ⟨?_, ?_, ?_⟩ <;> simp only [go_sem, List.range, List.range.loop, List.nodup_cons, List.nodup_nil, List.mem_cons, List.not_mem_nil, or_false, or_self, decide_true, decide_false, Int.reduceToNat, Nat.min_eq_left, Nat.min_eq_right, Int.reducePow, Nat.reducePow, Int.reduceLE, Int.reduceLT, Int.reduceMul, Int.reduceAdd, Int.reduceSub, Int.reduceNeg, Bool.not_true, Bool.not_false, Bool.not_not, ↓reduceIte, Nat.reduceAdd, Nat.reduceSub, Nat.reduceMul, Nat.reduceEqDiff, reduceCtorEq, Nat.reduceLT, Nat.reduceLeDiff, Nat.reduceGT]); (try any_goals (refine ⟨?_, ?_⟩)); (try any_goals (with_reducible rfl)))); (all_goals first | exact rfl | exact e2.symm)
      case LH2 =>
        rcases hx with ⟨h1, h2⟩ | ⟨h1, h2⟩
        · obtain rfl : d = false := h1
          obtain rfl : vs = ys := h2
          (all_goals (try ((first | (with_reducible refine wp_id ?_) | (with_reducible refine does_id ?_) | (with_reducible refine ops_id ?_)); refine walk ?_; (repeat' (first | exact trivial | with_reducible refine And.intro ?_ ?_)); all_goals (repeat (first | (with_reducible refine ImpB.mk fun hb => ?_) | (with_reducible refine ImpK.mk fun hK => ?_) | (with_reducible refine ImpF.mk fun hF => ?_) | (with_reducible refine ImpQ.mk fun hp => ?_) | (with_reducible refine AllE.mk fun p => ?_) | (with_reducible refine AllR.mk fun rest => ?_) | (with_reducible refine AllK.mk fun K => ?_))))); repeat' (with_reducible refine And.intro ?_ ?_))
          any_goals ((try (refine w_seq fun K hK => ?_)); (try (refine w_block ?_)); refine w_loop (A := Nat) (fun _ => True) (fun _ => 0) (fun _ => [(6, .int .i64 20), (7, .int .i64 0), (8, .int .i64 40)]) (fun _ => [(0, .rows .int vs), (1, bxJ l)]) (0) (ws := ?ws3) (tk := ?tk3) ?hw3 ?ht3 ?hi_2 ?h0_2 ?LH3; (case hw3 => simp only [go_sem, decide_true, decide_false, Int.reduceToNat, Nat.min_eq_left, Nat.min_eq_right, Int.reducePow, Nat.reducePow, Int.reduceLE, Int.reduceLT, Int.reduceMul, Int.reduceAdd, Int.reduceSub, Int.reduceNeg, Bool.not_true, Bool.not_false, Bool.not_not, ↓reduceIte, Nat.reduceAdd, Nat.reduceSub, Nat.reduceMul, Nat.reduceEqDiff, reduceCtorEq, Nat.reduceLT, Nat.reduceLeDiff, Nat.reduceGT]; exact rfl); (case ht3 => simp only [go_sem, decide_true, decide_false, Int.reduceToNat, Nat.min_eq_left, Nat.min_eq_right, Int.reducePow, Nat.reducePow, Int.reduceLE, Int.reduceLT, Int.reduceMul, Int.reduceAdd, Int.reduceSub, Int.reduceNeg, Bool.not_true, Bool.not_false, Bool.not_not, ↓reduceIte, Nat.reduceAdd, Nat.reduceSub, Nat.reduceMul, Nat.reduceEqDiff, reduceCtorEq, Nat.reduceLT, Nat.reduceLeDiff, Nat.reduceGT]; exact rfl); (case' LH3 => rintro k E t hx hE ht; simp only [go_sem] at ht; subst ht; simp only [go_sem]; try dsimp only at hx))
          case hi_2 => exact trivial
          case h0_2 => (focus (refine ⟨_, _, Gh.refl, [0, 1], rfl, ?_⟩; (refine ⟨?_, ?_, ?_⟩ <;> simp only [go_sem, List.range, List.range.loop, List.nodup_cons, List.nodup_nil, List.mem_cons, List.not_mem_nil, or_false, or_self, decide_true, decide_false, Int.reduceToNat, Nat.min_eq_left, Nat.min_eq_right, Int.reducePow, Nat.reducePow, Int.reduceLE, Int.reduceLT, Int.reduceMul, Int.reduceAdd, Int.reduceSub, Int.reduceNeg, Bool.not_true, Bool.not_false, Bool.not_not, ↓reduceIte, Nat.reduceAdd, Nat.reduceSub, Nat.reduceMul, Nat.reduceEqDiff, reduceCtorEq, Nat.reduceLT, Nat.reduceLeDiff, Nat.reduceGT]); (try any_goals (refine ⟨?_, ?_⟩)); (try any_goals (with_reducible rfl)))); all_goals exact rfl
          case LH3 =>
            have w1 : IntKind.i64.wrap 20 = 20 := rfl
            have w2 : IntKind.i64.wrap 40 = 40 := rfl
            (have zx1 := @w1; have zx2 := @w2; have zx3 := @e3; all_goals (try ((first | (with_reducible refine wp_id ?_) | (with_reducible refine does_id ?_) | (with_reducible refine ops_id ?_)); refine walk ?_; (repeat' (first | exact trivial | with_reducible refine And.intro ?_ ?_)); all_goals (repeat (first | (with_reducible refine ImpB.mk fun hb => ?_) | (with_reducible refine ImpK.mk fun hK => ?_) | (with_reducible refine ImpF.mk fun hF => ?_) | (with_reducible refine ImpQ.mk fun hp => ?_) | (with_reducible refine AllE.mk fun p => ?_) | (with_reducible refine AllR.mk fun rest => ?_) | (with_reducible refine AllK.mk fun K => ?_))))); repeat' (with_reducible refine And.intro ?_ ?_))
            all_goals first | exact hzi | exact hza | omega | skip
            refine ⟨(true, srt (keyJ l) xs), ⟨.inr ⟨rfl, rfl⟩, Nat.zero_lt_one⟩, ?_⟩
            (focus (refine ⟨_, _, Gh.refl, [0, 1], rfl, ?_⟩; (refine ⟨?_, ?_, ?_⟩ <;> simp only [go_sem, List.range, List.range.loop, List.nodup_cons, List.nodup_nil, List.mem_cons, List.not_mem_nil, or_false, or_self, decide_true, decide_false, Int.reduceToNat, Nat.min_eq_left, Nat.min_eq_right, Int.reducePow, Nat.reducePow, Int.reduceLE, Int.reduceLT, Int.reduceMul, Int.reduceAdd, Int.reduceSub, Int.reduceNeg, Bool.not_true, Bool.not_false, Bool.not_not, ↓reduceIte, Nat.reduceAdd, Nat.reduceSub, Nat.reduceMul, Nat.reduceEqDiff, reduceCtorEq, Nat.reduceLT, Nat.reduceLeDiff, Nat.reduceGT]); (try any_goals (refine ⟨?_, ?_⟩)); (try any_goals (with_reducible rfl))))
            all_goals first | exact rfl | exact e3.symm | trace_state
        · obtain rfl : d = true := h1
          have hv : vs = srt (keyJ l) xs := h2
          subst hv
          (all_goals (try ((first | (with_reducible refine wp_id ?_) | (with_reducible refine does_id ?_) | (with_reducible refine ops_id ?_)); refine walk ?_; (repeat' (first | exact trivial | with_reducible refine And.intro ?_ ?_)); all_goals (repeat (first | (with_reducible refine ImpB.mk fun hb => ?_) | (with_reducible refine ImpK.mk fun hK => ?_) | (with_reducible refine ImpF.mk fun hF => ?_) | (with_reducible refine ImpQ.mk fun hp => ?_) | (with_reducible refine AllE.mk fun p => ?_) | (with_reducible refine AllR.mk fun rest => ?_) | (with_reducible refine AllK.mk fun K => ?_))))); repeat' (with_reducible refine And.intro ?_ ?_))
          (focus (refine ⟨_, _, Gh.refl, [0, 1], rfl, ?_⟩; (refine ⟨?_, ?_, ?_⟩ <;> simp only [go_sem, List.range, List.range.loop, List.nodup_cons, List.nodup_nil, List.mem_cons, List.not_mem_nil, or_false, or_self, decide_true, decide_false, Int.reduceToNat, Nat.min_eq_left, Nat.min_eq_right, Int.reducePow, Nat.reducePow, Int.reduceLE, Int.reduceLT, Int.reduceMul, Int.reduceAdd, Int.reduceSub, Int.reduceNeg, Bool.not_true, Bool.not_false, Bool.not_not, ↓reduceIte, Nat.reduceAdd, Nat.reduceSub, Nat.reduceMul, Nat.reduceEqDiff, reduceCtorEq, Nat.reduceLT, Nat.reduceLeDiff, Nat.reduceGT]); (try any_goals (refine ⟨?_, ?_⟩)); (try any_goals (with_reducible rfl))))
theorem c_stab {h : List Ch} {K : KT} {l : List Job} {xs : List Int} {x : Int} {n t u : Nat} (H : K (.tup []) (h.set t (.rows .int (srt (keyJ l) xs)))) (o : hth h t = .rows .int xs) (o1 : hth h u = bxJ l) (s1 : ∀ x ∈ xs, inJ l x) (s2 : x = n) (s3 : n = xs.length) (s4 : xs.length ≤ 21) : Does Try.prog 38 [.sl t .int 0 n, .int .i64 x, .fn 19 [.ptr u 0]] h K := by
  by_cases h20 : xs.length ≤ 20
  · exact k_stab20 H o o1 s1 s2 s3 h20
  have h21 : xs.length = 21 := by omega
  have hne : t ≠ u := fun e => by rw [e, o1] at o; cases o
  have hb := b_stab21 l xs s1 h21
  rw [s2, s3, h21]
  refine frame_two0 (ret' := .tup []) hb o o1 hne (by simp) (by simp) (fitC_rows _ _) (fun σ => ?_) (br_cons (br_own rfl) (br_cons br_int (br_cons (br_clo rfl) br_nil))) rfl (fun _ => rfl) (fun _ => rfl) rfl ?_
  · simp only [fitC, fitL, fitA, asE_self, and_self]
  · rw [set_hth (by rw [hth_set_ne hne]; exact o1) (by simp)]
    exact H
abbrev i_stab := Ctr.mk (i := 0) (g := 38) @c_stab
attribute [instance] i_stab
theorem b_sts (l : List Job) (xs : List Int) (hi : ∀ x ∈ xs, inJ l x) (hl : xs.length ≤ 21) : DoesK Try.prog 2 18 [.sl 0 .int 0 xs.length, .fn 19 [.ptr 1 0]] [.rows .int xs, bxJ l]
    (EndF 2 (.tup []) ([.rows .int (srt (keyJ l) xs), bxJ l] ++ [])) := by
  refine DoesK.close ?_
  refine w_body (rs := []) (tm := [.sl 0 .int 0 xs.length, .fn 19 [.ptr 1 0], .any, .any, .any, .any, .any, .any, .any]) fn_18 rfl rfl rfl rfl fun R hR => ?_
  (all_goals (try ((first | (with_reducible refine wp_id ?_) | (with_reducible refine does_id ?_) | (with_reducible refine ops_id ?_)); refine walk ?_; (repeat' (first | exact trivial | with_reducible refine And.intro ?_ ?_)); all_goals (repeat (first | (with_reducible refine ImpB.mk fun hb => ?_) | (with_reducible refine ImpK.mk fun hK => ?_) | (with_reducible refine ImpF.mk fun hF => ?_) | (with_reducible refine ImpQ.mk fun hp => ?_) | (with_reducible refine AllE.mk fun p => ?_) | (with_reducible refine AllR.mk fun rest => ?_) | (with_reducible refine AllK.mk fun K => ?_))))); repeat' (with_reducible refine And.intro ?_ ?_))
  all_goals first | exact hi | omega | skip
  (focus (refine ⟨_, _, Gh.refl, [0, 1], rfl, ?_⟩; (refine ⟨?_, ?_, ?_⟩ <;> simp only [go_sem, List.range, List.range.loop, List.nodup_cons, List.nodup_nil, List.mem_cons, List.not_mem_nil, or_false, or_self, decide_true, decide_false, Int.reduceToNat, Nat.min_eq_left, Nat.min_eq_right, Int.reducePow, Nat.reducePow, Int.reduceLE, Int.reduceLT, Int.reduceMul, Int.reduceAdd, Int.reduceSub, Int.reduceNeg, Bool.not_true, Bool.not_false, Bool.not_not, ↓reduceIte, Nat.reduceAdd, Nat.reduceSub, Nat.reduceMul, Nat.reduceEqDiff, reduceCtorEq, Nat.reduceLT, Nat.reduceLeDiff, Nat.reduceGT]); (try any_goals (refine ⟨?_, ?_⟩)); (try any_goals (with_reducible rfl))))
theorem c_sts {h : List Ch} {K : KT} {l : List Job} {xs : List Int} {n t u : Nat} (H : K (.tup []) (h.set t (.rows .int (srt (keyJ l) xs)))) (o : hth h t = .rows .int xs) (o1 : hth h u = bxJ l) (s1 : ∀ x ∈ xs, inJ l x) (s3 : n = xs.length) (s4 : xs.length ≤ 21) : Does Try.prog 18 [.sl t .int 0 n, .fn 19 [.ptr u 0]] h K := by
  have hne : t ≠ u := fun e => by rw [e, o1] at o; cases o
  have hb := b_sts l xs s1 s4
  rw [s3]
  refine frame_two0 (ret' := .tup []) hb o o1 hne (by simp) (by simp) (fitC_rows _ _) (fun σ => ?_) (br_cons (br_own rfl) (br_cons (br_clo rfl) br_nil)) rfl (fun _ => rfl) (fun _ => rfl) rfl ?_
  · simp only [fitC, fitL, fitA, asE_self, and_self]
  · rw [set_hth (by rw [hth_set_ne hne]; exact o1) (by simp)]
    exact H
abbrev i_sts := Ctr.mk (i := 0) (g := 18) @c_sts
attribute [instance] i_sts
end Go.V
