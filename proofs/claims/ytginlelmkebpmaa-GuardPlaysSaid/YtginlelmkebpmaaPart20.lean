/-
  The guard's specification: Tick.
  The guard: contracts over the object as one chunk; Clone.
  The guard: GuardUnits.
-/
import Derived.Test.YtginlelmkebpmaaPart19
set_option linter.unusedVariables false
set_option linter.unusedSimpArgs false
set_option maxRecDepth 100000
set_option maxHeartbeats 16000000
namespace Go.V
open Go.Proofs Go.Lib
section
variable (W S P now A H0 : Int) (rt : Int) (un : List Pr) (br vi : List Int) (al : Bool)
theorem b_rtick7 (n : Int) (ok : OkR ⟨W, S, P, now, A, H0, rt, un, br, vi, al⟩) (c1 : W ≤ atT now n - A) (c2 : S ≤ atT now n - H0) (c3 : rt < 0) : DoesK Try.prog 0 19 [.agg (RL ⟨W, S, P, now, A, H0, rt, un, br, vi, al⟩), .int .i64 n] [] (EndF 0 (.tup [.agg (RL (tickR ⟨W, S, P, now, A, H0, rt, un, br, vi, al⟩ n)), .ro .rcy (tickRO ⟨W, S, P, now, A, H0, rt, un, br, vi, al⟩ n)]) []) := by
  refine DoesK.close ?_
  have h1 := atT_ok (n := n) ok.now
  have h2 := ok.A
  have h3 := ok.H
  have h4 := ok.rt
  have h5 := ok.lst
  have h6 := ok.br
  have h7 := ok.vi
  have h9 := ok.un
  dsimp only at h1 h2 h3 h4 h5 h6 h7 h9
  have h8 := sdl_len br
  have d1 : decide (W ≤ atT now n - A) = true := decide_eq_true c1
  have d2 : decide (S ≤ atT now n - H0) = true := decide_eq_true c2
  have w1 : IntKind.i64.wrap (atT now n - A) = atT now n - A := wrap_i64 _ (by omega) (by omega)
  have w2 : IntKind.i64.wrap (atT now n - H0) = atT now n - H0 := wrap_i64 _ (by omega) (by omega)
  have d3 : decide (rt < 0) = true := decide_eq_true c3
  have q1 : wdR ⟨W, S, P, now, A, H0, rt, un, br, vi, al⟩ n = true := d1
  have q2 : silR ⟨W, S, P, now, A, H0, rt, un, br, vi, al⟩ n = true := by
    unfold silR
    dsimp only
    rw [d2, d3]
    rfl
  have q3 : tickR ⟨W, S, P, now, A, H0, rt, un, br, vi, al⟩ n = ⟨W, S, P, atT now n, atT now n, H0, atT now n, putR (atT now n) un (frR ⟨W, S, P, now, A, H0, rt, un, br, vi, al⟩ n), [], [], false⟩ := by
    unfold tickR
    rw [q1, q2]
    rfl
  have q4 : ∀ sf, safeR ⟨W, S, P, now, A, H0, rt, un, br, vi, al⟩ n = sf → tickRO ⟨W, S, P, now, A, H0, rt, un, br, vi, al⟩ n = ([⟨atT now n, 3, 0⟩, ⟨atT now n, 4, 0⟩] : List Rcy) ++ outU (atT now n) (frR ⟨W, S, P, now, A, H0, rt, un, br, vi, al⟩ n) ++ (if sf then [⟨atT now n, 1, 0⟩] else []) := fun sf hs => by
    unfold tickRO tkO
    rw [q1, q2, hs]
    rfl
  have q5 : safeR ⟨W, S, P, now, A, H0, rt, un, br, vi, al⟩ n = (true || (frR ⟨W, S, P, now, A, H0, rt, un, br, vi, al⟩ n).any (hasZ vi)) := by
    unfold safeR
    rw [q2]
    dsimp only
    rw [Bool.or_true]
  rw [q3]
  have hl0 : leastF br [] = leastF br ((sdl br).take 0) := rfl
  refine w_body (rs := [.cell 4 45, .tmp 5]) (tm := [.agg (RL ⟨W, S, P, now, A, H0, rt, un, br, vi, al⟩), .int .i64 n, .any, .any, .any, .any, .any, .any, .any, .any, .any, .any, .any, .any, .any, .any, .any, .any, .any, .any, .any, .any, .any, .any, .any, .any, .any, .any, .any, .any, .any, .any, .any, .any, .any, .any, .any, .any, .any, .any, .any, .any, .any, .any, .any, .any, .any, .any, .any, .any, .any, .any, .any, .any, .any, .any, .any, .any, .any, .any, .any, .any, .any, .any, .any, .any, .any, .any, .any, .any, .any, .any, .any, .any, .any, .any, .any, .any, .any, .any, .any, .any, .any, .any, .any, .any, .any, .any, .any, .any, .any, .any, .any, .any, .any, .any, .any, .any, .any, .any, .any, .any, .any, .any, .any, .any, .any, .any, .any, .any, .any, .any, .any, .any, .any, .any, .any, .any, .any, .any, .any, .any, .any, .any, .any, .any, .any, .any, .any, .any, .any, .any, .any, .any, .any, .any, .any, .any, .any, .any]) fn_19 rfl rfl rfl rfl fun R hR => ?_
  (have zx1 := @d1; have zx2 := @d2; have zx3 := @w1; have zx4 := @w2; have zx5 := @d3; all_goals (try ((first | (with_reducible refine wp_id ?_) | (with_reducible refine does_id ?_) | (with_reducible refine ops_id ?_)); refine walk ?_; (repeat' (first | exact trivial | with_reducible refine And.intro ?_ ?_)); all_goals (repeat (first | (with_reducible refine ImpB.mk fun hb => ?_) | (with_reducible refine ImpK.mk fun hK => ?_) | (with_reducible refine ImpF.mk fun hF => ?_) | (with_reducible refine ImpQ.mk fun hp => ?_) | (with_reducible refine AllE.mk fun p => ?_) | (with_reducible refine AllR.mk fun rest => ?_) | (with_reducible refine AllK.mk fun K => ?_))))); repeat' (with_reducible refine And.intro ?_ ?_))
  all_goals first | omega | skip
  refine Wp.ghost (gh_adopt (s := 8) .int trivial) ?_
  simp only [go_sem, decide_true, decide_false, Int.reduceToNat, Nat.min_eq_left, Nat.min_eq_right, Int.reducePow, Nat.reducePow, Int.reduceLE, Int.reduceLT, Int.reduceMul, Int.reduceAdd, Int.reduceSub, Int.reduceNeg, Bool.not_true, Bool.not_false, Bool.not_not, ↓reduceIte, Nat.reduceAdd, Nat.reduceSub, Nat.reduceMul, Nat.reduceEqDiff, reduceCtorEq, Nat.reduceLT, Nat.reduceLeDiff, Nat.reduceGT]
  any_goals ((try (refine w_seq fun K hK => ?_)); (try (refine w_block ?_)); refine w_loop (A := Nat) (fun k => k ≤ (sdl br).length) (fun k => (sdl br).length - k) (fun k => [(31, .any), (60, .any), (65, .any), (6, .sl 5 .rcy 0 (([⟨atT now n, 3, 0⟩, ⟨atT now n, 4, 0⟩] : List Rcy) ++ outU (atT now n) (frd (dueR P (atT now n) un) (sdl br) k)).length), (8, .sl 6 .int 0 k), (9, .int .i64 (leastF br ((sdl br).take k)).1), (10, .bool (leastF br ((sdl br).take k)).2), (7, .bool (true || (frd (dueR P (atT now n) un) (sdl br) k).any (hasZ vi)))]) (fun k => [(0, .cells (RL ⟨W, S, P, atT now n, atT now n, H0, atT now n, putR (atT now n) un (frd (dueR P (atT now n) un) (sdl br) k), br, vi, al⟩)), (2, .gone), (3, .gone), (4, .gone), (5, .rows .rcy (([⟨atT now n, 3, 0⟩, ⟨atT now n, 4, 0⟩] : List Rcy) ++ outU (atT now n) (frd (dueR P (atT now n) un) (sdl br) k))), (6, .rows .int ((sdl br).take k))]) (0) (ws := ?ws1) (tk := ?tk1) ?hw1 ?ht1 ?hi ?h0 ?LH1; (case hw1 => simp only [go_sem, decide_true, decide_false, Int.reduceToNat, Nat.min_eq_left, Nat.min_eq_right, Int.reducePow, Nat.reducePow, Int.reduceLE, Int.reduceLT, Int.reduceMul, Int.reduceAdd, Int.reduceSub, Int.reduceNeg, Bool.not_true, Bool.not_false, Bool.not_not, ↓reduceIte, Nat.reduceAdd, Nat.reduceSub, Nat.reduceMul, Nat.reduceEqDiff, reduceCtorEq, Nat.reduceLT, Nat.reduceLeDiff, Nat.reduceGT]; exact rfl); (case ht1 => simp only [go_sem, decide_true, decide_false, Int.reduceToNat, Nat.min_eq_left, Nat.min_eq_right, Int.reducePow, Nat.reducePow, Int.reduceLE, Int.reduceLT, Int.reduceMul, Int.reduceAdd, Int.reduceSub, Int.reduceNeg, Bool.not_true, Bool.not_false, Bool.not_not, ↓reduceIte, Nat.reduceAdd, Nat.reduceSub, Nat.reduceMul, Nat.reduceEqDiff, reduceCtorEq, Nat.reduceLT, Nat.reduceLeDiff, Nat.reduceGT]; exact rfl); (case' LH1 => rintro k E t hx hE ht; simp only [go_sem] at ht; subst ht; simp only [go_sem]; try dsimp only at hx))
  case hi => exact Nat.zero_le _
  case h0 =>
    (focus (refine ⟨_, _, Gh.refl, [0, 1, 2, 3, 4, 5, 6], rfl, ?_⟩; (refine ⟨?_, ?_, ?_⟩ <;> simp only [go_sem, List.range, List.range.loop, List.nodup_cons, List.nodup_nil, List.mem_cons, List.not_mem_nil, or_false, or_self, decide_true, decide_false, Int.reduceToNat, Nat.min_eq_left, Nat.min_eq_right, Int.reducePow, Nat.reducePow, Int.reduceLE, Int.reduceLT, Int.reduceMul, Int.reduceAdd, Int.reduceSub, Int.reduceNeg, Bool.not_true, Bool.not_false, Bool.not_not, ↓reduceIte, Nat.reduceAdd, Nat.reduceSub, Nat.reduceMul, Nat.reduceEqDiff, reduceCtorEq, Nat.reduceLT, Nat.reduceLeDiff, Nat.reduceGT]); (try any_goals (refine ⟨?_, ?_⟩)); (try any_goals (with_reducible rfl))))
    all_goals (repeat' (first | (refine And.intro ?_ ?_) | rfl | (simp [frd]; done) | (simp [frd, outU, putR]; done)))
  case LH1 =>
    have hk0 : k ≤ (sdl br).length := hx
    have hpl : (putR (atT now n) un (frd (dueR P (atT now n) un) (sdl br) k)).length ≤ 1100000 := by
      unfold putR; rw [List.length_append, List.length_map]
      have := frd_len (due := (dueR P (atT now n) un)) (sd := sdl br) (k := k)
      omega
    have hol : (outU (atT now n) (frd (dueR P (atT now n) un) (sdl br) k)).length ≤ k := by unfold outU; rw [List.length_map]; exact frd_len
    by_cases hk : k < (sdl br).length
    · have hla := least_at hk
      have hz := (zAt hk).symm
      have hlu : lastU (putR (atT now n) un (frd (dueR P (atT now n) un) (sdl br) k)) ((sdl br).getD k 0) = lastU un ((sdl br).getD k 0) := by
        rw [lastU_putR, if_neg (frd_new hk)]
      have hlt := h5 ((sdl br).getD k 0)
      have htl : ((sdl br).take k).length = k := by rw [List.length_take]; omega
      rw [hla]
      dsimp only
      by_cases c5 : 0 ≤ lastU un ((sdl br).getD k 0)
      · have d5 : decide (0 ≤ lastU un ((sdl br).getD k 0)) = true := decide_eq_true c5
        have w5 : IntKind.i64.wrap (atT now n - lastU un ((sdl br).getD k 0)) = atT now n - lastU un ((sdl br).getD k 0) := wrap_i64 _ (by omega) (by omega)
        by_cases c6 : atT now n - lastU un ((sdl br).getD k 0) < P
        · have d6 : decide (atT now n - lastU un ((sdl br).getD k 0) < P) = true := decide_eq_true c6
          have hdu : dueR P (atT now n) un ((sdl br).getD k 0) = false := by unfold dueR; rw [d5, d6]; rfl
          have hy := frd_no (due := (dueR P (atT now n) un)) hk hdu
          (have zx1 := @hlu; have zx2 := @d5; have zx3 := @w5; have zx4 := @d6; have zx5 := @hz; have zx6 := @htl; all_goals (try ((first | (with_reducible refine wp_id ?_) | (with_reducible refine does_id ?_) | (with_reducible refine ops_id ?_)); refine walk ?_; (repeat' (first | exact trivial | with_reducible refine And.intro ?_ ?_)); all_goals (repeat (first | (with_reducible refine ImpB.mk fun hb => ?_) | (with_reducible refine ImpK.mk fun hK => ?_) | (with_reducible refine ImpF.mk fun hF => ?_) | (with_reducible refine ImpQ.mk fun hp => ?_) | (with_reducible refine AllE.mk fun p => ?_) | (with_reducible refine AllR.mk fun rest => ?_) | (with_reducible refine AllK.mk fun K => ?_))))); repeat' (with_reducible refine And.intro ?_ ?_))
          all_goals first | omega | (rw [List.length_take]; omega) | skip
          all_goals (refine ⟨k + 1, ⟨by first | omega | (dsimp only; omega), by first | omega | (dsimp only; omega)⟩, ?_⟩)
          all_goals (focus (refine ⟨_, _, Gh.refl, [0, 1, 2, 3, 4, 5, 8], rfl, ?_⟩; (refine ⟨?_, ?_, ?_⟩ <;> simp only [go_sem, List.range, List.range.loop, List.nodup_cons, List.nodup_nil, List.mem_cons, List.not_mem_nil, or_false, or_self, decide_true, decide_false, Int.reduceToNat, Nat.min_eq_left, Nat.min_eq_right, Int.reducePow, Nat.reducePow, Int.reduceLE, Int.reduceLT, Int.reduceMul, Int.reduceAdd, Int.reduceSub, Int.reduceNeg, Bool.not_true, Bool.not_false, Bool.not_not, ↓reduceIte, Nat.reduceAdd, Nat.reduceSub, Nat.reduceMul, Nat.reduceEqDiff, reduceCtorEq, Nat.reduceLT, Nat.reduceLeDiff, Nat.reduceGT]); (try any_goals (refine ⟨?_, ?_⟩)); (try any_goals (with_reducible rfl))))
          all_goals (repeat' (first | (refine And.intro ?_ ?_) | rfl | (rw [hy]; done) | (rw [hy]; rfl)))
        · have d6 : decide (atT now n - lastU un ((sdl br).getD k 0) < P) = false := decide_eq_false c6
          have hdu : dueR P (atT now n) un ((sdl br).getD k 0) = true := by unfold dueR; rw [d5, d6]; rfl
          have hy := frd_yes (due := (dueR P (atT now n) un)) hk hdu
          (have zx1 := @hlu; have zx2 := @d5; have zx3 := @w5; have zx4 := @d6; have zx5 := @hz; have zx6 := @htl; all_goals (try ((first | (with_reducible refine wp_id ?_) | (with_reducible refine does_id ?_) | (with_reducible refine ops_id ?_)); refine walk ?_; (repeat' (first | exact trivial | with_reducible refine And.intro ?_ ?_)); all_goals (repeat (first | (with_reducible refine ImpB.mk fun hb => ?_) | (with_reducible refine ImpK.mk fun hK => ?_) | (with_reducible refine ImpF.mk fun hF => ?_) | (with_reducible refine ImpQ.mk fun hp => ?_) | (with_reducible refine AllE.mk fun p => ?_) | (with_reducible refine AllR.mk fun rest => ?_) | (with_reducible refine AllK.mk fun K => ?_))))); repeat' (with_reducible refine And.intro ?_ ?_))
          all_goals first | omega | (rw [List.length_take]; omega) | (simp only [List.length_append, List.length_cons, List.length_nil]; omega) | (exfalso; simp at hb; done) | skip
          all_goals (refine ⟨k + 1, ⟨by first | omega | (dsimp only; omega), by first | omega | (dsimp only; omega)⟩, ?_⟩)
          all_goals (focus (refine ⟨_, _, gh_frz (t := 13) (e := .pr) (xs := putR (atT now n) un (frd (dueR P (atT now n) un) (sdl br) k) ++ [⟨(sdl br).getD k 0, atT now n⟩]) rfl (by simp [frObL, frOb]) (by simp [frObH, frObC, frOb, frObL]), [0, 1, 2, 3, 4, 10, 8], rfl, ?_⟩; all_goals (refine ⟨?_, ?_, ?_⟩ <;> simp only [go_sem, List.range, List.range.loop, List.nodup_cons, List.nodup_nil, List.mem_cons, List.not_mem_nil, or_false, or_self, decide_true, decide_false, Int.reduceToNat, Nat.min_eq_left, Nat.min_eq_right, Int.reducePow, Nat.reducePow, Int.reduceLE, Int.reduceLT, Int.reduceMul, Int.reduceAdd, Int.reduceSub, Int.reduceNeg, Bool.not_true, Bool.not_false, Bool.not_not, ↓reduceIte, Nat.reduceAdd, Nat.reduceSub, Nat.reduceMul, Nat.reduceEqDiff, reduceCtorEq, Nat.reduceLT, Nat.reduceLeDiff, Nat.reduceGT]); (try any_goals (refine ⟨?_, ?_⟩)); (try any_goals (with_reducible rfl))))
          all_goals (repeat' (first | (refine And.intro ?_ ?_) | rfl | (rw [hy, any_snoc, ← Bool.or_assoc, hb]; done) | (rw [hy, any_snoc, ← Bool.or_assoc, hb]; rfl) | (rw [hy, outU_snoc]; first | done | rfl | (simp; done)) | (rw [hy, putR_snoc, List.take_of_length_le (by simp)])))
      · have d5 : decide (0 ≤ lastU un ((sdl br).getD k 0)) = false := decide_eq_false c5
        have hdu : dueR P (atT now n) un ((sdl br).getD k 0) = true := by unfold dueR; rw [d5]; rfl
        have hy := frd_yes (due := (dueR P (atT now n) un)) hk hdu
        (have zx1 := @hlu; have zx2 := @d5; have zx3 := @hz; have zx4 := @htl; all_goals (try ((first | (with_reducible refine wp_id ?_) | (with_reducible refine does_id ?_) | (with_reducible refine ops_id ?_)); refine walk ?_; (repeat' (first | exact trivial | with_reducible refine And.intro ?_ ?_)); all_goals (repeat (first | (with_reducible refine ImpB.mk fun hb => ?_) | (with_reducible refine ImpK.mk fun hK => ?_) | (with_reducible refine ImpF.mk fun hF => ?_) | (with_reducible refine ImpQ.mk fun hp => ?_) | (with_reducible refine AllE.mk fun p => ?_) | (with_reducible refine AllR.mk fun rest => ?_) | (with_reducible refine AllK.mk fun K => ?_))))); repeat' (with_reducible refine And.intro ?_ ?_))
        all_goals first | omega | (rw [List.length_take]; omega) | (simp only [List.length_append, List.length_cons, List.length_nil]; omega) | (exfalso; simp at hb; done) | skip
        all_goals (refine ⟨k + 1, ⟨by first | omega | (dsimp only; omega), by first | omega | (dsimp only; omega)⟩, ?_⟩)
        all_goals (focus (refine ⟨_, _, gh_frz (t := 13) (e := .pr) (xs := putR (atT now n) un (frd (dueR P (atT now n) un) (sdl br) k) ++ [⟨(sdl br).getD k 0, atT now n⟩]) rfl (by simp [frObL, frOb]) (by simp [frObH, frObC, frOb, frObL]), [0, 1, 2, 3, 4, 10, 8], rfl, ?_⟩; all_goals (refine ⟨?_, ?_, ?_⟩ <;> simp only [go_sem, List.range, List.range.loop, List.nodup_cons, List.nodup_nil, List.mem_cons, List.not_mem_nil, or_false, or_self, decide_true, decide_false, Int.reduceToNat, Nat.min_eq_left, Nat.min_eq_right, Int.reducePow, Nat.reducePow, Int.reduceLE, Int.reduceLT, Int.reduceMul, Int.reduceAdd, Int.reduceSub, Int.reduceNeg, Bool.not_true, Bool.not_false, Bool.not_not, ↓reduceIte, Nat.reduceAdd, Nat.reduceSub, Nat.reduceMul, Nat.reduceEqDiff, reduceCtorEq, Nat.reduceLT, Nat.reduceLeDiff, Nat.reduceGT]); (try any_goals (refine ⟨?_, ?_⟩)); (try any_goals (with_reducible rfl))))
        all_goals (repeat' (first | (refine And.intro ?_ ?_) | rfl | (rw [hy, any_snoc, ← Bool.or_assoc, hb]; done) | (rw [hy, any_snoc, ← Bool.or_assoc, hb]; rfl) | (rw [hy, outU_snoc]; first | done | rfl | (simp; done)) | (rw [hy, putR_snoc, List.take_of_length_le (by simp)])))
    · obtain rfl : k = (sdl br).length := by omega
      have hfe : frd (dueR P (atT now n) un) (sdl br) (sdl br).length = frR ⟨W, S, P, now, A, H0, rt, un, br, vi, al⟩ n := frd_end
      have hle := least_end br
      rw [hfe, hle]
      dsimp only
      have hol2 : (outU (atT now n) (frR ⟨W, S, P, now, A, H0, rt, un, br, vi, al⟩ n)).length ≤ br.length := by
        unfold outU; rw [List.length_map]; unfold frR; exact Nat.le_trans (List.length_filter_le _ _) h8
      cases hsf : (true || (frR ⟨W, S, P, now, A, H0, rt, un, br, vi, al⟩ n).any (hasZ vi))
      · (have zx1 := @hsf; all_goals (try ((first | (with_reducible refine wp_id ?_) | (with_reducible refine does_id ?_) | (with_reducible refine ops_id ?_)); refine walk ?_; (repeat' (first | exact trivial | with_reducible refine And.intro ?_ ?_)); all_goals (repeat (first | (with_reducible refine ImpB.mk fun hb => ?_) | (with_reducible refine ImpK.mk fun hK => ?_) | (with_reducible refine ImpF.mk fun hF => ?_) | (with_reducible refine ImpQ.mk fun hp => ?_) | (with_reducible refine AllE.mk fun p => ?_) | (with_reducible refine AllR.mk fun rest => ?_) | (with_reducible refine AllK.mk fun K => ?_))))); repeat' (with_reducible refine And.intro ?_ ?_))
        all_goals first | omega | skip
        rw [q4 false (q5.trans hsf)]
        (focus (refine ⟨_, _, gh_frz (t := 5) (e := .rcy) (xs := ([⟨atT now n, 3, 0⟩, ⟨atT now n, 4, 0⟩] : List Rcy) ++ outU (atT now n) (frR ⟨W, S, P, now, A, H0, rt, un, br, vi, al⟩ n)) rfl (by simp [frObL, frOb]) (by simp [frObH, frObC, frOb, frObL]), [], rfl, ?_⟩; all_goals (refine ⟨?_, ?_, ?_⟩ <;> simp only [go_sem, List.range, List.range.loop, List.nodup_cons, List.nodup_nil, List.mem_cons, List.not_mem_nil, or_false, or_self, decide_true, decide_false, Int.reduceToNat, Nat.min_eq_left, Nat.min_eq_right, Int.reducePow, Nat.reducePow, Int.reduceLE, Int.reduceLT, Int.reduceMul, Int.reduceAdd, Int.reduceSub, Int.reduceNeg, Bool.not_true, Bool.not_false, Bool.not_not, ↓reduceIte, Nat.reduceAdd, Nat.reduceSub, Nat.reduceMul, Nat.reduceEqDiff, reduceCtorEq, Nat.reduceLT, Nat.reduceLeDiff, Nat.reduceGT]); (try any_goals (refine ⟨?_, ?_⟩)); (try any_goals (with_reducible rfl))))
        all_goals (repeat' (first | (refine And.intro ?_ ?_) | rfl | (simp [frL, frA, asE]; done) | exact (tk_self _ _).symm | (refine congrArg (List.cons _) ?_)))
      · (have zx1 := @hsf; all_goals (try ((first | (with_reducible refine wp_id ?_) | (with_reducible refine does_id ?_) | (with_reducible refine ops_id ?_)); refine walk ?_; (repeat' (first | exact trivial | with_reducible refine And.intro ?_ ?_)); all_goals (repeat (first | (with_reducible refine ImpB.mk fun hb => ?_) | (with_reducible refine ImpK.mk fun hK => ?_) | (with_reducible refine ImpF.mk fun hF => ?_) | (with_reducible refine ImpQ.mk fun hp => ?_) | (with_reducible refine AllE.mk fun p => ?_) | (with_reducible refine AllR.mk fun rest => ?_) | (with_reducible refine AllK.mk fun K => ?_))))); repeat' (with_reducible refine And.intro ?_ ?_))
        all_goals first | omega | (simp only [List.length_append, List.length_cons, List.length_nil]; omega) | skip
        rw [q4 true (q5.trans hsf)]
        (focus (refine ⟨_, _, gh_frz (t := 8) (e := .rcy) (xs := ([⟨atT now n, 3, 0⟩, ⟨atT now n, 4, 0⟩] : List Rcy) ++ outU (atT now n) (frR ⟨W, S, P, now, A, H0, rt, un, br, vi, al⟩ n) ++ [⟨atT now n, 1, 0⟩]) rfl (by simp [frObL, frOb]) (by simp [frObH, frObC, frOb, frObL]), [], rfl, ?_⟩; all_goals (refine ⟨?_, ?_, ?_⟩ <;> simp only [go_sem, List.range, List.range.loop, List.nodup_cons, List.nodup_nil, List.mem_cons, List.not_mem_nil, or_false, or_self, decide_true, decide_false, Int.reduceToNat, Nat.min_eq_left, Nat.min_eq_right, Int.reducePow, Nat.reducePow, Int.reduceLE, Int.reduceLT, Int.reduceMul, Int.reduceAdd, Int.reduceSub, Int.reduceNeg, Bool.not_true, Bool.not_false, Bool.not_not, ↓reduceIte, Nat.reduceAdd, Nat.reduceSub, Nat.reduceMul, Nat.reduceEqDiff, reduceCtorEq, Nat.reduceLT, Nat.reduceLeDiff, Nat.reduceGT]); (try any_goals (refine ⟨?_, ?_⟩)); (try any_goals (with_reducible rfl))))
        all_goals (repeat' (first | (refine And.intro ?_ ?_) | rfl | (simp [frL, frA, asE]; done) | exact (tk_self _ _).symm | (refine congrArg (List.cons _) ?_)))
theorem b_rtick8 (n : Int) (ok : OkR ⟨W, S, P, now, A, H0, rt, un, br, vi, al⟩) (c1 : W ≤ atT now n - A) (c2 : S ≤ atT now n - H0) (c3 : ¬ rt < 0) (c4 : P ≤ atT now n - rt) : DoesK Try.prog 0 19 [.agg (RL ⟨W, S, P, now, A, H0, rt, un, br, vi, al⟩), .int .i64 n] [] (EndF 0 (.tup [.agg (RL (tickR ⟨W, S, P, now, A, H0, rt, un, br, vi, al⟩ n)), .ro .rcy (tickRO ⟨W, S, P, now, A, H0, rt, un, br, vi, al⟩ n)]) []) := by
  refine DoesK.close ?_
  have h1 := atT_ok (n := n) ok.now
  have h2 := ok.A
  have h3 := ok.H
  have h4 := ok.rt
  have h5 := ok.lst
  have h6 := ok.br
  have h7 := ok.vi
  have h9 := ok.un
  dsimp only at h1 h2 h3 h4 h5 h6 h7 h9
  have h8 := sdl_len br
  have d1 : decide (W ≤ atT now n - A) = true := decide_eq_true c1
  have d2 : decide (S ≤ atT now n - H0) = true := decide_eq_true c2
  have w1 : IntKind.i64.wrap (atT now n - A) = atT now n - A := wrap_i64 _ (by omega) (by omega)
  have w2 : IntKind.i64.wrap (atT now n - H0) = atT now n - H0 := wrap_i64 _ (by omega) (by omega)
  have d3 : decide (rt < 0) = false := decide_eq_false c3
  have d4 : decide (P ≤ atT now n - rt) = true := decide_eq_true c4
  have w3 : IntKind.i64.wrap (atT now n - rt) = atT now n - rt := wrap_i64 _ (by omega) (by omega)
  have q1 : wdR ⟨W, S, P, now, A, H0, rt, un, br, vi, al⟩ n = true := d1
  have q2 : silR ⟨W, S, P, now, A, H0, rt, un, br, vi, al⟩ n = true := by
    unfold silR
    dsimp only
    rw [d2, d3, d4]
    rfl
  have q3 : tickR ⟨W, S, P, now, A, H0, rt, un, br, vi, al⟩ n = ⟨W, S, P, atT now n, atT now n, H0, atT now n, putR (atT now n) un (frR ⟨W, S, P, now, A, H0, rt, un, br, vi, al⟩ n), [], [], false⟩ := by
    unfold tickR
    rw [q1, q2]
    rfl
  have q4 : ∀ sf, safeR ⟨W, S, P, now, A, H0, rt, un, br, vi, al⟩ n = sf → tickRO ⟨W, S, P, now, A, H0, rt, un, br, vi, al⟩ n = ([⟨atT now n, 3, 0⟩, ⟨atT now n, 4, 0⟩] : List Rcy) ++ outU (atT now n) (frR ⟨W, S, P, now, A, H0, rt, un, br, vi, al⟩ n) ++ (if sf then [⟨atT now n, 1, 0⟩] else []) := fun sf hs => by
    unfold tickRO tkO
    rw [q1, q2, hs]
    rfl
  have q5 : safeR ⟨W, S, P, now, A, H0, rt, un, br, vi, al⟩ n = (true || (frR ⟨W, S, P, now, A, H0, rt, un, br, vi, al⟩ n).any (hasZ vi)) := by
    unfold safeR
    rw [q2]
    dsimp only
    rw [Bool.or_true]
  rw [q3]
  have hl0 : leastF br [] = leastF br ((sdl br).take 0) := rfl
  refine w_body (rs := [.cell 4 45, .tmp 5]) (tm := [.agg (RL ⟨W, S, P, now, A, H0, rt, un, br, vi, al⟩), .int .i64 n, .any, .any, .any, .any, .any, .any, .any, .any, .any, .any, .any, .any, .any, .any, .any, .any, .any, .any, .any, .any, .any, .any, .any, .any, .any, .any, .any, .any, .any, .any, .any, .any, .any, .any, .any, .any, .any, .any, .any, .any, .any, .any, .any, .any, .any, .any, .any, .any, .any, .any, .any, .any, .any, .any, .any, .any, .any, .any, .any, .any, .any, .any, .any, .any, .any, .any, .any, .any, .any, .any, .any, .any, .any, .any, .any, .any, .any, .any, .any, .any, .any, .any, .any, .any, .any, .any, .any, .any, .any, .any, .any, .any, .any, .any, .any, .any, .any, .any, .any, .any, .any, .any, .any, .any, .any, .any, .any, .any, .any, .any, .any, .any, .any, .any, .any, .any, .any, .any, .any, .any, .any, .any, .any, .any, .any, .any, .any, .any, .any, .any, .any, .any, .any, .any, .any, .any, .any, .any]) fn_19 rfl rfl rfl rfl fun R hR => ?_
  (have zx1 := @d1; have zx2 := @d2; have zx3 := @w1; have zx4 := @w2; have zx5 := @d3; have zx6 := @d4; have zx7 := @w3; all_goals (try ((first | (with_reducible refine wp_id ?_) | (with_reducible refine does_id ?_) | (with_reducible refine ops_id ?_)); refine walk ?_; (repeat' (first | exact trivial | with_reducible refine And.intro ?_ ?_)); all_goals (repeat (first | (with_reducible refine ImpB.mk fun hb => ?_) | (with_reducible refine ImpK.mk fun hK => ?_) | (with_reducible refine ImpF.mk fun hF => ?_) | (with_reducible refine ImpQ.mk fun hp => ?_) | (with_reducible refine AllE.mk fun p => ?_) | (with_reducible refine AllR.mk fun rest => ?_) | (with_reducible refine AllK.mk fun K => ?_))))); repeat' (with_reducible refine And.intro ?_ ?_))
  all_goals first | omega | skip
  refine Wp.ghost (gh_adopt (s := 8) .int trivial) ?_
  simp only [go_sem, decide_true, decide_false, Int.reduceToNat, Nat.min_eq_left, Nat.min_eq_right, Int.reducePow, Nat.reducePow, Int.reduceLE, Int.reduceLT, Int.reduceMul, Int.reduceAdd, Int.reduceSub, Int.reduceNeg, Bool.not_true, Bool.not_false, Bool.not_not, ↓reduceIte, Nat.reduceAdd, Nat.reduceSub, Nat.reduceMul, Nat.reduceEqDiff, reduceCtorEq, Nat.reduceLT, Nat.reduceLeDiff, Nat.reduceGT]
  any_goals ((try (refine w_seq fun K hK => ?_)); (try (refine w_block ?_)); refine w_loop (A := Nat) (fun k => k ≤ (sdl br).length) (fun k => (sdl br).length - k) (fun k => [(31, .any), (60, .any), (65, .any), (6, .sl 5 .rcy 0 (([⟨atT now n, 3, 0⟩, ⟨atT now n, 4, 0⟩] : List Rcy) ++ outU (atT now n) (frd (dueR P (atT now n) un) (sdl br) k)).length), (8, .sl 6 .int 0 k), (9, .int .i64 (leastF br ((sdl br).take k)).1), (10, .bool (leastF br ((sdl br).take k)).2), (7, .bool (true || (frd (dueR P (atT now n) un) (sdl br) k).any (hasZ vi)))]) (fun k => [(0, .cells (RL ⟨W, S, P, atT now n, atT now n, H0, atT now n, putR (atT now n) un (frd (dueR P (atT now n) un) (sdl br) k), br, vi, al⟩)), (2, .gone), (3, .gone), (4, .gone), (5, .rows .rcy (([⟨atT now n, 3, 0⟩, ⟨atT now n, 4, 0⟩] : List Rcy) ++ outU (atT now n) (frd (dueR P (atT now n) un) (sdl br) k))), (6, .rows .int ((sdl br).take k))]) (0) (ws := ?ws2) (tk := ?tk2) ?hw2 ?ht2 ?hi ?h0 ?LH2; (case hw2 => simp only [go_sem, decide_true, decide_false, Int.reduceToNat, Nat.min_eq_left, Nat.min_eq_right, Int.reducePow, Nat.reducePow, Int.reduceLE, Int.reduceLT, Int.reduceMul, Int.reduceAdd, Int.reduceSub, Int.reduceNeg, Bool.not_true, Bool.not_false, Bool.not_not, ↓reduceIte, Nat.reduceAdd, Nat.reduceSub, Nat.reduceMul, Nat.reduceEqDiff, reduceCtorEq, Nat.reduceLT, Nat.reduceLeDiff, Nat.reduceGT]; exact rfl); (case ht2 => simp only [go_sem, decide_true, decide_false, Int.reduceToNat, Nat.min_eq_left, Nat.min_eq_right, Int.reducePow, Nat.reducePow, Int.reduceLE, Int.reduceLT, Int.reduceMul, Int.reduceAdd, Int.reduceSub, Int.reduceNeg, Bool.not_true, Bool.not_false, Bool.not_not, ↓reduceIte, Nat.reduceAdd, Nat.reduceSub, Nat.reduceMul, Nat.reduceEqDiff, reduceCtorEq, Nat.reduceLT, Nat.reduceLeDiff, Nat.reduceGT]; exact rfl); (case' LH2 => rintro k E t hx hE ht; simp only [go_sem] at ht; subst ht; simp only [go_sem]; try dsimp only at hx))
  case hi => exact Nat.zero_le _
  case h0 =>
    (focus (refine ⟨_, _, Gh.refl, [0, 1, 2, 3, 4, 5, 6], rfl, ?_⟩; (refine ⟨?_, ?_, ?_⟩ <;> simp only [go_sem, List.range, List.range.loop, List.nodup_cons, List.nodup_nil, List.mem_cons, List.not_mem_nil, or_false, or_self, decide_true, decide_false, Int.reduceToNat, Nat.min_eq_left, Nat.min_eq_right, Int.reducePow, Nat.reducePow, Int.reduceLE, Int.reduceLT, Int.reduceMul, Int.reduceAdd, Int.reduceSub, Int.reduceNeg, Bool.not_true, Bool.not_false, Bool.not_not, ↓reduceIte, Nat.reduceAdd, Nat.reduceSub, Nat.reduceMul, Nat.reduceEqDiff, reduceCtorEq, Nat.reduceLT, Nat.reduceLeDiff, Nat.reduceGT]); (try any_goals (refine ⟨?_, ?_⟩)); (try any_goals (with_reducible rfl))))
    all_goals (repeat' (first | (refine And.intro ?_ ?_) | rfl | (simp [frd]; done) | (simp [frd, outU, putR]; done)))
  case LH2 =>
    have hk0 : k ≤ (sdl br).length := hx
    have hpl : (putR (atT now n) un (frd (dueR P (atT now n) un) (sdl br) k)).length ≤ 1100000 := by
      unfold putR; rw [List.length_append, List.length_map]
      have := frd_len (due := (dueR P (atT now n) un)) (sd := sdl br) (k := k)
      omega
    have hol : (outU (atT now n) (frd (dueR P (atT now n) un) (sdl br) k)).length ≤ k := by unfold outU; rw [List.length_map]; exact frd_len
    by_cases hk : k < (sdl br).length
    · have hla := least_at hk
      have hz := (zAt hk).symm
      have hlu : lastU (putR (atT now n) un (frd (dueR P (atT now n) un) (sdl br) k)) ((sdl br).getD k 0) = lastU un ((sdl br).getD k 0) := by
        rw [lastU_putR, if_neg (frd_new hk)]
      have hlt := h5 ((sdl br).getD k 0)
      have htl : ((sdl br).take k).length = k := by rw [List.length_take]; omega
      rw [hla]
      dsimp only
      by_cases c5 : 0 ≤ lastU un ((sdl br).getD k 0)
      · have d5 : decide (0 ≤ lastU un ((sdl br).getD k 0)) = true := decide_eq_true c5
        have w5 : IntKind.i64.wrap (atT now n - lastU un ((sdl br).getD k 0)) = atT now n - lastU un ((sdl br).getD k 0) := wrap_i64 _ (by omega) (by omega)
        by_cases c6 : atT now n - lastU un ((sdl br).getD k 0) < P
        · have d6 : decide (atT now n - lastU un ((sdl br).getD k 0) < P) = true := decide_eq_true c6
          have hdu : dueR P (atT now n) un ((sdl br).getD k 0) = false := by unfold dueR; rw [d5, d6]; rfl
          have hy := frd_no (due := (dueR P (atT now n) un)) hk hdu
          (have zx1 := @hlu; have zx2 := @d5; have zx3 := @w5; have zx4 := @d6; have zx5 := @hz; have zx6 := @htl; all_goals (try ((first | (with_reducible refine wp_id ?_) | (with_reducible refine does_id ?_) | (with_reducible refine ops_id ?_)); refine walk ?_; (repeat' (first | exact trivial | with_reducible refine And.intro ?_ ?_)); all_goals (repeat (first | (with_reducible refine ImpB.mk fun hb => ?_) | (with_reducible refine ImpK.mk fun hK => ?_) | (with_reducible refine ImpF.mk fun hF => ?_) | (with_reducible refine ImpQ.mk fun hp => ?_) | (with_reducible refine AllE.mk fun p => ?_) | (with_reducible refine AllR.mk fun rest => ?_) | (with_reducible refine AllK.mk fun K => ?_))))); repeat' (with_reducible refine And.intro ?_ ?_))
          all_goals first | omega | (rw [List.length_take]; omega) | skip
          all_goals (refine ⟨k + 1, ⟨by first | omega | (dsimp only; omega), by first | omega | (dsimp only; omega)⟩, ?_⟩)
          all_goals (focus (refine ⟨_, _, Gh.refl, [0, 1, 2, 3, 4, 5, 8], rfl, ?_⟩; (refine ⟨?_, ?_, ?_⟩ <;> simp only [go_sem, List.range, List.range.loop, List.nodup_cons, List.nodup_nil, List.mem_cons, List.not_mem_nil, or_false, or_self, decide_true, decide_false, Int.reduceToNat, Nat.min_eq_left, Nat.min_eq_right, Int.reducePow, Nat.reducePow, Int.reduceLE, Int.reduceLT, Int.reduceMul, Int.reduceAdd, Int.reduceSub, Int.reduceNeg, Bool.not_true, Bool.not_false, Bool.not_not, ↓reduceIte, Nat.reduceAdd, Nat.reduceSub, Nat.reduceMul, Nat.reduceEqDiff, reduceCtorEq, Nat.reduceLT, Nat.reduceLeDiff, Nat.reduceGT]); (try any_goals (refine ⟨?_, ?_⟩)); (try any_goals (with_reducible rfl))))
          all_goals (repeat' (first | (refine And.intro ?_ ?_) | rfl | (rw [hy]; done) | (rw [hy]; rfl)))
        · have d6 : decide (atT now n - lastU un ((sdl br).getD k 0) < P) = false := decide_eq_false c6
          have hdu : dueR P (atT now n) un ((sdl br).getD k 0) = true := by unfold dueR; rw [d5, d6]; rfl
          have hy := frd_yes (due := (dueR P (atT now n) un)) hk hdu
          (have zx1 := @hlu; have zx2 := @d5; have zx3 := @w5; have zx4 := @d6; have zx5 := @hz; have zx6 := @htl; all_goals (try ((first | (with_reducible refine wp_id ?_) | (with_reducible refine does_id ?_) | (with_reducible refine ops_id ?_)); refine walk ?_; (repeat' (first | exact trivial | with_reducible refine And.intro ?_ ?_)); all_goals (repeat (first | (with_reducible refine ImpB.mk fun hb => ?_) | (with_reducible refine ImpK.mk fun hK => ?_) | (with_reducible refine ImpF.mk fun hF => ?_) | (with_reducible refine ImpQ.mk fun hp => ?_) | (with_reducible refine AllE.mk fun p => ?_) | (with_reducible refine AllR.mk fun rest => ?_) | (with_reducible refine AllK.mk fun K => ?_))))); repeat' (with_reducible refine And.intro ?_ ?_))
          all_goals first | omega | (rw [List.length_take]; omega) | (simp only [List.length_append, List.length_cons, List.length_nil]; omega) | (exfalso; simp at hb; done) | skip
          all_goals (refine ⟨k + 1, ⟨by first | omega | (dsimp only; omega), by first | omega | (dsimp only; omega)⟩, ?_⟩)
          all_goals (focus (refine ⟨_, _, gh_frz (t := 13) (e := .pr) (xs := putR (atT now n) un (frd (dueR P (atT now n) un) (sdl br) k) ++ [⟨(sdl br).getD k 0, atT now n⟩]) rfl (by simp [frObL, frOb]) (by simp [frObH, frObC, frOb, frObL]), [0, 1, 2, 3, 4, 10, 8], rfl, ?_⟩; all_goals (refine ⟨?_, ?_, ?_⟩ <;> simp only [go_sem, List.range, List.range.loop, List.nodup_cons, List.nodup_nil, List.mem_cons, List.not_mem_nil, or_false, or_self, decide_true, decide_false, Int.reduceToNat, Nat.min_eq_left, Nat.min_eq_right, Int.reducePow, Nat.reducePow, Int.reduceLE, Int.reduceLT, Int.reduceMul, Int.reduceAdd, Int.reduceSub, Int.reduceNeg, Bool.not_true, Bool.not_false, Bool.not_not, ↓reduceIte, Nat.reduceAdd, Nat.reduceSub, Nat.reduceMul, Nat.reduceEqDiff, reduceCtorEq, Nat.reduceLT, Nat.reduceLeDiff, Nat.reduceGT]); (try any_goals (refine ⟨?_, ?_⟩)); (try any_goals (with_reducible rfl))))
          all_goals (repeat' (first | (refine And.intro ?_ ?_) | rfl | (rw [hy, any_snoc, ← Bool.or_assoc, hb]; done) | (rw [hy, any_snoc, ← Bool.or_assoc, hb]; rfl) | (rw [hy, outU_snoc]; first | done | rfl | (simp; done)) | (rw [hy, putR_snoc, List.take_of_length_le (by simp)])))
      · have d5 : decide (0 ≤ lastU un ((sdl br).getD k 0)) = false := decide_eq_false c5
        have hdu : dueR P (atT now n) un ((sdl br).getD k 0) = true := by unfold dueR; rw [d5]; rfl
        have hy := frd_yes (due := (dueR P (atT now n) un)) hk hdu
        (have zx1 := @hlu; have zx2 := @d5; have zx3 := @hz; have zx4 := @htl; all_goals (try ((first | (with_reducible refine wp_id ?_) | (with_reducible refine does_id ?_) | (with_reducible refine ops_id ?_)); refine walk ?_; (repeat' (first | exact trivial | with_reducible refine And.intro ?_ ?_)); all_goals (repeat (first | (with_reducible refine ImpB.mk fun hb => ?_) | (with_reducible refine ImpK.mk fun hK => ?_) | (with_reducible refine ImpF.mk fun hF => ?_) | (with_reducible refine ImpQ.mk fun hp => ?_) | (with_reducible refine AllE.mk fun p => ?_) | (with_reducible refine AllR.mk fun rest => ?_) | (with_reducible refine AllK.mk fun K => ?_))))); repeat' (with_reducible refine And.intro ?_ ?_))
        all_goals first | omega | (rw [List.length_take]; omega) | (simp only [List.length_append, List.length_cons, List.length_nil]; omega) | (exfalso; simp at hb; done) | skip
        all_goals (refine ⟨k + 1, ⟨by first | omega | (dsimp only; omega), by first | omega | (dsimp only; omega)⟩, ?_⟩)
        all_goals (focus (refine ⟨_, _, gh_frz (t := 13) (e := .pr) (xs := putR (atT now n) un (frd (dueR P (atT now n) un) (sdl br) k) ++ [⟨(sdl br).getD k 0, atT now n⟩]) rfl (by simp [frObL, frOb]) (by simp [frObH, frObC, frOb, frObL]), [0, 1, 2, 3, 4, 10, 8], rfl, ?_⟩; all_goals (refine ⟨?_, ?_, ?_⟩ <;> simp only [go_sem, List.range, List.range.loop, List.nodup_cons, List.nodup_nil, List.mem_cons, List.not_mem_nil, or_false, or_self, decide_true, decide_false, Int.reduceToNat, Nat.min_eq_left, Nat.min_eq_right, Int.reducePow, Nat.reducePow, Int.reduceLE, Int.reduceLT, Int.reduceMul, Int.reduceAdd, Int.reduceSub, Int.reduceNeg, Bool.not_true, Bool.not_false, Bool.not_not, ↓reduceIte, Nat.reduceAdd, Nat.reduceSub, Nat.reduceMul, Nat.reduceEqDiff, reduceCtorEq, Nat.reduceLT, Nat.reduceLeDiff, Nat.reduceGT]); (try any_goals (refine ⟨?_, ?_⟩)); (try any_goals (with_reducible rfl))))
        all_goals (repeat' (first | (refine And.intro ?_ ?_) | rfl | (rw [hy, any_snoc, ← Bool.or_assoc, hb]; done) | (rw [hy, any_snoc, ← Bool.or_assoc, hb]; rfl) | (rw [hy, outU_snoc]; first | done | rfl | (simp; done)) | (rw [hy, putR_snoc, List.take_of_length_le (by simp)])))
    · obtain rfl : k = (sdl br).length := by omega
      have hfe : frd (dueR P (atT now n) un) (sdl br) (sdl br).length = frR ⟨W, S, P, now, A, H0, rt, un, br, vi, al⟩ n := frd_end
      have hle := least_end br
      rw [hfe, hle]
      dsimp only
      have hol2 : (outU (atT now n) (frR ⟨W, S, P, now, A, H0, rt, un, br, vi, al⟩ n)).length ≤ br.length := by
        unfold outU; rw [List.length_map]; unfold frR; exact Nat.le_trans (List.length_filter_le _ _) h8
      cases hsf : (true || (frR ⟨W, S, P, now, A, H0, rt, un, br, vi, al⟩ n).any (hasZ vi))
      · (have zx1 := @hsf; all_goals (try ((first | (with_reducible refine wp_id ?_) | (with_reducible refine does_id ?_) | (with_reducible refine ops_id ?_)); refine walk ?_; (repeat' (first | exact trivial | with_reducible refine And.intro ?_ ?_)); all_goals (repeat (first | (with_reducible refine ImpB.mk fun hb => ?_) | (with_reducible refine ImpK.mk fun hK => ?_) | (with_reducible refine ImpF.mk fun hF => ?_) | (with_reducible refine ImpQ.mk fun hp => ?_) | (with_reducible refine AllE.mk fun p => ?_) | (with_reducible refine AllR.mk fun rest => ?_) | (with_reducible refine AllK.mk fun K => ?_))))); repeat' (with_reducible refine And.intro ?_ ?_))
        all_goals first | omega | skip
        rw [q4 false (q5.trans hsf)]
        (focus (refine ⟨_, _, gh_frz (t := 5) (e := .rcy) (xs := ([⟨atT now n, 3, 0⟩, ⟨atT now n, 4, 0⟩] : List Rcy) ++ outU (atT now n) (frR ⟨W, S, P, now, A, H0, rt, un, br, vi, al⟩ n)) rfl (by simp [frObL, frOb]) (by simp [frObH, frObC, frOb, frObL]), [], rfl, ?_⟩; all_goals (refine ⟨?_, ?_, ?_⟩ <;> simp only [go_sem, List.range, List.range.loop, List.nodup_cons, List.nodup_nil, List.mem_cons, List.not_mem_nil, or_false, or_self, decide_true, decide_false, Int.reduceToNat, Nat.min_eq_left, Nat.min_eq_right, Int.reducePow, Nat.reducePow, Int.reduceLE, Int.reduceLT, Int.reduceMul, Int.reduceAdd, Int.reduceSub, Int.reduceNeg, Bool.not_true, Bool.not_false, Bool.not_not, ↓reduceIte, Nat.reduceAdd, Nat.reduceSub, Nat.reduceMul, Nat.reduceEqDiff, reduceCtorEq, Nat.reduceLT, Nat.reduceLeDiff, Nat.reduceGT]); (try any_goals (refine ⟨?_, ?_⟩)); (try any_goals (with_reducible rfl))))
        all_goals (repeat' (first | (refine And.intro ?_ ?_) | rfl | (simp [frL, frA, asE]; done) | exact (tk_self _ _).symm | (refine congrArg (List.cons _) ?_)))
      · (have zx1 := @hsf; all_goals (try ((first | (with_reducible refine wp_id ?_) | (with_reducible refine does_id ?_) | (with_reducible refine ops_id ?_)); refine walk ?_; (repeat' (first | exact trivial | with_reducible refine And.intro ?_ ?_)); all_goals (repeat (first | (with_reducible refine ImpB.mk fun hb => ?_) | (with_reducible refine ImpK.mk fun hK => ?_) | (with_reducible refine ImpF.mk fun hF => ?_) | (with_reducible refine ImpQ.mk fun hp => ?_) | (with_reducible refine AllE.mk fun p => ?_) | (with_reducible refine AllR.mk fun rest => ?_) | (with_reducible refine AllK.mk fun K => ?_))))); repeat' (with_reducible refine And.intro ?_ ?_))
        all_goals first | omega | (simp only [List.length_append, List.length_cons, List.length_nil]; omega) | skip
        rw [q4 true (q5.trans hsf)]
        (focus (refine ⟨_, _, gh_frz (t := 8) (e := .rcy) (xs := ([⟨atT now n, 3, 0⟩, ⟨atT now n, 4, 0⟩] : List Rcy) ++ outU (atT now n) (frR ⟨W, S, P, now, A, H0, rt, un, br, vi, al⟩ n) ++ [⟨atT now n, 1, 0⟩]) rfl (by simp [frObL, frOb]) (by simp [frObH, frObC, frOb, frObL]), [], rfl, ?_⟩; all_goals (refine ⟨?_, ?_, ?_⟩ <;> simp only [go_sem, List.range, List.range.loop, List.nodup_cons, List.nodup_nil, List.mem_cons, List.not_mem_nil, or_false, or_self, decide_true, decide_false, Int.reduceToNat, Nat.min_eq_left, Nat.min_eq_right, Int.reducePow, Nat.reducePow, Int.reduceLE, Int.reduceLT, Int.reduceMul, Int.reduceAdd, Int.reduceSub, Int.reduceNeg, Bool.not_true, Bool.not_false, Bool.not_not, ↓reduceIte, Nat.reduceAdd, Nat.reduceSub, Nat.reduceMul, Nat.reduceEqDiff, reduceCtorEq, Nat.reduceLT, Nat.reduceLeDiff, Nat.reduceGT]); (try any_goals (refine ⟨?_, ?_⟩)); (try any_goals (with_reducible rfl))))
        all_goals (repeat' (first | (refine And.intro ?_ ?_) | rfl | (simp [frL, frA, asE]; done) | exact (tk_self _ _).symm | (refine congrArg (List.cons _) ?_)))
end
end Go.V

set_option maxRecDepth 100000
set_option maxHeartbeats 8000000
namespace Go.V
open Go.Proofs
theorem c_tickP {h : List Ch} {K : KT} {u : Nat} {g : Gs} {n : Int} (H : K (.sl h.length .rcy 0 (tickO g n).length) (h.set u (PG (tickG g n)) ++ [.rows .rcy (tickO g n)])) (o : hth h u = PG g) (s1 : OkG g) : Does Try.prog 12 [.ptr u 0, .int .i64 n] h K := k_tickU H o s1
abbrev i_tickP := Ctr.mk (i := 7) (g := 12) @c_tickP
attribute [instance] i_tickP
theorem c_gcloneP {h : List Ch} {K : KT} {u : Nat} {g : Gs} (H : K (.ptr h.length 0) (h ++ [PG g])) (o : hth h u = PG g) (s1 : OkG g) : Does Try.prog 18 [.ptr u 0] h K :=
  frame_obj (ret' := .ptr h.length 0) (b_gclone g s1) o (PG_ne g) (fitC_pack _) (br_cons (br_ptr rfl) br_nil) (.inl rfl) (fun _ => rfl) (fun _ => rfl) (by simp [renA, rhoC]) (by
    have e : h.set u (.pack (GU g)) = h := set_hth o (PG_ne g)
    rw [e]
    exact H)
abbrev i_gcloneP := Ctr.mk (i := 0) (g := 18) @c_gcloneP
attribute [instance] i_gcloneP
end Go.V

set_option maxRecDepth 100000
set_option maxHeartbeats 16000000
namespace Go.V
open Go.Proofs Go.Lib
theorem hidR : ∀ m : List Rcy, decide (m = m) = true := fun m => decide_eq_true rfl
theorem b_units_false (w s p : Nat) (unit : Int) (ticks : Int) (hw0 : 1 ≤ w ∧ w ≤ 1099511627776) (hs0 : 1 ≤ s ∧ s ≤ 1099511627776) (hp0 : 1 ≤ p ∧ p ≤ 1099511627776) : DoesK Try.prog 0 5 [.agg [.int .i64 w, .int .i64 s, .int .i64 p], .agg [.int .i64 unit, .bool false, .int .i64 ticks]] [] (EndF 0 (.bool true) []) := by
  refine DoesK.close ?_
  have hr : rightB w s p 0 = true := right_iff.2 (by omega)
  refine w_body (rs := [.tmp 4]) (tm := [.agg [.int .i64 w, .int .i64 s, .int .i64 p], .agg [.int .i64 unit, .bool false, .int .i64 ticks], .any, .any, .any, .any, .any, .any, .any, .any, .any, .any, .any, .any, .any, .any, .any, .any, .any, .any, .any, .any, .any, .any, .any, .any, .any, .any, .any, .any, .any, .any, .any, .any, .any, .any, .any, .any, .any, .any, .any, .any, .any, .any, .any, .any, .any, .any, .any, .any, .any, .any, .any, .any, .any, .any, .any, .any, .any, .any, .any, .any, .any, .any, .any, .any, .any, .any, .any, .any, .any, .any, .any, .any, .any, .any, .any, .any, .any, .any, .any, .any, .any, .any, .any, .any, .any, .any]) fn_5 rfl rfl rfl rfl fun R hR => ?_
  (have zx1 := @hr; all_goals (try ((first | (with_reducible refine wp_id ?_) | (with_reducible refine does_id ?_) | (with_reducible refine ops_id ?_)); refine walk ?_; (repeat' (first | exact trivial | with_reducible refine And.intro ?_ ?_)); all_goals (repeat (first | (with_reducible refine ImpB.mk fun hb => ?_) | (with_reducible refine ImpK.mk fun hK => ?_) | (with_reducible refine ImpF.mk fun hF => ?_) | (with_reducible refine ImpQ.mk fun hp => ?_) | (with_reducible refine AllE.mk fun p => ?_) | (with_reducible refine AllR.mk fun rest => ?_) | (with_reducible refine AllK.mk fun K => ?_))))); repeat' (with_reducible refine And.intro ?_ ?_))
  any_goals ((try (refine w_seq fun K hK => ?_)); (try (refine w_block ?_)); refine w_loop (A := Nat × Nat) (fun x => (1 ≤ x.1 ∧ x.1 ≤ 101) ∧ x.2 < x.1 ∧ (x.2 = 0 → x.1 = 1)) (fun x => 102 - x.1) (fun x => [(12, .int .i64 x.1), (11, .int .i64 (nxU p x.2))]) (fun x => [(2, PG (gsU w s p unit x.1 x.2))]) ((1, 0)) (ws := ?ws1) (tk := ?tk1) ?hw1 ?ht1 ?hi ?h0 ?LH1; (case hw1 => simp only [go_sem, decide_true, decide_false, Int.reduceToNat, Nat.min_eq_left, Nat.min_eq_right, Int.reducePow, Nat.reducePow, Int.reduceLE, Int.reduceLT, Int.reduceMul, Int.reduceAdd, Int.reduceSub, Int.reduceNeg, Bool.not_true, Bool.not_false, Bool.not_not, ↓reduceIte, Nat.reduceAdd, Nat.reduceSub, Nat.reduceMul, Nat.reduceEqDiff, reduceCtorEq, Nat.reduceLT, Nat.reduceLeDiff, Nat.reduceGT]; exact rfl); (case ht1 => simp only [go_sem, decide_true, decide_false, Int.reduceToNat, Nat.min_eq_left, Nat.min_eq_right, Int.reducePow, Nat.reducePow, Int.reduceLE, Int.reduceLT, Int.reduceMul, Int.reduceAdd, Int.reduceSub, Int.reduceNeg, Bool.not_true, Bool.not_false, Bool.not_not, ↓reduceIte, Nat.reduceAdd, Nat.reduceSub, Nat.reduceMul, Nat.reduceEqDiff, reduceCtorEq, Nat.reduceLT, Nat.reduceLeDiff, Nat.reduceGT]; exact rfl); (case' LH1 => rintro x E t hx hE ht; simp only [go_sem] at ht; subst ht; simp only [go_sem]; try dsimp only at hx))
  case hi => exact ⟨⟨by decide, by decide⟩, by decide, fun _ => rfl⟩
  case h0 =>
    (focus (refine ⟨_, _, Gh.trans (gh_open (t := 2) rfl) (Gh.trans (gh_adoptC (t := 2) (i := 10) .int rfl trivial) (Gh.trans (gh_adoptC (t := 2) (i := 11) .int rfl trivial) (gh_close (t := 2) (ts := [3, 4, 5]) (l := GU (gsU w s p unit 1 0)) ⟨⟨_, _, rfl⟩, ?_, by simp⟩))), [0, 1, 2], rfl, ?_⟩; all_goals (refine ⟨?_, ?_, ?_⟩ <;> simp only [go_sem, List.range, List.range.loop, List.nodup_cons, List.nodup_nil, List.mem_cons, List.not_mem_nil, or_false, or_self, decide_true, decide_false, Int.reduceToNat, Nat.min_eq_left, Nat.min_eq_right, Int.reducePow, Nat.reducePow, Int.reduceLE, Int.reduceLT, Int.reduceMul, Int.reduceAdd, Int.reduceSub, Int.reduceNeg, Bool.not_true, Bool.not_false, Bool.not_not, ↓reduceIte, Nat.reduceAdd, Nat.reduceSub, Nat.reduceMul, Nat.reduceEqDiff, reduceCtorEq, Nat.reduceLT, Nat.reduceLeDiff, Nat.reduceGT]); (try any_goals (refine ⟨?_, ?_⟩)); (try any_goals (with_reducible rfl))))
    all_goals (repeat' (first | (refine And.intro ?_ ?_) | exact List.Perm.refl _ | rfl))
  case LH1 =>
    obtain ⟨t, l⟩ := x
    dsimp only at hx ⊢
    obtain ⟨⟨ht1, ht2⟩, hl, h0⟩ := hx
    by_cases k1 : (t : Int) ≤ ticks
    · have d1 : decide ((t : Int) ≤ ticks) = true := decide_eq_true k1
      by_cases k2 : t ≤ 100
      · have d2 : decide ((t : Int) ≤ 100) = true := decide_eq_true (by omega)
        have hw : IntKind.i64.wrap ((t : Int) + 1) = ((t + 1 : Nat) : Int) := by rw [wrap_i64 _ (by omega) (by omega)]; omega
        have hw2 : IntKind.i64.wrap ((t : Int) + (p : Int)) = (t : Int) + (p : Int) := wrap_i64 _ (by omega) (by omega)
        have hok : OkG (brokenG (heardG (aliveG (gsU w s p unit t l) t) t) t [unit, unit] []) := okU (vital := false) ht1 (by omega) (by omega)
        have hid := hidR
        by_cases c : nxU p l ≤ t
        · have d3 : decide (nxU p l ≤ (t : Int)) = true := decide_eq_true c
          obtain ⟨g1, g2⟩ := tickU_yes (W := w) (S := s) (P := p) (unit := unit) (vital := false) (by omega) (by omega) ht1 (by omega) hl h0 c
          have g1 : tickG (brokenG (heardG (aliveG (gsU w s p unit t l) t) t) t [unit, unit] []) t = gsU w s p unit (t + 1) t := g1
          have g2 : tickO (brokenG (heardG (aliveG (gsU w s p unit t l) t) t) t [unit, unit] []) t = [⟨t, 2, unit⟩] := g2
          have hnx : nxU p t = (t : Int) + p := if_neg (by omega)
          (have zx1 := @d1; have zx2 := @d2; have zx3 := @d3; have zx4 := @hw; have zx5 := @hw2; have zx6 := @g1; have zx7 := @g2; have zx8 := @hid; all_goals (try ((first | (with_reducible refine wp_id ?_) | (with_reducible refine does_id ?_) | (with_reducible refine ops_id ?_)); refine walk ?_; (repeat' (first | exact trivial | with_reducible refine And.intro ?_ ?_)); all_goals (repeat (first | (with_reducible refine ImpB.mk fun hb => ?_) | (with_reducible refine ImpK.mk fun hK => ?_) | (with_reducible refine ImpF.mk fun hF => ?_) | (with_reducible refine ImpQ.mk fun hp => ?_) | (with_reducible refine AllE.mk fun p => ?_) | (with_reducible refine AllR.mk fun rest => ?_) | (with_reducible refine AllK.mk fun K => ?_))))); repeat' (with_reducible refine And.intro ?_ ?_))
          all_goals first | omega | (simp; done) | (exact absurd hb (by simp)) | skip
          all_goals (refine ⟨(t + 1, t), ⟨⟨⟨by omega, by omega⟩, by first | omega | (dsimp only; omega), by first | omega | (dsimp only; omega)⟩, by first | omega | (dsimp only; omega)⟩, ?_⟩)
          all_goals (focus (refine ⟨_, _, Gh.refl, [0, 1, 2], rfl, ?_⟩; (refine ⟨?_, ?_, ?_⟩ <;> simp only [go_sem, List.range, List.range.loop, List.nodup_cons, List.nodup_nil, List.mem_cons, List.not_mem_nil, or_false, or_self, decide_true, decide_false, Int.reduceToNat, Nat.min_eq_left, Nat.min_eq_right, Int.reducePow, Nat.reducePow, Int.reduceLE, Int.reduceLT, Int.reduceMul, Int.reduceAdd, Int.reduceSub, Int.reduceNeg, Bool.not_true, Bool.not_false, Bool.not_not, ↓reduceIte, Nat.reduceAdd, Nat.reduceSub, Nat.reduceMul, Nat.reduceEqDiff, reduceCtorEq, Nat.reduceLT, Nat.reduceLeDiff, Nat.reduceGT]); (try any_goals (refine ⟨?_, ?_⟩)); (try any_goals (with_reducible rfl))))
          all_goals (repeat' (first | (refine And.intro ?_ ?_) | rfl | exact hnx))
        · have d3 : decide (nxU p l ≤ (t : Int)) = false := decide_eq_false c
          have hl0 : l ≠ 0 := fun e => c (by
            have := h0 e
            rw [e]
            show (1 : Int) ≤ t
            omega)
          obtain ⟨g1, g2⟩ := tickU_no (W := w) (S := s) (P := p) (unit := unit) (vital := false) (by omega) (by omega) ht1 (by omega) hl h0 c
          have g1 : tickG (brokenG (heardG (aliveG (gsU w s p unit t l) t) t) t [unit, unit] []) t = gsU w s p unit (t + 1) l := g1
          have g2 : tickO (brokenG (heardG (aliveG (gsU w s p unit t l) t) t) t [unit, unit] []) t = [] := g2
          (have zx1 := @d1; have zx2 := @d2; have zx3 := @d3; have zx4 := @hw; have zx5 := @hw2; have zx6 := @g1; have zx7 := @g2; have zx8 := @hid; all_goals (try ((first | (with_reducible refine wp_id ?_) | (with_reducible refine does_id ?_) | (with_reducible refine ops_id ?_)); refine walk ?_; (repeat' (first | exact trivial | with_reducible refine And.intro ?_ ?_)); all_goals (repeat (first | (with_reducible refine ImpB.mk fun hb => ?_) | (with_reducible refine ImpK.mk fun hK => ?_) | (with_reducible refine ImpF.mk fun hF => ?_) | (with_reducible refine ImpQ.mk fun hp => ?_) | (with_reducible refine AllE.mk fun p => ?_) | (with_reducible refine AllR.mk fun rest => ?_) | (with_reducible refine AllK.mk fun K => ?_))))); repeat' (with_reducible refine And.intro ?_ ?_))
          all_goals first | omega | (simp; done) | (exact absurd hb (by simp)) | skip
          all_goals (refine ⟨(t + 1, l), ⟨⟨⟨by omega, by omega⟩, by first | omega | (dsimp only; omega), by first | omega | (dsimp only; omega)⟩, by first | omega | (dsimp only; omega)⟩, ?_⟩)
          all_goals (focus (refine ⟨_, _, Gh.refl, [0, 1, 2], rfl, ?_⟩; (refine ⟨?_, ?_, ?_⟩ <;> simp only [go_sem, List.range, List.range.loop, List.nodup_cons, List.nodup_nil, List.mem_cons, List.not_mem_nil, or_false, or_self, decide_true, decide_false, Int.reduceToNat, Nat.min_eq_left, Nat.min_eq_right, Int.reducePow, Nat.reducePow, Int.reduceLE, Int.reduceLT, Int.reduceMul, Int.reduceAdd, Int.reduceSub, Int.reduceNeg, Bool.not_true, Bool.not_false, Bool.not_not, ↓reduceIte, Nat.reduceAdd, Nat.reduceSub, Nat.reduceMul, Nat.reduceEqDiff, reduceCtorEq, Nat.reduceLT, Nat.reduceLeDiff, Nat.reduceGT]); (try any_goals (refine ⟨?_, ?_⟩)); (try any_goals (with_reducible rfl))))
          all_goals (repeat' (first | (refine And.intro ?_ ?_) | rfl))
      · have d2 : decide ((t : Int) ≤ 100) = false := decide_eq_false (by omega)
        (have zx1 := @d1; have zx2 := @d2; all_goals (try ((first | (with_reducible refine wp_id ?_) | (with_reducible refine does_id ?_) | (with_reducible refine ops_id ?_)); refine walk ?_; (repeat' (first | exact trivial | with_reducible refine And.intro ?_ ?_)); all_goals (repeat (first | (with_reducible refine ImpB.mk fun hb => ?_) | (with_reducible refine ImpK.mk fun hK => ?_) | (with_reducible refine ImpF.mk fun hF => ?_) | (with_reducible refine ImpQ.mk fun hp => ?_) | (with_reducible refine AllE.mk fun p => ?_) | (with_reducible refine AllR.mk fun rest => ?_) | (with_reducible refine AllK.mk fun K => ?_))))); repeat' (with_reducible refine And.intro ?_ ?_))
        (focus (refine ⟨_, _, Gh.refl, [], rfl, ?_⟩; (refine ⟨?_, ?_, ?_⟩ <;> simp only [go_sem, List.range, List.range.loop, List.nodup_cons, List.nodup_nil, List.mem_cons, List.not_mem_nil, or_false, or_self, decide_true, decide_false, Int.reduceToNat, Nat.min_eq_left, Nat.min_eq_right, Int.reducePow, Nat.reducePow, Int.reduceLE, Int.reduceLT, Int.reduceMul, Int.reduceAdd, Int.reduceSub, Int.reduceNeg, Bool.not_true, Bool.not_false, Bool.not_not, ↓reduceIte, Nat.reduceAdd, Nat.reduceSub, Nat.reduceMul, Nat.reduceEqDiff, reduceCtorEq, Nat.reduceLT, Nat.reduceLeDiff, Nat.reduceGT]); (try any_goals (refine ⟨?_, ?_⟩)); (try any_goals (with_reducible rfl))))
    · have d1 : decide ((t : Int) ≤ ticks) = false := decide_eq_false k1
      (have zx1 := @d1; all_goals (try ((first | (with_reducible refine wp_id ?_) | (with_reducible refine does_id ?_) | (with_reducible refine ops_id ?_)); refine walk ?_; (repeat' (first | exact trivial | with_reducible refine And.intro ?_ ?_)); all_goals (repeat (first | (with_reducible refine ImpB.mk fun hb => ?_) | (with_reducible refine ImpK.mk fun hK => ?_) | (with_reducible refine ImpF.mk fun hF => ?_) | (with_reducible refine ImpQ.mk fun hp => ?_) | (with_reducible refine AllE.mk fun p => ?_) | (with_reducible refine AllR.mk fun rest => ?_) | (with_reducible refine AllK.mk fun K => ?_))))); repeat' (with_reducible refine And.intro ?_ ?_))
      (focus (refine ⟨_, _, Gh.refl, [], rfl, ?_⟩; (refine ⟨?_, ?_, ?_⟩ <;> simp only [go_sem, List.range, List.range.loop, List.nodup_cons, List.nodup_nil, List.mem_cons, List.not_mem_nil, or_false, or_self, decide_true, decide_false, Int.reduceToNat, Nat.min_eq_left, Nat.min_eq_right, Int.reducePow, Nat.reducePow, Int.reduceLE, Int.reduceLT, Int.reduceMul, Int.reduceAdd, Int.reduceSub, Int.reduceNeg, Bool.not_true, Bool.not_false, Bool.not_not, ↓reduceIte, Nat.reduceAdd, Nat.reduceSub, Nat.reduceMul, Nat.reduceEqDiff, reduceCtorEq, Nat.reduceLT, Nat.reduceLeDiff, Nat.reduceGT]); (try any_goals (refine ⟨?_, ?_⟩)); (try any_goals (with_reducible rfl))))
theorem b_units_true (w s p : Nat) (unit : Int) (ticks : Int) (hw0 : 1 ≤ w ∧ w ≤ 1099511627776) (hs0 : 1 ≤ s ∧ s ≤ 1099511627776) (hp0 : 1 ≤ p ∧ p ≤ 1099511627776) : DoesK Try.prog 0 5 [.agg [.int .i64 w, .int .i64 s, .int .i64 p], .agg [.int .i64 unit, .bool true, .int .i64 ticks]] [] (EndF 0 (.bool true) []) := by
  refine DoesK.close ?_
  have hr : rightB w s p 0 = true := right_iff.2 (by omega)
  refine w_body (rs := [.tmp 4]) (tm := [.agg [.int .i64 w, .int .i64 s, .int .i64 p], .agg [.int .i64 unit, .bool true, .int .i64 ticks], .any, .any, .any, .any, .any, .any, .any, .any, .any, .any, .any, .any, .any, .any, .any, .any, .any, .any, .any, .any, .any, .any, .any, .any, .any, .any, .any, .any, .any, .any, .any, .any, .any, .any, .any, .any, .any, .any, .any, .any, .any, .any, .any, .any, .any, .any, .any, .any, .any, .any, .any, .any, .any, .any, .any, .any, .any, .any, .any, .any, .any, .any, .any, .any, .any, .any, .any, .any, .any, .any, .any, .any, .any, .any, .any, .any, .any, .any, .any, .any, .any, .any, .any, .any, .any, .any]) fn_5 rfl rfl rfl rfl fun R hR => ?_
  (have zx1 := @hr; all_goals (try ((first | (with_reducible refine wp_id ?_) | (with_reducible refine does_id ?_) | (with_reducible refine ops_id ?_)); refine walk ?_; (repeat' (first | exact trivial | with_reducible refine And.intro ?_ ?_)); all_goals (repeat (first | (with_reducible refine ImpB.mk fun hb => ?_) | (with_reducible refine ImpK.mk fun hK => ?_) | (with_reducible refine ImpF.mk fun hF => ?_) | (with_reducible refine ImpQ.mk fun hp => ?_) | (with_reducible refine AllE.mk fun p => ?_) | (with_reducible refine AllR.mk fun rest => ?_) | (with_reducible refine AllK.mk fun K => ?_))))); repeat' (with_reducible refine And.intro ?_ ?_))
  any_goals ((try (refine w_seq fun K hK => ?_)); (try (refine w_block ?_)); refine w_loop (A := Nat × Nat) (fun x => (1 ≤ x.1 ∧ x.1 ≤ 101) ∧ x.2 < x.1 ∧ (x.2 = 0 → x.1 = 1)) (fun x => 102 - x.1) (fun x => [(12, .int .i64 x.1), (11, .int .i64 (nxU p x.2))]) (fun x => [(2, PG (gsU w s p unit x.1 x.2))]) ((1, 0)) (ws := ?ws2) (tk := ?tk2) ?hw2 ?ht2 ?hi ?h0 ?LH2; (case hw2 => simp only [go_sem, decide_true, decide_false, Int.reduceToNat, Nat.min_eq_left, Nat.min_eq_right, Int.reducePow, Nat.reducePow, Int.reduceLE, Int.reduceLT, Int.reduceMul, Int.reduceAdd, Int.reduceSub, Int.reduceNeg, Bool.not_true, Bool.not_false, Bool.not_not, ↓reduceIte, Nat.reduceAdd, Nat.reduceSub, Nat.reduceMul, Nat.reduceEqDiff, reduceCtorEq, Nat.reduceLT, Nat.reduceLeDiff, Nat.reduceGT]; exact rfl); (case ht2 => simp only [go_sem, decide_true, decide_false, Int.reduceToNat, Nat.min_eq_left, Nat.min_eq_right, Int.reducePow, Nat.reducePow, Int.reduceLE, Int.reduceLT, Int.reduceMul, Int.reduceAdd, Int.reduceSub, Int.reduceNeg, Bool.not_true, Bool.not_false, Bool.not_not, ↓reduceIte, Nat.reduceAdd, Nat.reduceSub, Nat.reduceMul, Nat.reduceEqDiff, reduceCtorEq, Nat.reduceLT, Nat.reduceLeDiff, Nat.reduceGT]; exact rfl); (case' LH2 => rintro x E t hx hE ht; simp only [go_sem] at ht; subst ht; simp only [go_sem]; try dsimp only at hx))
  case hi => exact ⟨⟨by decide, by decide⟩, by decide, fun _ => rfl⟩
  case h0 =>
    (focus (refine ⟨_, _, Gh.trans (gh_open (t := 2) rfl) (Gh.trans (gh_adoptC (t := 2) (i := 10) .int rfl trivial) (Gh.trans (gh_adoptC (t := 2) (i := 11) .int rfl trivial) (gh_close (t := 2) (ts := [4, 5, 6]) (l := GU (gsU w s p unit 1 0)) ⟨⟨_, _, rfl⟩, ?_, by simp⟩))), [0, 1, 2, 3], rfl, ?_⟩; all_goals (refine ⟨?_, ?_, ?_⟩ <;> simp only [go_sem, List.range, List.range.loop, List.nodup_cons, List.nodup_nil, List.mem_cons, List.not_mem_nil, or_false, or_self, decide_true, decide_false, Int.reduceToNat, Nat.min_eq_left, Nat.min_eq_right, Int.reducePow, Nat.reducePow, Int.reduceLE, Int.reduceLT, Int.reduceMul, Int.reduceAdd, Int.reduceSub, Int.reduceNeg, Bool.not_true, Bool.not_false, Bool.not_not, ↓reduceIte, Nat.reduceAdd, Nat.reduceSub, Nat.reduceMul, Nat.reduceEqDiff, reduceCtorEq, Nat.reduceLT, Nat.reduceLeDiff, Nat.reduceGT]); (try any_goals (refine ⟨?_, ?_⟩)); (try any_goals (with_reducible rfl))))
    all_goals (repeat' (first | (refine And.intro ?_ ?_) | exact List.Perm.refl _ | rfl))
  case LH2 =>
    obtain ⟨t, l⟩ := x
    dsimp only at hx ⊢
    obtain ⟨⟨ht1, ht2⟩, hl, h0⟩ := hx
    by_cases k1 : (t : Int) ≤ ticks
    · have d1 : decide ((t : Int) ≤ ticks) = true := decide_eq_true k1
      by_cases k2 : t ≤ 100
      · have d2 : decide ((t : Int) ≤ 100) = true := decide_eq_true (by omega)
        have hw : IntKind.i64.wrap ((t : Int) + 1) = ((t + 1 : Nat) : Int) := by rw [wrap_i64 _ (by omega) (by omega)]; omega
        have hw2 : IntKind.i64.wrap ((t : Int) + (p : Int)) = (t : Int) + (p : Int) := wrap_i64 _ (by omega) (by omega)
        have hok : OkG (brokenG (heardG (aliveG (gsU w s p unit t l) t) t) t [unit, unit] [unit]) := okU (vital := true) ht1 (by omega) (by omega)
        have hid := hidR
        by_cases c : nxU p l ≤ t
        · have d3 : decide (nxU p l ≤ (t : Int)) = true := decide_eq_true c
          obtain ⟨g1, g2⟩ := tickU_yes (W := w) (S := s) (P := p) (unit := unit) (vital := true) (by omega) (by omega) ht1 (by omega) hl h0 c
          have g1 : tickG (brokenG (heardG (aliveG (gsU w s p unit t l) t) t) t [unit, unit] [unit]) t = gsU w s p unit (t + 1) t := g1
          have g2 : tickO (brokenG (heardG (aliveG (gsU w s p unit t l) t) t) t [unit, unit] [unit]) t = [⟨t, 2, unit⟩, ⟨t, 1, 0⟩] := g2
          have hnx : nxU p t = (t : Int) + p := if_neg (by omega)
          (have zx1 := @d1; have zx2 := @d2; have zx3 := @d3; have zx4 := @hw; have zx5 := @hw2; have zx6 := @g1; have zx7 := @g2; have zx8 := @hid; all_goals (try ((first | (with_reducible refine wp_id ?_) | (with_reducible refine does_id ?_) | (with_reducible refine ops_id ?_)); refine walk ?_; (repeat' (first | exact trivial | with_reducible refine And.intro ?_ ?_)); all_goals (repeat (first | (with_reducible refine ImpB.mk fun hb => ?_) | (with_reducible refine ImpK.mk fun hK => ?_) | (with_reducible refine ImpF.mk fun hF => ?_) | (with_reducible refine ImpQ.mk fun hp => ?_) | (with_reducible refine AllE.mk fun p => ?_) | (with_reducible refine AllR.mk fun rest => ?_) | (with_reducible refine AllK.mk fun K => ?_))))); repeat' (with_reducible refine And.intro ?_ ?_))
          all_goals first | omega | (simp; done) | (exact absurd hb (by simp)) | skip
          all_goals (refine ⟨(t + 1, t), ⟨⟨⟨by omega, by omega⟩, by first | omega | (dsimp only; omega), by first | omega | (dsimp only; omega)⟩, by first | omega | (dsimp only; omega)⟩, ?_⟩)
          all_goals (focus (refine ⟨_, _, Gh.refl, [0, 1, 2, 3], rfl, ?_⟩; (refine ⟨?_, ?_, ?_⟩ <;> simp only [go_sem, List.range, List.range.loop, List.nodup_cons, List.nodup_nil, List.mem_cons, List.not_mem_nil, or_false, or_self, decide_true, decide_false, Int.reduceToNat, Nat.min_eq_left, Nat.min_eq_right, Int.reducePow, Nat.reducePow, Int.reduceLE, Int.reduceLT, Int.reduceMul, Int.reduceAdd, Int.reduceSub, Int.reduceNeg, Bool.not_true, Bool.not_false, Bool.not_not, ↓reduceIte, Nat.reduceAdd, Nat.reduceSub, Nat.reduceMul, Nat.reduceEqDiff, reduceCtorEq, Nat.reduceLT, Nat.reduceLeDiff, Nat.reduceGT]); (try any_goals (refine ⟨?_, ?_⟩)); (try any_goals (with_reducible rfl))))
          all_goals (repeat' (first | (refine And.intro ?_ ?_) | rfl | exact hnx))
        · have d3 : decide (nxU p l ≤ (t : Int)) = false := decide_eq_false c
          have hl0 : l ≠ 0 := fun e => c (by
            have := h0 e
            rw [e]
            show (1 : Int) ≤ t
            omega)
          obtain ⟨g1, g2⟩ := tickU_no (W := w) (S := s) (P := p) (unit := unit) (vital := true) (by omega) (by omega) ht1 (by omega) hl h0 c
          have g1 : tickG (brokenG (heardG (aliveG (gsU w s p unit t l) t) t) t [unit, unit] [unit]) t = gsU w s p unit (t + 1) l := g1
          have g2 : tickO (brokenG (heardG (aliveG (gsU w s p unit t l) t) t) t [unit, unit] [unit]) t = [] := g2
          (have zx1 := @d1; have zx2 := @d2; have zx3 := @d3; have zx4 := @hw; have zx5 := @hw2; have zx6 := @g1; have zx7 := @g2; have zx8 := @hid; all_goals (try ((first | (with_reducible refine wp_id ?_) | (with_reducible refine does_id ?_) | (with_reducible refine ops_id ?_)); refine walk ?_; (repeat' (first | exact trivial | with_reducible refine And.intro ?_ ?_)); all_goals (repeat (first | (with_reducible refine ImpB.mk fun hb => ?_) | (with_reducible refine ImpK.mk fun hK => ?_) | (with_reducible refine ImpF.mk fun hF => ?_) | (with_reducible refine ImpQ.mk fun hp => ?_) | (with_reducible refine AllE.mk fun p => ?_) | (with_reducible refine AllR.mk fun rest => ?_) | (with_reducible refine AllK.mk fun K => ?_))))); repeat' (with_reducible refine And.intro ?_ ?_))
          all_goals first | omega | (simp; done) | (exact absurd hb (by simp)) | skip
          all_goals (refine ⟨(t + 1, l), ⟨⟨⟨by omega, by omega⟩, by first | omega | (dsimp only; omega), by first | omega | (dsimp only; omega)⟩, by first | omega | (dsimp only; omega)⟩, ?_⟩)
          all_goals (focus (refine ⟨_, _, Gh.refl, [0, 1, 2, 3], rfl, ?_⟩; (refine ⟨?_, ?_, ?_⟩ <;> simp only [go_sem, List.range, List.range.loop, List.nodup_cons, List.nodup_nil, List.mem_cons, List.not_mem_nil, or_false, or_self, decide_true, decide_false, Int.reduceToNat, Nat.min_eq_left, Nat.min_eq_right, Int.reducePow, Nat.reducePow, Int.reduceLE, Int.reduceLT, Int.reduceMul, Int.reduceAdd, Int.reduceSub, Int.reduceNeg, Bool.not_true, Bool.not_false, Bool.not_not, ↓reduceIte, Nat.reduceAdd, Nat.reduceSub, Nat.reduceMul, Nat.reduceEqDiff, reduceCtorEq, Nat.reduceLT, Nat.reduceLeDiff, Nat.reduceGT]); (try any_goals (refine ⟨?_, ?_⟩)); (try any_goals (with_reducible rfl))))
          all_goals (repeat' (first | (refine And.intro ?_ ?_) | rfl))
      · have d2 : decide ((t : Int) ≤ 100) = false := decide_eq_false (by omega)
        (have zx1 := @d1; have zx2 := @d2; all_goals (try ((first | (with_reducible refine wp_id ?_) | (with_reducible refine does_id ?_) | (with_reducible refine ops_id ?_)); refine walk ?_; (repeat' (first | exact trivial | with_reducible refine And.intro ?_ ?_)); all_goals (repeat (first | (with_reducible refine ImpB.mk fun hb => ?_) | (with_reducible refine ImpK.mk fun hK => ?_) | (with_reducible refine ImpF.mk fun hF => ?_) | (with_reducible refine ImpQ.mk fun hp => ?_) | (with_reducible refine AllE.mk fun p => ?_) | (with_reducible refine AllR.mk fun rest => ?_) | (with_reducible refine AllK.mk fun K => ?_))))); repeat' (with_reducible refine And.intro ?_ ?_))
        (focus (refine ⟨_, _, Gh.refl, [], rfl, ?_⟩; (refine ⟨?_, ?_, ?_⟩ <;> simp only [go_sem, List.range, List.range.loop, List.nodup_cons, List.nodup_nil, List.mem_cons, List.not_mem_nil, or_false, or_self, decide_true, decide_false, Int.reduceToNat, Nat.min_eq_left, Nat.min_eq_right, Int.reducePow, Nat.reducePow, Int.reduceLE, Int.reduceLT, Int.reduceMul, Int.reduceAdd, Int.reduceSub, Int.reduceNeg, Bool.not_true, Bool.not_false, Bool.not_not, ↓reduceIte, Nat.reduceAdd, Nat.reduceSub, Nat.reduceMul, Nat.reduceEqDiff, reduceCtorEq, Nat.reduceLT, Nat.reduceLeDiff, Nat.reduceGT]); (try any_goals (refine ⟨?_, ?_⟩)); (try any_goals (with_reducible rfl))))
    · have d1 : decide ((t : Int) ≤ ticks) = false := decide_eq_false k1
      (have zx1 := @d1; all_goals (try ((first | (with_reducible refine wp_id ?_) | (with_reducible refine does_id ?_) | (with_reducible refine ops_id ?_)); refine walk ?_; (repeat' (first | exact trivial | with_reducible refine And.intro ?_ ?_)); all_goals (repeat (first | (with_reducible refine ImpB.mk fun hb => ?_) | (with_reducible refine ImpK.mk fun hK => ?_) | (with_reducible refine ImpF.mk fun hF => ?_) | (with_reducible refine ImpQ.mk fun hp => ?_) | (with_reducible refine AllE.mk fun p => ?_) | (with_reducible refine AllR.mk fun rest => ?_) | (with_reducible refine AllK.mk fun K => ?_))))); repeat' (with_reducible refine And.intro ?_ ?_))
      (focus (refine ⟨_, _, Gh.refl, [], rfl, ?_⟩; (refine ⟨?_, ?_, ?_⟩ <;> simp only [go_sem, List.range, List.range.loop, List.nodup_cons, List.nodup_nil, List.mem_cons, List.not_mem_nil, or_false, or_self, decide_true, decide_false, Int.reduceToNat, Nat.min_eq_left, Nat.min_eq_right, Int.reducePow, Nat.reducePow, Int.reduceLE, Int.reduceLT, Int.reduceMul, Int.reduceAdd, Int.reduceSub, Int.reduceNeg, Bool.not_true, Bool.not_false, Bool.not_not, ↓reduceIte, Nat.reduceAdd, Nat.reduceSub, Nat.reduceMul, Nat.reduceEqDiff, reduceCtorEq, Nat.reduceLT, Nat.reduceLeDiff, Nat.reduceGT]); (try any_goals (refine ⟨?_, ?_⟩)); (try any_goals (with_reducible rfl))))
theorem b_unitsF (W S P unit : Int) (vital : Bool) (ticks : Int) (hr : rightB W S P 0 = false) : DoesK Try.prog 0 5 [.agg [.int .i64 W, .int .i64 S, .int .i64 P], .agg [.int .i64 unit, .bool vital, .int .i64 ticks]] [] (EndF 0 (.bool true) []) := by
  refine DoesK.close ?_
  refine w_body (rs := [.tmp 4]) (tm := [.agg [.int .i64 W, .int .i64 S, .int .i64 P], .agg [.int .i64 unit, .bool vital, .int .i64 ticks], .any, .any, .any, .any, .any, .any, .any, .any, .any, .any, .any, .any, .any, .any, .any, .any, .any, .any, .any, .any, .any, .any, .any, .any, .any, .any, .any, .any, .any, .any, .any, .any, .any, .any, .any, .any, .any, .any, .any, .any, .any, .any, .any, .any, .any, .any, .any, .any, .any, .any, .any, .any, .any, .any, .any, .any, .any, .any, .any, .any, .any, .any, .any, .any, .any, .any, .any, .any, .any, .any, .any, .any, .any, .any, .any, .any, .any, .any, .any, .any, .any, .any, .any, .any, .any, .any]) fn_5 rfl rfl rfl rfl fun R hR => ?_
  (have zx1 := @hr; all_goals (try ((first | (with_reducible refine wp_id ?_) | (with_reducible refine does_id ?_) | (with_reducible refine ops_id ?_)); refine walk ?_; (repeat' (first | exact trivial | with_reducible refine And.intro ?_ ?_)); all_goals (repeat (first | (with_reducible refine ImpB.mk fun hb => ?_) | (with_reducible refine ImpK.mk fun hK => ?_) | (with_reducible refine ImpF.mk fun hF => ?_) | (with_reducible refine ImpQ.mk fun hp => ?_) | (with_reducible refine AllE.mk fun p => ?_) | (with_reducible refine AllR.mk fun rest => ?_) | (with_reducible refine AllK.mk fun K => ?_))))); repeat' (with_reducible refine And.intro ?_ ?_))
  all_goals first | ((focus (refine ⟨_, _, Gh.refl, [], rfl, ?_⟩; (refine ⟨?_, ?_, ?_⟩ <;> simp only [go_sem, List.range, List.range.loop, List.nodup_cons, List.nodup_nil, List.mem_cons, List.not_mem_nil, or_false, or_self, decide_true, decide_false, Int.reduceToNat, Nat.min_eq_left, Nat.min_eq_right, Int.reducePow, Nat.reducePow, Int.reduceLE, Int.reduceLT, Int.reduceMul, Int.reduceAdd, Int.reduceSub, Int.reduceNeg, Bool.not_true, Bool.not_false, Bool.not_not, ↓reduceIte, Nat.reduceAdd, Nat.reduceSub, Nat.reduceMul, Nat.reduceEqDiff, reduceCtorEq, Nat.reduceLT, Nat.reduceLeDiff, Nat.reduceGT]); (try any_goals (refine ⟨?_, ?_⟩)); (try any_goals (with_reducible rfl)))); done) | exact absurd hb (by decide)
theorem b_units (W S P unit : Int) (vital : Bool) (ticks : Int) : DoesK Try.prog 0 5 [.agg [.int .i64 W, .int .i64 S, .int .i64 P], .agg [.int .i64 unit, .bool vital, .int .i64 ticks]] [] (EndF 0 (.bool true) []) := by
  cases hr : rightB W S P 0
  · exact b_unitsF W S P unit vital ticks hr
  · obtain ⟨h1, h2, h3, -⟩ := right_iff.1 hr
    obtain ⟨w, rfl⟩ : ∃ w : Nat, W = w := ⟨W.toNat, by omega⟩
    obtain ⟨s, rfl⟩ : ∃ s : Nat, S = s := ⟨S.toNat, by omega⟩
    obtain ⟨p, rfl⟩ : ∃ p : Nat, P = p := ⟨P.toNat, by omega⟩
    cases vital
    · exact b_units_false w s p unit ticks (by omega) (by omega) (by omega)
    · exact b_units_true w s p unit ticks (by omega) (by omega) (by omega)
end Go.V
