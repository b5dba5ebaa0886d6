/-
  The guard: Tick, whatever is broken.
-/
import Derived.Test.YtginlelmkebpmaaPart15
set_option linter.unusedVariables false
set_option linter.unusedSimpArgs false
set_option maxRecDepth 100000
set_option maxHeartbeats 16000000
namespace Go.V
open Go.Proofs Go.Lib
structure OkG (g : Gs) : Prop where
  now : 0 ≤ g.now ∧ g.now ≤ 1099511627776
  A : 0 ≤ g.A ∧ g.A ≤ 1099511627776
  H : 0 ≤ g.H ∧ g.H ≤ 1099511627776
  rt : 0 ≤ g.rt ∧ g.rt ≤ 1099511627776
  kv : ∀ u, 0 ≤ (mgz g.kv u).time ∧ (mgz g.kv u).time ≤ 1099511627776
  br : g.br.length ≤ 1000
  vi : g.vi.length ≤ 1000
def wdG (g : Gs) (n : Int) : Bool := decide (g.W ≤ atT g.now n - g.A)
def silG (g : Gs) (n : Int) : Bool := decide (g.S ≤ atT g.now n - g.H) && mayB g.P (atT g.now n) ⟨g.don, g.rt⟩
def frG (g : Gs) (n : Int) : List Int := (sdl g.br).filter (dueB g.P (atT g.now n) g.kv)
def safeG (g : Gs) (n : Int) : Bool := (g.al || silG g n) || (frG g n).any (hasZ g.vi)
def tickG (g : Gs) (n : Int) : Gs := { g with now := atT g.now n, A := if wdG g n then atT g.now n else g.A, don := silG g n || g.don, rt := if silG g n then atT g.now n else g.rt, kv := putU (atT g.now n) g.kv (frG g n), br := [], vi := [], al := false }
def tickO (g : Gs) (n : Int) : List Rcy := tkO (atT g.now n) (wdG g n) (silG g n) (safeG g n) (frG g n)
theorem any_snoc (l : List Int) (x : Int) (p : Int → Bool) : (l ++ [x]).any p = (l.any p || p x) := by simp
theorem atT_ok {now n : Int} (h : 0 ≤ now ∧ now ≤ 1099511627776) : 0 ≤ atT now n ∧ atT now n ≤ 1099511627776 := by
  unfold atT
  split <;> omega
section
variable (W S P now A H0 : Int) (don : Bool) (rt : Int) (kv : List (Int × Sw)) (br vi : List Int) (al : Bool)
theorem b_tickU1 (n : Int) (ok : OkG ⟨W, S, P, now, A, H0, don, rt, kv, br, vi, al⟩) (c1 : ¬ W ≤ atT now n - A) (c2 : ¬ S ≤ atT now n - H0) : DoesK Try.prog 1 12 [.ptr 0 0, .int .i64 n] [.pack (GU ⟨W, S, P, now, A, H0, don, rt, kv, br, vi, al⟩)] (EndF 1 (.sl 1 .rcy 0 (tickO ⟨W, S, P, now, A, H0, don, rt, kv, br, vi, al⟩ n).length) ([.pack (GU (tickG ⟨W, S, P, now, A, H0, don, rt, kv, br, vi, al⟩ n))] ++ [.rows .rcy (tickO ⟨W, S, P, now, A, H0, don, rt, kv, br, vi, al⟩ n)])) := by
  refine DoesK.close ?_
  have h1 := atT_ok (n := n) ok.now
  have h2 := ok.A
  have h3 := ok.H
  have h4 := ok.rt
  have h5 := ok.kv
  have h6 := ok.br
  have h7 := ok.vi
  dsimp only at h1 h2 h3 h4 h5 h6 h7
  have h8 := sdl_len br
  have d1 : decide (W ≤ atT now n - A) = false := decide_eq_false c1
  have d2 : decide (S ≤ atT now n - H0) = false := decide_eq_false c2
  have w1 : IntKind.i64.wrap (atT now n - A) = atT now n - A := wrap_i64 _ (by omega) (by omega)
  have w2 : IntKind.i64.wrap (atT now n - H0) = atT now n - H0 := wrap_i64 _ (by omega) (by omega)
  have q1 : wdG ⟨W, S, P, now, A, H0, don, rt, kv, br, vi, al⟩ n = false := d1
  have q2 : silG ⟨W, S, P, now, A, H0, don, rt, kv, br, vi, al⟩ n = false := by
    unfold silG mayB
    dsimp only
    rw [d2]
    rfl
  have q3 : tickG ⟨W, S, P, now, A, H0, don, rt, kv, br, vi, al⟩ n = ⟨W, S, P, atT now n, A, H0, don, rt, putU (atT now n) kv (frG ⟨W, S, P, now, A, H0, don, rt, kv, br, vi, al⟩ n), [], [], false⟩ := by
    unfold tickG
    rw [q1, q2]
    rfl
  have q4 : ∀ sf, safeG ⟨W, S, P, now, A, H0, don, rt, kv, br, vi, al⟩ n = sf → tickO ⟨W, S, P, now, A, H0, don, rt, kv, br, vi, al⟩ n = ([] : List Rcy) ++ outU (atT now n) (frG ⟨W, S, P, now, A, H0, don, rt, kv, br, vi, al⟩ n) ++ (if sf then [⟨atT now n, 1, 0⟩] else []) := fun sf hs => by
    unfold tickO tkO
    rw [q1, q2, hs]
    rfl
  have q5 : safeG ⟨W, S, P, now, A, H0, don, rt, kv, br, vi, al⟩ n = (al || (frG ⟨W, S, P, now, A, H0, don, rt, kv, br, vi, al⟩ n).any (hasZ vi)) := by
    unfold safeG
    rw [q2]
    dsimp only
    rw [Bool.or_false]
  rw [q3]
  refine w_body (rs := [.tmp 4]) (tm := [.ptr 0 0, .int .i64 n, .any, .any, .any, .any, .any, .any, .any, .any, .any, .any, .any, .any, .any, .any, .any, .any, .any, .any, .any, .any, .any, .any, .any, .any, .any, .any, .any, .any, .any, .any, .any, .any, .any, .any, .any, .any, .any, .any, .any, .any, .any, .any, .any, .any, .any, .any, .any, .any, .any, .any, .any, .any, .any, .any, .any, .any, .any, .any, .any, .any, .any, .any, .any, .any, .any, .any, .any, .any, .any, .any, .any, .any, .any, .any, .any, .any, .any, .any, .any, .any, .any, .any, .any, .any, .any, .any, .any, .any, .any, .any, .any, .any, .any, .any, .any, .any, .any, .any, .any, .any, .any, .any, .any, .any, .any, .any, .any, .any, .any, .any, .any, .any, .any, .any, .any, .any, .any, .any, .any, .any, .any, .any, .any, .any, .any, .any, .any, .any, .any, .any, .any, .any, .any, .any, .any, .any, .any, .any, .any, .any, .any, .any, .any, .any, .any, .any, .any, .any, .any]) fn_12 rfl rfl rfl rfl fun R hR => ?_
  (have zx1 := @d1; have zx2 := @d2; have zx3 := @w1; have zx4 := @w2; all_goals (try ((first | (with_reducible refine wp_id ?_) | (with_reducible refine does_id ?_) | (with_reducible refine ops_id ?_)); refine walk ?_; (repeat' (first | exact trivial | with_reducible refine And.intro ?_ ?_)); all_goals (repeat (first | (with_reducible refine ImpB.mk fun hb => ?_) | (with_reducible refine ImpK.mk fun hK => ?_) | (with_reducible refine ImpF.mk fun hF => ?_) | (with_reducible refine ImpQ.mk fun hp => ?_) | (with_reducible refine AllE.mk fun p => ?_) | (with_reducible refine AllR.mk fun rest => ?_) | (with_reducible refine AllK.mk fun K => ?_))))); repeat' (with_reducible refine And.intro ?_ ?_))
  all_goals first | exact h1 | exact h4 | skip
  all_goals first | exact (sortZ_len br).symm | (rw [sortZ_len]; omega) | skip
  refine Wp.ghost (gh_adoptC (t := 2) (i := 0) .rcy rfl trivial) ?_
  simp only [go_sem, decide_true, decide_false, Int.reduceToNat, Nat.min_eq_left, Nat.min_eq_right, Int.reducePow, Nat.reducePow, Int.reduceLE, Int.reduceLT, Int.reduceMul, Int.reduceAdd, Int.reduceSub, Int.reduceNeg, Bool.not_true, Bool.not_false, Bool.not_not, ↓reduceIte, Nat.reduceAdd, Nat.reduceSub, Nat.reduceMul, Nat.reduceEqDiff, reduceCtorEq, Nat.reduceLT, Nat.reduceLeDiff, Nat.reduceGT]
  any_goals ((try (refine w_seq fun K hK => ?_)); (try (refine w_block ?_)); refine w_loop (A := Nat) (fun k => k ≤ (sdl br).length) (fun k => (sdl br).length - k) (fun k => [(95, .int .i64 k), (7, .bool (al || (frd (dueB P (atT now n) kv) (sdl br) k).any (hasZ vi)))]) (fun k => [(2, .cells [.sl 6 .rcy 0 (([] : List Rcy) ++ outU (atT now n) (frd (dueB P (atT now n) kv) (sdl br) k)).length]), (3, .map .int .sw (putU (atT now n) kv (frd (dueB P (atT now n) kv) (sdl br) k))), (6, .rows .rcy (([] : List Rcy) ++ outU (atT now n) (frd (dueB P (atT now n) kv) (sdl br) k)))]) (0) (ws := ?ws1) (tk := ?tk1) ?hw1 ?ht1 ?hi ?h0 ?LH1; (case hw1 => simp only [go_sem, decide_true, decide_false, Int.reduceToNat, Nat.min_eq_left, Nat.min_eq_right, Int.reducePow, Nat.reducePow, Int.reduceLE, Int.reduceLT, Int.reduceMul, Int.reduceAdd, Int.reduceSub, Int.reduceNeg, Bool.not_true, Bool.not_false, Bool.not_not, ↓reduceIte, Nat.reduceAdd, Nat.reduceSub, Nat.reduceMul, Nat.reduceEqDiff, reduceCtorEq, Nat.reduceLT, Nat.reduceLeDiff, Nat.reduceGT]; exact rfl); (case ht1 => simp only [go_sem, decide_true, decide_false, Int.reduceToNat, Nat.min_eq_left, Nat.min_eq_right, Int.reducePow, Nat.reducePow, Int.reduceLE, Int.reduceLT, Int.reduceMul, Int.reduceAdd, Int.reduceSub, Int.reduceNeg, Bool.not_true, Bool.not_false, Bool.not_not, ↓reduceIte, Nat.reduceAdd, Nat.reduceSub, Nat.reduceMul, Nat.reduceEqDiff, reduceCtorEq, Nat.reduceLT, Nat.reduceLeDiff, Nat.reduceGT]; exact rfl); (case' LH1 => rintro k E t hx hE ht; simp only [go_sem] at ht; subst ht; simp only [go_sem]; try dsimp only at hx))
  case hi => exact Nat.zero_le _
  case h0 =>
    (focus (refine ⟨_, _, Gh.refl, [0, 1, 2, 3, 4, 5, 6], rfl, ?_⟩; (refine ⟨?_, ?_, ?_⟩ <;> simp only [go_sem, List.range, List.range.loop, List.nodup_cons, List.nodup_nil, List.mem_cons, List.not_mem_nil, or_false, or_self, decide_true, decide_false, Int.reduceToNat, Nat.min_eq_left, Nat.min_eq_right, Int.reducePow, Nat.reducePow, Int.reduceLE, Int.reduceLT, Int.reduceMul, Int.reduceAdd, Int.reduceSub, Int.reduceNeg, Bool.not_true, Bool.not_false, Bool.not_not, ↓reduceIte, Nat.reduceAdd, Nat.reduceSub, Nat.reduceMul, Nat.reduceEqDiff, reduceCtorEq, Nat.reduceLT, Nat.reduceLeDiff, Nat.reduceGT]); (try any_goals (refine ⟨?_, ?_⟩)); (try any_goals (with_reducible rfl))))
    all_goals (repeat' (first | (refine And.intro ?_ ?_) | exact List.Perm.refl _ | rfl | (simp [frd]; done) | (simp [frd, outU]; done)))
  case LH1 =>
    have hk0 : k ≤ (sdl br).length := hx
    have hw : IntKind.i64.wrap ((k : Int) + 1) = ((k + 1 : Nat) : Int) := by rw [wrap_i64 _ (by omega) (by omega)]; omega
    by_cases hk : k < (sdl br).length
    · have hkd : decide ((k : Int) < ((sdl br).length : Int)) = true := decide_eq_true (by omega)
      have hsd : compact (sortZ br) = sdl br := rfl
      have hm : (mget (k := .int) (e := .sw) (putU (atT now n) kv (frd (dueB P (atT now n) kv) (sdl br) k)) ((sdl br).getD k 0)).getD ⟨false, 0⟩ = mgz kv ((sdl br).getD k 0) := by
        have q := mgz_putU (atT now n) (frd (dueB P (atT now n) kv) (sdl br) k) kv ((sdl br).getD k 0)
        rw [if_neg (frd_new hk)] at q
        exact q
      have h9 := h5 ((sdl br).getD k 0)
      have hol : (outU (atT now n) (frd (dueB P (atT now n) kv) (sdl br) k)).length ≤ k := by unfold outU; rw [List.length_map]; exact frd_len
      have hbr : k < br.length := by omega
      by_cases hdu : dueB P (atT now n) kv ((sdl br).getD k 0) = true
      · have hy := frd_yes (due := (dueB P (atT now n) kv)) hk hdu
        have hdu' : (!(mgz kv ((sdl br).getD k 0)).done || decide (P ≤ atT now n - (mgz kv ((sdl br).getD k 0)).time)) = true := hdu
        (have zx1 := @hsd; have zx2 := @hkd; have zx3 := @hw; have zx4 := @hm; have zx5 := @hdu'; all_goals (try ((first | (with_reducible refine wp_id ?_) | (with_reducible refine does_id ?_) | (with_reducible refine ops_id ?_)); refine walk ?_; (repeat' (first | exact trivial | with_reducible refine And.intro ?_ ?_)); all_goals (repeat (first | (with_reducible refine ImpB.mk fun hb => ?_) | (with_reducible refine ImpK.mk fun hK => ?_) | (with_reducible refine ImpF.mk fun hF => ?_) | (with_reducible refine ImpQ.mk fun hp => ?_) | (with_reducible refine AllE.mk fun p => ?_) | (with_reducible refine AllR.mk fun rest => ?_) | (with_reducible refine AllK.mk fun K => ?_))))); repeat' (with_reducible refine And.intro ?_ ?_))
        all_goals first | exact h9.1 | exact h9.2 | omega | exact absurd (hb.symm.trans hdu') (by decide) | skip
        refine Does.of_K ?_
        refine w_body (rs := []) (tm := [.int .i64 2, .int .i64 ((sdl br).getD k 0), .ptr 2 0, .ptr 1 0, .any, .any, .any, .any, .any, .any, .any, .any, .any, .any, .any, .any]) fn_21 rfl rfl rfl rfl fun R hR => ?_
        (have zx1 := @hsd; have zx2 := @hkd; have zx3 := @hw; have zx4 := @hm; have zx5 := @hdu'; all_goals (try ((first | (with_reducible refine wp_id ?_) | (with_reducible refine does_id ?_) | (with_reducible refine ops_id ?_)); refine walk ?_; (repeat' (first | exact trivial | with_reducible refine And.intro ?_ ?_)); all_goals (repeat (first | (with_reducible refine ImpB.mk fun hb => ?_) | (with_reducible refine ImpK.mk fun hK => ?_) | (with_reducible refine ImpF.mk fun hF => ?_) | (with_reducible refine ImpQ.mk fun hp => ?_) | (with_reducible refine AllE.mk fun p => ?_) | (with_reducible refine AllR.mk fun rest => ?_) | (with_reducible refine AllK.mk fun K => ?_))))); repeat' (with_reducible refine And.intro ?_ ?_))
        all_goals first | omega | (simp only [List.length_append, List.length_cons, List.length_nil]; omega) | skip
        all_goals (refine ⟨k + 1, ⟨by first | omega | (dsimp only; omega), by first | omega | (dsimp only; omega)⟩, ?_⟩)
        all_goals (focus (refine ⟨_, _, Gh.refl, [0, 1, 2, 3, 4, 5, 8], rfl, ?_⟩; (refine ⟨?_, ?_, ?_⟩ <;> simp only [go_sem, List.range, List.range.loop, List.nodup_cons, List.nodup_nil, List.mem_cons, List.not_mem_nil, or_false, or_self, decide_true, decide_false, Int.reduceToNat, Nat.min_eq_left, Nat.min_eq_right, Int.reducePow, Nat.reducePow, Int.reduceLE, Int.reduceLT, Int.reduceMul, Int.reduceAdd, Int.reduceSub, Int.reduceNeg, Bool.not_true, Bool.not_false, Bool.not_not, ↓reduceIte, Nat.reduceAdd, Nat.reduceSub, Nat.reduceMul, Nat.reduceEqDiff, reduceCtorEq, Nat.reduceLT, Nat.reduceLeDiff, Nat.reduceGT]); (try any_goals (refine ⟨?_, ?_⟩)); (try any_goals (with_reducible rfl))))
        all_goals (repeat' (first | (refine And.intro ?_ ?_) | rfl | (rw [hy, any_snoc, ← Bool.or_assoc, hb]; done) | (rw [hy, any_snoc, ← Bool.or_assoc, hb]; rfl) | (rw [hy, outU_snoc]; first | done | rfl | (simp; done)) | (rw [hy, putU_snoc]; first | done | exact List.Perm.refl _)))
      · have hdu0 : dueB P (atT now n) kv ((sdl br).getD k 0) = false := by cases q : dueB P (atT now n) kv ((sdl br).getD k 0) <;> simp_all
        have hy := frd_no (due := (dueB P (atT now n) kv)) hk hdu0
        have hdu' : (!(mgz kv ((sdl br).getD k 0)).done || decide (P ≤ atT now n - (mgz kv ((sdl br).getD k 0)).time)) = false := hdu0
        (have zx1 := @hsd; have zx2 := @hkd; have zx3 := @hw; have zx4 := @hm; have zx5 := @hdu'; all_goals (try ((first | (with_reducible refine wp_id ?_) | (with_reducible refine does_id ?_) | (with_reducible refine ops_id ?_)); refine walk ?_; (repeat' (first | exact trivial | with_reducible refine And.intro ?_ ?_)); all_goals (repeat (first | (with_reducible refine ImpB.mk fun hb => ?_) | (with_reducible refine ImpK.mk fun hK => ?_) | (with_reducible refine ImpF.mk fun hF => ?_) | (with_reducible refine ImpQ.mk fun hp => ?_) | (with_reducible refine AllE.mk fun p => ?_) | (with_reducible refine AllR.mk fun rest => ?_) | (with_reducible refine AllK.mk fun K => ?_))))); repeat' (with_reducible refine And.intro ?_ ?_))
        all_goals first | exact h9.1 | exact h9.2 | omega | exact absurd (hb.symm.trans hdu') (by decide) | skip
        all_goals (refine ⟨k + 1, ⟨by first | omega | (dsimp only; omega), by first | omega | (dsimp only; omega)⟩, ?_⟩)
        all_goals (focus (refine ⟨_, _, Gh.refl, [0, 1, 2, 3, 4, 5, 6], rfl, ?_⟩; (refine ⟨?_, ?_, ?_⟩ <;> simp only [go_sem, List.range, List.range.loop, List.nodup_cons, List.nodup_nil, List.mem_cons, List.not_mem_nil, or_false, or_self, decide_true, decide_false, Int.reduceToNat, Nat.min_eq_left, Nat.min_eq_right, Int.reducePow, Nat.reducePow, Int.reduceLE, Int.reduceLT, Int.reduceMul, Int.reduceAdd, Int.reduceSub, Int.reduceNeg, Bool.not_true, Bool.not_false, Bool.not_not, ↓reduceIte, Nat.reduceAdd, Nat.reduceSub, Nat.reduceMul, Nat.reduceEqDiff, reduceCtorEq, Nat.reduceLT, Nat.reduceLeDiff, Nat.reduceGT]); (try any_goals (refine ⟨?_, ?_⟩)); (try any_goals (with_reducible rfl))))
        all_goals (repeat' (first | (refine And.intro ?_ ?_) | rfl | (rw [hy]; first | done | exact List.Perm.refl _)))
    · have hkd : decide ((k : Int) < ((sdl br).length : Int)) = false := decide_eq_false (by omega)
      have hsd : compact (sortZ br) = sdl br := rfl
      obtain rfl : k = (sdl br).length := by omega
      have hfe : frd (dueB P (atT now n) kv) (sdl br) (sdl br).length = frG ⟨W, S, P, now, A, H0, don, rt, kv, br, vi, al⟩ n := frd_end
      rw [hfe]
      cases hsf : (al || (frG ⟨W, S, P, now, A, H0, don, rt, kv, br, vi, al⟩ n).any (hasZ vi))
      · (have zx1 := @hsd; have zx2 := @hkd; have zx3 := @hsf; all_goals (try ((first | (with_reducible refine wp_id ?_) | (with_reducible refine does_id ?_) | (with_reducible refine ops_id ?_)); refine walk ?_; (repeat' (first | exact trivial | with_reducible refine And.intro ?_ ?_)); all_goals (repeat (first | (with_reducible refine ImpB.mk fun hb => ?_) | (with_reducible refine ImpK.mk fun hK => ?_) | (with_reducible refine ImpF.mk fun hF => ?_) | (with_reducible refine ImpQ.mk fun hp => ?_) | (with_reducible refine AllE.mk fun p => ?_) | (with_reducible refine AllR.mk fun rest => ?_) | (with_reducible refine AllK.mk fun K => ?_))))); repeat' (with_reducible refine And.intro ?_ ?_))
        all_goals first | omega | skip
        rw [q4 false (q5.trans hsf)]
        (focus (refine ⟨_, _, Gh.trans (gh_adoptC (t := 0) (i := 10) .int rfl trivial) (Gh.trans (gh_adoptC (t := 0) (i := 11) .int rfl trivial) (gh_close (t := 0) (ts := [3, 7, 8]) (l := GU ⟨W, S, P, atT now n, A, H0, don, rt, putU (atT now n) kv (frG ⟨W, S, P, now, A, H0, don, rt, kv, br, vi, al⟩ n), [], [], false⟩) ⟨⟨_, _, rfl⟩, ?_, by simp⟩)), [0, 6], rfl, ?_⟩; all_goals (refine ⟨?_, ?_, ?_⟩ <;> simp only [go_sem, List.range, List.range.loop, List.nodup_cons, List.nodup_nil, List.mem_cons, List.not_mem_nil, or_false, or_self, decide_true, decide_false, Int.reduceToNat, Nat.min_eq_left, Nat.min_eq_right, Int.reducePow, Nat.reducePow, Int.reduceLE, Int.reduceLT, Int.reduceMul, Int.reduceAdd, Int.reduceSub, Int.reduceNeg, Bool.not_true, Bool.not_false, Bool.not_not, ↓reduceIte, Nat.reduceAdd, Nat.reduceSub, Nat.reduceMul, Nat.reduceEqDiff, reduceCtorEq, Nat.reduceLT, Nat.reduceLeDiff, Nat.reduceGT]); (try any_goals (refine ⟨?_, ?_⟩)); (try any_goals (with_reducible rfl))))
        all_goals (repeat' (first | (refine And.intro ?_ ?_) | exact List.Perm.refl _ | rfl | (simp; done)))
      · have hol : (outU (atT now n) (frG ⟨W, S, P, now, A, H0, don, rt, kv, br, vi, al⟩ n)).length ≤ br.length := by
          unfold outU; rw [List.length_map]; unfold frG; exact Nat.le_trans (List.length_filter_le _ _) h8
        (have zx1 := @hsd; have zx2 := @hkd; have zx3 := @hsf; all_goals (try ((first | (with_reducible refine wp_id ?_) | (with_reducible refine does_id ?_) | (with_reducible refine ops_id ?_)); refine walk ?_; (repeat' (first | exact trivial | with_reducible refine And.intro ?_ ?_)); all_goals (repeat (first | (with_reducible refine ImpB.mk fun hb => ?_) | (with_reducible refine ImpK.mk fun hK => ?_) | (with_reducible refine ImpF.mk fun hF => ?_) | (with_reducible refine ImpQ.mk fun hp => ?_) | (with_reducible refine AllE.mk fun p => ?_) | (with_reducible refine AllR.mk fun rest => ?_) | (with_reducible refine AllK.mk fun K => ?_))))); repeat' (with_reducible refine And.intro ?_ ?_))
        all_goals first | omega | skip
        refine Does.of_K ?_
        refine w_body (rs := []) (tm := [.int .i64 1, .int .i64 0, .ptr 2 0, .ptr 1 0, .any, .any, .any, .any, .any, .any, .any, .any, .any, .any, .any, .any]) fn_21 rfl rfl rfl rfl fun R hR => ?_
        (have zx1 := @hsd; have zx2 := @hkd; have zx3 := @hsf; all_goals (try ((first | (with_reducible refine wp_id ?_) | (with_reducible refine does_id ?_) | (with_reducible refine ops_id ?_)); refine walk ?_; (repeat' (first | exact trivial | with_reducible refine And.intro ?_ ?_)); all_goals (repeat (first | (with_reducible refine ImpB.mk fun hb => ?_) | (with_reducible refine ImpK.mk fun hK => ?_) | (with_reducible refine ImpF.mk fun hF => ?_) | (with_reducible refine ImpQ.mk fun hp => ?_) | (with_reducible refine AllE.mk fun p => ?_) | (with_reducible refine AllR.mk fun rest => ?_) | (with_reducible refine AllK.mk fun K => ?_))))); repeat' (with_reducible refine And.intro ?_ ?_))
        all_goals first | omega | (simp only [List.length_append, List.length_cons, List.length_nil]; omega) | skip
        rw [q4 true (q5.trans hsf)]
        (focus (refine ⟨_, _, Gh.trans (gh_adoptC (t := 0) (i := 10) .int rfl trivial) (Gh.trans (gh_adoptC (t := 0) (i := 11) .int rfl trivial) (gh_close (t := 0) (ts := [3, 9, 10]) (l := GU ⟨W, S, P, atT now n, A, H0, don, rt, putU (atT now n) kv (frG ⟨W, S, P, now, A, H0, don, rt, kv, br, vi, al⟩ n), [], [], false⟩) ⟨⟨_, _, rfl⟩, ?_, by simp⟩)), [0, 8], rfl, ?_⟩; all_goals (refine ⟨?_, ?_, ?_⟩ <;> simp only [go_sem, List.range, List.range.loop, List.nodup_cons, List.nodup_nil, List.mem_cons, List.not_mem_nil, or_false, or_self, decide_true, decide_false, Int.reduceToNat, Nat.min_eq_left, Nat.min_eq_right, Int.reducePow, Nat.reducePow, Int.reduceLE, Int.reduceLT, Int.reduceMul, Int.reduceAdd, Int.reduceSub, Int.reduceNeg, Bool.not_true, Bool.not_false, Bool.not_not, ↓reduceIte, Nat.reduceAdd, Nat.reduceSub, Nat.reduceMul, Nat.reduceEqDiff, reduceCtorEq, Nat.reduceLT, Nat.reduceLeDiff, Nat.reduceGT]); (try any_goals (refine ⟨?_, ?_⟩)); (try any_goals (with_reducible rfl))))
        all_goals (repeat' (first | (refine And.intro ?_ ?_) | exact List.Perm.refl _ | rfl | (simp; done)))
theorem b_tickU2 (n : Int) (ok : OkG ⟨W, S, P, now, A, H0, don, rt, kv, br, vi, al⟩) (c1 : ¬ W ≤ atT now n - A) (c2 : S ≤ atT now n - H0) (c3 : (!don || decide (P ≤ atT now n - rt)) = false) : DoesK Try.prog 1 12 [.ptr 0 0, .int .i64 n] [.pack (GU ⟨W, S, P, now, A, H0, don, rt, kv, br, vi, al⟩)] (EndF 1 (.sl 1 .rcy 0 (tickO ⟨W, S, P, now, A, H0, don, rt, kv, br, vi, al⟩ n).length) ([.pack (GU (tickG ⟨W, S, P, now, A, H0, don, rt, kv, br, vi, al⟩ n))] ++ [.rows .rcy (tickO ⟨W, S, P, now, A, H0, don, rt, kv, br, vi, al⟩ n)])) := by
  refine DoesK.close ?_
  have h1 := atT_ok (n := n) ok.now
  have h2 := ok.A
  have h3 := ok.H
  have h4 := ok.rt
  have h5 := ok.kv
  have h6 := ok.br
  have h7 := ok.vi
  dsimp only at h1 h2 h3 h4 h5 h6 h7
  have h8 := sdl_len br
  have d1 : decide (W ≤ atT now n - A) = false := decide_eq_false c1
  have d2 : decide (S ≤ atT now n - H0) = true := decide_eq_true c2
  have w1 : IntKind.i64.wrap (atT now n - A) = atT now n - A := wrap_i64 _ (by omega) (by omega)
  have w2 : IntKind.i64.wrap (atT now n - H0) = atT now n - H0 := wrap_i64 _ (by omega) (by omega)
  have q1 : wdG ⟨W, S, P, now, A, H0, don, rt, kv, br, vi, al⟩ n = false := d1
  have q2 : silG ⟨W, S, P, now, A, H0, don, rt, kv, br, vi, al⟩ n = false := by
    unfold silG mayB
    dsimp only
    rw [d2, c3]
    rfl
  have q3 : tickG ⟨W, S, P, now, A, H0, don, rt, kv, br, vi, al⟩ n = ⟨W, S, P, atT now n, A, H0, don, rt, putU (atT now n) kv (frG ⟨W, S, P, now, A, H0, don, rt, kv, br, vi, al⟩ n), [], [], false⟩ := by
    unfold tickG
    rw [q1, q2]
    rfl
  have q4 : ∀ sf, safeG ⟨W, S, P, now, A, H0, don, rt, kv, br, vi, al⟩ n = sf → tickO ⟨W, S, P, now, A, H0, don, rt, kv, br, vi, al⟩ n = ([] : List Rcy) ++ outU (atT now n) (frG ⟨W, S, P, now, A, H0, don, rt, kv, br, vi, al⟩ n) ++ (if sf then [⟨atT now n, 1, 0⟩] else []) := fun sf hs => by
    unfold tickO tkO
    rw [q1, q2, hs]
    rfl
  have q5 : safeG ⟨W, S, P, now, A, H0, don, rt, kv, br, vi, al⟩ n = (al || (frG ⟨W, S, P, now, A, H0, don, rt, kv, br, vi, al⟩ n).any (hasZ vi)) := by
    unfold safeG
    rw [q2]
    dsimp only
    rw [Bool.or_false]
  rw [q3]
  refine w_body (rs := [.tmp 4]) (tm := [.ptr 0 0, .int .i64 n, .any, .any, .any, .any, .any, .any, .any, .any, .any, .any, .any, .any, .any, .any, .any, .any, .any, .any, .any, .any, .any, .any, .any, .any, .any, .any, .any, .any, .any, .any, .any, .any, .any, .any, .any, .any, .any, .any, .any, .any, .any, .any, .any, .any, .any, .any, .any, .any, .any, .any, .any, .any, .any, .any, .any, .any, .any, .any, .any, .any, .any, .any, .any, .any, .any, .any, .any, .any, .any, .any, .any, .any, .any, .any, .any, .any, .any, .any, .any, .any, .any, .any, .any, .any, .any, .any, .any, .any, .any, .any, .any, .any, .any, .any, .any, .any, .any, .any, .any, .any, .any, .any, .any, .any, .any, .any, .any, .any, .any, .any, .any, .any, .any, .any, .any, .any, .any, .any, .any, .any, .any, .any, .any, .any, .any, .any, .any, .any, .any, .any, .any, .any, .any, .any, .any, .any, .any, .any, .any, .any, .any, .any, .any, .any, .any, .any, .any, .any, .any]) fn_12 rfl rfl rfl rfl fun R hR => ?_
  (have zx1 := @d1; have zx2 := @d2; have zx3 := @w1; have zx4 := @w2; have zx5 := @c3; all_goals (try ((first | (with_reducible refine wp_id ?_) | (with_reducible refine does_id ?_) | (with_reducible refine ops_id ?_)); refine walk ?_; (repeat' (first | exact trivial | with_reducible refine And.intro ?_ ?_)); all_goals (repeat (first | (with_reducible refine ImpB.mk fun hb => ?_) | (with_reducible refine ImpK.mk fun hK => ?_) | (with_reducible refine ImpF.mk fun hF => ?_) | (with_reducible refine ImpQ.mk fun hp => ?_) | (with_reducible refine AllE.mk fun p => ?_) | (with_reducible refine AllR.mk fun rest => ?_) | (with_reducible refine AllK.mk fun K => ?_))))); repeat' (with_reducible refine And.intro ?_ ?_))
  all_goals first | exact h1 | exact h4 | skip
  all_goals first | exact (sortZ_len br).symm | (rw [sortZ_len]; omega) | skip
  refine Wp.ghost (gh_adoptC (t := 2) (i := 0) .rcy rfl trivial) ?_
  simp only [go_sem, decide_true, decide_false, Int.reduceToNat, Nat.min_eq_left, Nat.min_eq_right, Int.reducePow, Nat.reducePow, Int.reduceLE, Int.reduceLT, Int.reduceMul, Int.reduceAdd, Int.reduceSub, Int.reduceNeg, Bool.not_true, Bool.not_false, Bool.not_not, ↓reduceIte, Nat.reduceAdd, Nat.reduceSub, Nat.reduceMul, Nat.reduceEqDiff, reduceCtorEq, Nat.reduceLT, Nat.reduceLeDiff, Nat.reduceGT]
  any_goals ((try (refine w_seq fun K hK => ?_)); (try (refine w_block ?_)); refine w_loop (A := Nat) (fun k => k ≤ (sdl br).length) (fun k => (sdl br).length - k) (fun k => [(95, .int .i64 k), (7, .bool (al || (frd (dueB P (atT now n) kv) (sdl br) k).any (hasZ vi)))]) (fun k => [(2, .cells [.sl 6 .rcy 0 (([] : List Rcy) ++ outU (atT now n) (frd (dueB P (atT now n) kv) (sdl br) k)).length]), (3, .map .int .sw (putU (atT now n) kv (frd (dueB P (atT now n) kv) (sdl br) k))), (6, .rows .rcy (([] : List Rcy) ++ outU (atT now n) (frd (dueB P (atT now n) kv) (sdl br) k)))]) (0) (ws := ?ws2) (tk := ?tk2) ?hw2 ?ht2 ?hi ?h0 ?LH2; (case hw2 => simp only [go_sem, decide_true, decide_false, Int.reduceToNat, Nat.min_eq_left, Nat.min_eq_right, Int.reducePow, Nat.reducePow, Int.reduceLE, Int.reduceLT, Int.reduceMul, Int.reduceAdd, Int.reduceSub, Int.reduceNeg, Bool.not_true, Bool.not_false, Bool.not_not, ↓reduceIte, Nat.reduceAdd, Nat.reduceSub, Nat.reduceMul, Nat.reduceEqDiff, reduceCtorEq, Nat.reduceLT, Nat.reduceLeDiff, Nat.reduceGT]; exact rfl); (case ht2 => simp only [go_sem, decide_true, decide_false, Int.reduceToNat, Nat.min_eq_left, Nat.min_eq_right, Int.reducePow, Nat.reducePow, Int.reduceLE, Int.reduceLT, Int.reduceMul, Int.reduceAdd, Int.reduceSub, Int.reduceNeg, Bool.not_true, Bool.not_false, Bool.not_not, ↓reduceIte, Nat.reduceAdd, Nat.reduceSub, Nat.reduceMul, Nat.reduceEqDiff, reduceCtorEq, Nat.reduceLT, Nat.reduceLeDiff, Nat.reduceGT]; exact rfl); (case' LH2 => rintro k E t hx hE ht; simp only [go_sem] at ht; subst ht; simp only [go_sem]; try dsimp only at hx))
  case hi => exact Nat.zero_le _
  case h0 =>
    (focus (refine ⟨_, _, Gh.refl, [0, 1, 2, 3, 4, 5, 6], rfl, ?_⟩; (refine ⟨?_, ?_, ?_⟩ <;> simp only [go_sem, List.range, List.range.loop, List.nodup_cons, List.nodup_nil, List.mem_cons, List.not_mem_nil, or_false, or_self, decide_true, decide_false, Int.reduceToNat, Nat.min_eq_left, Nat.min_eq_right, Int.reducePow, Nat.reducePow, Int.reduceLE, Int.reduceLT, Int.reduceMul, Int.reduceAdd, Int.reduceSub, Int.reduceNeg, Bool.not_true, Bool.not_false, Bool.not_not, ↓reduceIte, Nat.reduceAdd, Nat.reduceSub, Nat.reduceMul, Nat.reduceEqDiff, reduceCtorEq, Nat.reduceLT, Nat.reduceLeDiff, Nat.reduceGT]); (try any_goals (refine ⟨?_, ?_⟩)); (try any_goals (with_reducible rfl))))
    all_goals (repeat' (first | (refine And.intro ?_ ?_) | exact List.Perm.refl _ | rfl | (simp [frd]; done) | (simp [frd, outU]; done)))
  case LH2 =>
    have hk0 : k ≤ (sdl br).length := hx
    have hw : IntKind.i64.wrap ((k : Int) + 1) = ((k + 1 : Nat) : Int) := by rw [wrap_i64 _ (by omega) (by omega)]; omega
    by_cases hk : k < (sdl br).length
    · have hkd : decide ((k : Int) < ((sdl br).length : Int)) = true := decide_eq_true (by omega)
      have hsd : compact (sortZ br) = sdl br := rfl
      have hm : (mget (k := .int) (e := .sw) (putU (atT now n) kv (frd (dueB P (atT now n) kv) (sdl br) k)) ((sdl br).getD k 0)).getD ⟨false, 0⟩ = mgz kv ((sdl br).getD k 0) := by
        have q := mgz_putU (atT now n) (frd (dueB P (atT now n) kv) (sdl br) k) kv ((sdl br).getD k 0)
        rw [if_neg (frd_new hk)] at q
        exact q
      have h9 := h5 ((sdl br).getD k 0)
      have hol : (outU (atT now n) (frd (dueB P (atT now n) kv) (sdl br) k)).length ≤ k := by unfold outU; rw [List.length_map]; exact frd_len
      have hbr : k < br.length := by omega
      by_cases hdu : dueB P (atT now n) kv ((sdl br).getD k 0) = true
      · have hy := frd_yes (due := (dueB P (atT now n) kv)) hk hdu
        have hdu' : (!(mgz kv ((sdl br).getD k 0)).done || decide (P ≤ atT now n - (mgz kv ((sdl br).getD k 0)).time)) = true := hdu
        (have zx1 := @hsd; have zx2 := @hkd; have zx3 := @hw; have zx4 := @hm; have zx5 := @hdu'; all_goals (try ((first | (with_reducible refine wp_id ?_) | (with_reducible refine does_id ?_) | (with_reducible refine ops_id ?_)); refine walk ?_; (repeat' (first | exact trivial | with_reducible refine And.intro ?_ ?_)); all_goals (repeat (first | (with_reducible refine ImpB.mk fun hb => ?_) | (with_reducible refine ImpK.mk fun hK => ?_) | (with_reducible refine ImpF.mk fun hF => ?_) | (with_reducible refine ImpQ.mk fun hp => ?_) | (with_reducible refine AllE.mk fun p => ?_) | (with_reducible refine AllR.mk fun rest => ?_) | (with_reducible refine AllK.mk fun K => ?_))))); repeat' (with_reducible refine And.intro ?_ ?_))
        all_goals first | exact h9.1 | exact h9.2 | omega | exact absurd (hb.symm.trans hdu') (by decide) | skip
        refine Does.of_K ?_
        refine w_body (rs := []) (tm := [.int .i64 2, .int .i64 ((sdl br).getD k 0), .ptr 2 0, .ptr 1 0, .any, .any, .any, .any, .any, .any, .any, .any, .any, .any, .any, .any]) fn_21 rfl rfl rfl rfl fun R hR => ?_
        (have zx1 := @hsd; have zx2 := @hkd; have zx3 := @hw; have zx4 := @hm; have zx5 := @hdu'; all_goals (try ((first | (with_reducible refine wp_id ?_) | (with_reducible refine does_id ?_) | (with_reducible refine ops_id ?_)); refine walk ?_; (repeat' (first | exact trivial | with_reducible refine And.intro ?_ ?_)); all_goals (repeat (first | (with_reducible refine ImpB.mk fun hb => ?_) | (with_reducible refine ImpK.mk fun hK => ?_) | (with_reducible refine ImpF.mk fun hF => ?_) | (with_reducible refine ImpQ.mk fun hp => ?_) | (with_reducible refine AllE.mk fun p => ?_) | (with_reducible refine AllR.mk fun rest => ?_) | (with_reducible refine AllK.mk fun K => ?_))))); repeat' (with_reducible refine And.intro ?_ ?_))
        all_goals first | omega | (simp only [List.length_append, List.length_cons, List.length_nil]; omega) | skip
        all_goals (refine ⟨k + 1, ⟨by first | omega | (dsimp only; omega), by first | omega | (dsimp only; omega)⟩, ?_⟩)
        all_goals (focus (refine ⟨_, _, Gh.refl, [0, 1, 2, 3, 4, 5, 8], rfl, ?_⟩; (refine ⟨?_, ?_, ?_⟩ <;> simp only [go_sem, List.range, List.range.loop, List.nodup_cons, List.nodup_nil, List.mem_cons, List.not_mem_nil, or_false, or_self, decide_true, decide_false, Int.reduceToNat, Nat.min_eq_left, Nat.min_eq_right, Int.reducePow, Nat.reducePow, Int.reduceLE, Int.reduceLT, Int.reduceMul, Int.reduceAdd, Int.reduceSub, Int.reduceNeg, Bool.not_true, Bool.not_false, Bool.not_not, ↓reduceIte, Nat.reduceAdd, Nat.reduceSub, Nat.reduceMul, Nat.reduceEqDiff, reduceCtorEq, Nat.reduceLT, Nat.reduceLeDiff, Nat.reduceGT]); (try any_goals (refine ⟨?_, ?_⟩)); (try any_goals (with_reducible rfl))))
        all_goals (repeat' (first | (refine And.intro ?_ ?_) | rfl | (rw [hy, any_snoc, ← Bool.or_assoc, hb]; done) | (rw [hy, any_snoc, ← Bool.or_assoc, hb]; rfl) | (rw [hy, outU_snoc]; first | done | rfl | (simp; done)) | (rw [hy, putU_snoc]; first | done | exact List.Perm.refl _)))
      · have hdu0 : dueB P (atT now n) kv ((sdl br).getD k 0) = false := by cases q : dueB P (atT now n) kv ((sdl br).getD k 0) <;> simp_all
        have hy := frd_no (due := (dueB P (atT now n) kv)) hk hdu0
        have hdu' : (!(mgz kv ((sdl br).getD k 0)).done || decide (P ≤ atT now n - (mgz kv ((sdl br).getD k 0)).time)) = false := hdu0
        (have zx1 := @hsd; have zx2 := @hkd; have zx3 := @hw; have zx4 := @hm; have zx5 := @hdu'; all_goals (try ((first | (with_reducible refine wp_id ?_) | (with_reducible refine does_id ?_) | (with_reducible refine ops_id ?_)); refine walk ?_; (repeat' (first | exact trivial | with_reducible refine And.intro ?_ ?_)); all_goals (repeat (first | (with_reducible refine ImpB.mk fun hb => ?_) | (with_reducible refine ImpK.mk fun hK => ?_) | (with_reducible refine ImpF.mk fun hF => ?_) | (with_reducible refine ImpQ.mk fun hp => ?_) | (with_reducible refine AllE.mk fun p => ?_) | (with_reducible refine AllR.mk fun rest => ?_) | (with_reducible refine AllK.mk fun K => ?_))))); repeat' (with_reducible refine And.intro ?_ ?_))
        all_goals first | exact h9.1 | exact h9.2 | omega | exact absurd (hb.symm.trans hdu') (by decide) | skip
        all_goals (refine ⟨k + 1, ⟨by first | omega | (dsimp only; omega), by first | omega | (dsimp only; omega)⟩, ?_⟩)
        all_goals (focus (refine ⟨_, _, Gh.refl, [0, 1, 2, 3, 4, 5, 6], rfl, ?_⟩; (refine ⟨?_, ?_, ?_⟩ <;> simp only [go_sem, List.range, List.range.loop, List.nodup_cons, List.nodup_nil, List.mem_cons, List.not_mem_nil, or_false, or_self, decide_true, decide_false, Int.reduceToNat, Nat.min_eq_left, Nat.min_eq_right, Int.reducePow, Nat.reducePow, Int.reduceLE, Int.reduceLT, Int.reduceMul, Int.reduceAdd, Int.reduceSub, Int.reduceNeg, Bool.not_true, Bool.not_false, Bool.not_not, ↓reduceIte, Nat.reduceAdd, Nat.reduceSub, Nat.reduceMul, Nat.reduceEqDiff, reduceCtorEq, Nat.reduceLT, Nat.reduceLeDiff, Nat.reduceGT]); (try any_goals (refine ⟨?_, ?_⟩)); (try any_goals (with_reducible rfl))))
        all_goals (repeat' (first | (refine And.intro ?_ ?_) | rfl | (rw [hy]; first | done | exact List.Perm.refl _)))
    · have hkd : decide ((k : Int) < ((sdl br).length : Int)) = false := decide_eq_false (by omega)
      have hsd : compact (sortZ br) = sdl br := rfl
      obtain rfl : k = (sdl br).length := by omega
      have hfe : frd (dueB P (atT now n) kv) (sdl br) (sdl br).length = frG ⟨W, S, P, now, A, H0, don, rt, kv, br, vi, al⟩ n := frd_end
      rw [hfe]
      cases hsf : (al || (frG ⟨W, S, P, now, A, H0, don, rt, kv, br, vi, al⟩ n).any (hasZ vi))
      · (have zx1 := @hsd; have zx2 := @hkd; have zx3 := @hsf; all_goals (try ((first | (with_reducible refine wp_id ?_) | (with_reducible refine does_id ?_) | (with_reducible refine ops_id ?_)); refine walk ?_; (repeat' (first | exact trivial | with_reducible refine And.intro ?_ ?_)); all_goals (repeat (first | (with_reducible refine ImpB.mk fun hb => ?_) | (with_reducible refine ImpK.mk fun hK => ?_) | (with_reducible refine ImpF.mk fun hF => ?_) | (with_reducible refine ImpQ.mk fun hp => ?_) | (with_reducible refine AllE.mk fun p => ?_) | (with_reducible refine AllR.mk fun rest => ?_) | (with_reducible refine AllK.mk fun K => ?_))))); repeat' (with_reducible refine And.intro ?_ ?_))
        all_goals first | omega | skip
        rw [q4 false (q5.trans hsf)]
        (focus (refine ⟨_, _, Gh.trans (gh_adoptC (t := 0) (i := 10) .int rfl trivial) (Gh.trans (gh_adoptC (t := 0) (i := 11) .int rfl trivial) (gh_close (t := 0) (ts := [3, 7, 8]) (l := GU ⟨W, S, P, atT now n, A, H0, don, rt, putU (atT now n) kv (frG ⟨W, S, P, now, A, H0, don, rt, kv, br, vi, al⟩ n), [], [], false⟩) ⟨⟨_, _, rfl⟩, ?_, by simp⟩)), [0, 6], rfl, ?_⟩; all_goals (refine ⟨?_, ?_, ?_⟩ <;> simp only [go_sem, List.range, List.range.loop, List.nodup_cons, List.nodup_nil, List.mem_cons, List.not_mem_nil, or_false, or_self, decide_true, decide_false, Int.reduceToNat, Nat.min_eq_left, Nat.min_eq_right, Int.reducePow, Nat.reducePow, Int.reduceLE, Int.reduceLT, Int.reduceMul, Int.reduceAdd, Int.reduceSub, Int.reduceNeg, Bool.not_true, Bool.not_false, Bool.not_not, ↓reduceIte, Nat.reduceAdd, Nat.reduceSub, Nat.reduceMul, Nat.reduceEqDiff, reduceCtorEq, Nat.reduceLT, Nat.reduceLeDiff, Nat.reduceGT]); (try any_goals (refine ⟨?_, ?_⟩)); (try any_goals (with_reducible rfl))))
        all_goals (repeat' (first | (refine And.intro ?_ ?_) | exact List.Perm.refl _ | rfl | (simp; done)))
      · have hol : (outU (atT now n) (frG ⟨W, S, P, now, A, H0, don, rt, kv, br, vi, al⟩ n)).length ≤ br.length := by
          unfold outU; rw [List.length_map]; unfold frG; exact Nat.le_trans (List.length_filter_le _ _) h8
        (have zx1 := @hsd; have zx2 := @hkd; have zx3 := @hsf; all_goals (try ((first | (with_reducible refine wp_id ?_) | (with_reducible refine does_id ?_) | (with_reducible refine ops_id ?_)); refine walk ?_; (repeat' (first | exact trivial | with_reducible refine And.intro ?_ ?_)); all_goals (repeat (first | (with_reducible refine ImpB.mk fun hb => ?_) | (with_reducible refine ImpK.mk fun hK => ?_) | (with_reducible refine ImpF.mk fun hF => ?_) | (with_reducible refine ImpQ.mk fun hp => ?_) | (with_reducible refine AllE.mk fun p => ?_) | (with_reducible refine AllR.mk fun rest => ?_) | (with_reducible refine AllK.mk fun K => ?_))))); repeat' (with_reducible refine And.intro ?_ ?_))
        all_goals first | omega | skip
        refine Does.of_K ?_
        refine w_body (rs := []) (tm := [.int .i64 1, .int .i64 0, .ptr 2 0, .ptr 1 0, .any, .any, .any, .any, .any, .any, .any, .any, .any, .any, .any, .any]) fn_21 rfl rfl rfl rfl fun R hR => ?_
        (have zx1 := @hsd; have zx2 := @hkd; have zx3 := @hsf; all_goals (try ((first | (with_reducible refine wp_id ?_) | (with_reducible refine does_id ?_) | (with_reducible refine ops_id ?_)); refine walk ?_; (repeat' (first | exact trivial | with_reducible refine And.intro ?_ ?_)); all_goals (repeat (first | (with_reducible refine ImpB.mk fun hb => ?_) | (with_reducible refine ImpK.mk fun hK => ?_) | (with_reducible refine ImpF.mk fun hF => ?_) | (with_reducible refine ImpQ.mk fun hp => ?_) | (with_reducible refine AllE.mk fun p => ?_) | (with_reducible refine AllR.mk fun rest => ?_) | (with_reducible refine AllK.mk fun K => ?_))))); repeat' (with_reducible refine And.intro ?_ ?_))
        all_goals first | omega | (simp only [List.length_append, List.length_cons, List.length_nil]; omega) | skip
        rw [q4 true (q5.trans hsf)]
        (focus (refine ⟨_, _, Gh.trans (gh_adoptC (t := 0) (i := 10) .int rfl trivial) (Gh.trans (gh_adoptC (t := 0) (i := 11) .int rfl trivial) (gh_close (t := 0) (ts := [3, 9, 10]) (l := GU ⟨W, S, P, atT now n, A, H0, don, rt, putU (atT now n) kv (frG ⟨W, S, P, now, A, H0, don, rt, kv, br, vi, al⟩ n), [], [], false⟩) ⟨⟨_, _, rfl⟩, ?_, by simp⟩)), [0, 8], rfl, ?_⟩; all_goals (refine ⟨?_, ?_, ?_⟩ <;> simp only [go_sem, List.range, List.range.loop, List.nodup_cons, List.nodup_nil, List.mem_cons, List.not_mem_nil, or_false, or_self, decide_true, decide_false, Int.reduceToNat, Nat.min_eq_left, Nat.min_eq_right, Int.reducePow, Nat.reducePow, Int.reduceLE, Int.reduceLT, Int.reduceMul, Int.reduceAdd, Int.reduceSub, Int.reduceNeg, Bool.not_true, Bool.not_false, Bool.not_not, ↓reduceIte, Nat.reduceAdd, Nat.reduceSub, Nat.reduceMul, Nat.reduceEqDiff, reduceCtorEq, Nat.reduceLT, Nat.reduceLeDiff, Nat.reduceGT]); (try any_goals (refine ⟨?_, ?_⟩)); (try any_goals (with_reducible rfl))))
        all_goals (repeat' (first | (refine And.intro ?_ ?_) | exact List.Perm.refl _ | rfl | (simp; done)))
theorem b_tickU3 (n : Int) (ok : OkG ⟨W, S, P, now, A, H0, don, rt, kv, br, vi, al⟩) (c1 : ¬ W ≤ atT now n - A) (c2 : S ≤ atT now n - H0) (c3 : (!don || decide (P ≤ atT now n - rt)) = true) : DoesK Try.prog 1 12 [.ptr 0 0, .int .i64 n] [.pack (GU ⟨W, S, P, now, A, H0, don, rt, kv, br, vi, al⟩)] (EndF 1 (.sl 1 .rcy 0 (tickO ⟨W, S, P, now, A, H0, don, rt, kv, br, vi, al⟩ n).length) ([.pack (GU (tickG ⟨W, S, P, now, A, H0, don, rt, kv, br, vi, al⟩ n))] ++ [.rows .rcy (tickO ⟨W, S, P, now, A, H0, don, rt, kv, br, vi, al⟩ n)])) := by
  refine DoesK.close ?_
  have h1 := atT_ok (n := n) ok.now
  have h2 := ok.A
  have h3 := ok.H
  have h4 := ok.rt
  have h5 := ok.kv
  have h6 := ok.br
  have h7 := ok.vi
  dsimp only at h1 h2 h3 h4 h5 h6 h7
  have h8 := sdl_len br
  have d1 : decide (W ≤ atT now n - A) = false := decide_eq_false c1
  have d2 : decide (S ≤ atT now n - H0) = true := decide_eq_true c2
  have w1 : IntKind.i64.wrap (atT now n - A) = atT now n - A := wrap_i64 _ (by omega) (by omega)
  have w2 : IntKind.i64.wrap (atT now n - H0) = atT now n - H0 := wrap_i64 _ (by omega) (by omega)
  have q1 : wdG ⟨W, S, P, now, A, H0, don, rt, kv, br, vi, al⟩ n = false := d1
  have q2 : silG ⟨W, S, P, now, A, H0, don, rt, kv, br, vi, al⟩ n = true := by
    unfold silG mayB
    dsimp only
    rw [d2, c3]
    rfl
  have q3 : tickG ⟨W, S, P, now, A, H0, don, rt, kv, br, vi, al⟩ n = ⟨W, S, P, atT now n, A, H0, true, atT now n, putU (atT now n) kv (frG ⟨W, S, P, now, A, H0, don, rt, kv, br, vi, al⟩ n), [], [], false⟩ := by
    unfold tickG
    rw [q1, q2]
    rfl
  have q4 : ∀ sf, safeG ⟨W, S, P, now, A, H0, don, rt, kv, br, vi, al⟩ n = sf → tickO ⟨W, S, P, now, A, H0, don, rt, kv, br, vi, al⟩ n = ([⟨atT now n, 4, 0⟩] : List Rcy) ++ outU (atT now n) (frG ⟨W, S, P, now, A, H0, don, rt, kv, br, vi, al⟩ n) ++ (if sf then [⟨atT now n, 1, 0⟩] else []) := fun sf hs => by
    unfold tickO tkO
    rw [q1, q2, hs]
    rfl
  have q5 : safeG ⟨W, S, P, now, A, H0, don, rt, kv, br, vi, al⟩ n = (true || (frG ⟨W, S, P, now, A, H0, don, rt, kv, br, vi, al⟩ n).any (hasZ vi)) := by
    unfold safeG
    rw [q2]
    dsimp only
    rw [Bool.or_true]
  rw [q3]
  refine w_body (rs := [.tmp 4]) (tm := [.ptr 0 0, .int .i64 n, .any, .any, .any, .any, .any, .any, .any, .any, .any, .any, .any, .any, .any, .any, .any, .any, .any, .any, .any, .any, .any, .any, .any, .any, .any, .any, .any, .any, .any, .any, .any, .any, .any, .any, .any, .any, .any, .any, .any, .any, .any, .any, .any, .any, .any, .any, .any, .any, .any, .any, .any, .any, .any, .any, .any, .any, .any, .any, .any, .any, .any, .any, .any, .any, .any, .any, .any, .any, .any, .any, .any, .any, .any, .any, .any, .any, .any, .any, .any, .any, .any, .any, .any, .any, .any, .any, .any, .any, .any, .any, .any, .any, .any, .any, .any, .any, .any, .any, .any, .any, .any, .any, .any, .any, .any, .any, .any, .any, .any, .any, .any, .any, .any, .any, .any, .any, .any, .any, .any, .any, .any, .any, .any, .any, .any, .any, .any, .any, .any, .any, .any, .any, .any, .any, .any, .any, .any, .any, .any, .any, .any, .any, .any, .any, .any, .any, .any, .any, .any]) fn_12 rfl rfl rfl rfl fun R hR => ?_
  (have zx1 := @d1; have zx2 := @d2; have zx3 := @w1; have zx4 := @w2; have zx5 := @c3; all_goals (try ((first | (with_reducible refine wp_id ?_) | (with_reducible refine does_id ?_) | (with_reducible refine ops_id ?_)); refine walk ?_; (repeat' (first | exact trivial | with_reducible refine And.intro ?_ ?_)); all_goals (repeat (first | (with_reducible refine ImpB.mk fun hb => ?_) | (with_reducible refine ImpK.mk fun hK => ?_) | (with_reducible refine ImpF.mk fun hF => ?_) | (with_reducible refine ImpQ.mk fun hp => ?_) | (with_reducible refine AllE.mk fun p => ?_) | (with_reducible refine AllR.mk fun rest => ?_) | (with_reducible refine AllK.mk fun K => ?_))))); repeat' (with_reducible refine And.intro ?_ ?_))
  all_goals first | exact h1 | exact h4 | skip
  refine Does.of_K ?_
  refine w_body (rs := []) (tm := [.int .i64 4, .int .i64 0, .ptr 2 0, .ptr 1 0, .any, .any, .any, .any, .any, .any, .any, .any, .any, .any, .any, .any]) fn_21 rfl rfl rfl rfl fun R hR => ?_
  (have zx1 := @d1; have zx2 := @d2; have zx3 := @w1; have zx4 := @w2; have zx5 := @c3; all_goals (try ((first | (with_reducible refine wp_id ?_) | (with_reducible refine does_id ?_) | (with_reducible refine ops_id ?_)); refine walk ?_; (repeat' (first | exact trivial | with_reducible refine And.intro ?_ ?_)); all_goals (repeat (first | (with_reducible refine ImpB.mk fun hb => ?_) | (with_reducible refine ImpK.mk fun hK => ?_) | (with_reducible refine ImpF.mk fun hF => ?_) | (with_reducible refine ImpQ.mk fun hp => ?_) | (with_reducible refine AllE.mk fun p => ?_) | (with_reducible refine AllR.mk fun rest => ?_) | (with_reducible refine AllK.mk fun K => ?_))))); repeat' (with_reducible refine And.intro ?_ ?_))
  all_goals first | exact (sortZ_len br).symm | (rw [sortZ_len]; omega) | skip
  any_goals ((try (refine w_seq fun K hK => ?_)); (try (refine w_block ?_)); refine w_loop (A := Nat) (fun k => k ≤ (sdl br).length) (fun k => (sdl br).length - k) (fun k => [(95, .int .i64 k), (7, .bool (true || (frd (dueB P (atT now n) kv) (sdl br) k).any (hasZ vi)))]) (fun k => [(2, .cells [.sl 7 .rcy 0 (([⟨atT now n, 4, 0⟩] : List Rcy) ++ outU (atT now n) (frd (dueB P (atT now n) kv) (sdl br) k)).length]), (3, .map .int .sw (putU (atT now n) kv (frd (dueB P (atT now n) kv) (sdl br) k))), (6, .gone), (7, .rows .rcy (([⟨atT now n, 4, 0⟩] : List Rcy) ++ outU (atT now n) (frd (dueB P (atT now n) kv) (sdl br) k)))]) (0) (ws := ?ws3) (tk := ?tk3) ?hw3 ?ht3 ?hi ?h0 ?LH3; (case hw3 => simp only [go_sem, decide_true, decide_false, Int.reduceToNat, Nat.min_eq_left, Nat.min_eq_right, Int.reducePow, Nat.reducePow, Int.reduceLE, Int.reduceLT, Int.reduceMul, Int.reduceAdd, Int.reduceSub, Int.reduceNeg, Bool.not_true, Bool.not_false, Bool.not_not, ↓reduceIte, Nat.reduceAdd, Nat.reduceSub, Nat.reduceMul, Nat.reduceEqDiff, reduceCtorEq, Nat.reduceLT, Nat.reduceLeDiff, Nat.reduceGT]; exact rfl); (case ht3 => simp only [go_sem, decide_true, decide_false, Int.reduceToNat, Nat.min_eq_left, Nat.min_eq_right, Int.reducePow, Nat.reducePow, Int.reduceLE, Int.reduceLT, Int.reduceMul, Int.reduceAdd, Int.reduceSub, Int.reduceNeg, Bool.not_true, Bool.not_false, Bool.not_not, ↓reduceIte, Nat.reduceAdd, Nat.reduceSub, Nat.reduceMul, Nat.reduceEqDiff, reduceCtorEq, Nat.reduceLT, Nat.reduceLeDiff, Nat.reduceGT]; exact rfl); (case' LH3 => rintro k E t hx hE ht; simp only [go_sem] at ht; subst ht; simp only [go_sem]; try dsimp only at hx))
  case hi => exact Nat.zero_le _
  case h0 =>
    (focus (refine ⟨_, _, Gh.refl, [0, 1, 2, 3, 4, 5, 6, 7], rfl, ?_⟩; (refine ⟨?_, ?_, ?_⟩ <;> simp only [go_sem, List.range, List.range.loop, List.nodup_cons, List.nodup_nil, List.mem_cons, List.not_mem_nil, or_false, or_self, decide_true, decide_false, Int.reduceToNat, Nat.min_eq_left, Nat.min_eq_right, Int.reducePow, Nat.reducePow, Int.reduceLE, Int.reduceLT, Int.reduceMul, Int.reduceAdd, Int.reduceSub, Int.reduceNeg, Bool.not_true, Bool.not_false, Bool.not_not, ↓reduceIte, Nat.reduceAdd, Nat.reduceSub, Nat.reduceMul, Nat.reduceEqDiff, reduceCtorEq, Nat.reduceLT, Nat.reduceLeDiff, Nat.reduceGT]); (try any_goals (refine ⟨?_, ?_⟩)); (try any_goals (with_reducible rfl))))
    all_goals (repeat' (first | (refine And.intro ?_ ?_) | exact List.Perm.refl _ | rfl | (simp [frd]; done) | (simp [frd, outU]; done)))
  case LH3 =>
    have hk0 : k ≤ (sdl br).length := hx
    have hw : IntKind.i64.wrap ((k : Int) + 1) = ((k + 1 : Nat) : Int) := by rw [wrap_i64 _ (by omega) (by omega)]; omega
    by_cases hk : k < (sdl br).length
    · have hkd : decide ((k : Int) < ((sdl br).length : Int)) = true := decide_eq_true (by omega)
      have hsd : compact (sortZ br) = sdl br := rfl
      have hm : (mget (k := .int) (e := .sw) (putU (atT now n) kv (frd (dueB P (atT now n) kv) (sdl br) k)) ((sdl br).getD k 0)).getD ⟨false, 0⟩ = mgz kv ((sdl br).getD k 0) := by
        have q := mgz_putU (atT now n) (frd (dueB P (atT now n) kv) (sdl br) k) kv ((sdl br).getD k 0)
        rw [if_neg (frd_new hk)] at q
        exact q
      have h9 := h5 ((sdl br).getD k 0)
      have hol : (outU (atT now n) (frd (dueB P (atT now n) kv) (sdl br) k)).length ≤ k := by unfold outU; rw [List.length_map]; exact frd_len
      have hbr : k < br.length := by omega
      by_cases hdu : dueB P (atT now n) kv ((sdl br).getD k 0) = true
      · have hy := frd_yes (due := (dueB P (atT now n) kv)) hk hdu
        have hdu' : (!(mgz kv ((sdl br).getD k 0)).done || decide (P ≤ atT now n - (mgz kv ((sdl br).getD k 0)).time)) = true := hdu
        (have zx1 := @hsd; have zx2 := @hkd; have zx3 := @hw; have zx4 := @hm; have zx5 := @hdu'; all_goals (try ((first | (with_reducible refine wp_id ?_) | (with_reducible refine does_id ?_) | (with_reducible refine ops_id ?_)); refine walk ?_; (repeat' (first | exact trivial | with_reducible refine And.intro ?_ ?_)); all_goals (repeat (first | (with_reducible refine ImpB.mk fun hb => ?_) | (with_reducible refine ImpK.mk fun hK => ?_) | (with_reducible refine ImpF.mk fun hF => ?_) | (with_reducible refine ImpQ.mk fun hp => ?_) | (with_reducible refine AllE.mk fun p => ?_) | (with_reducible refine AllR.mk fun rest => ?_) | (with_reducible refine AllK.mk fun K => ?_))))); repeat' (with_reducible refine And.intro ?_ ?_))
        all_goals first | exact h9.1 | exact h9.2 | omega | exact absurd (hb.symm.trans hdu') (by decide) | skip
        refine Does.of_K ?_
        refine w_body (rs := []) (tm := [.int .i64 2, .int .i64 ((sdl br).getD k 0), .ptr 2 0, .ptr 1 0, .any, .any, .any, .any, .any, .any, .any, .any, .any, .any, .any, .any]) fn_21 rfl rfl rfl rfl fun R hR => ?_
        (have zx1 := @hsd; have zx2 := @hkd; have zx3 := @hw; have zx4 := @hm; have zx5 := @hdu'; all_goals (try ((first | (with_reducible refine wp_id ?_) | (with_reducible refine does_id ?_) | (with_reducible refine ops_id ?_)); refine walk ?_; (repeat' (first | exact trivial | with_reducible refine And.intro ?_ ?_)); all_goals (repeat (first | (with_reducible refine ImpB.mk fun hb => ?_) | (with_reducible refine ImpK.mk fun hK => ?_) | (with_reducible refine ImpF.mk fun hF => ?_) | (with_reducible refine ImpQ.mk fun hp => ?_) | (with_reducible refine AllE.mk fun p => ?_) | (with_reducible refine AllR.mk fun rest => ?_) | (with_reducible refine AllK.mk fun K => ?_))))); repeat' (with_reducible refine And.intro ?_ ?_))
        all_goals first | omega | (simp only [List.length_append, List.length_cons, List.length_nil]; omega) | skip
        all_goals (refine ⟨k + 1, ⟨by first | omega | (dsimp only; omega), by first | omega | (dsimp only; omega)⟩, ?_⟩)
        all_goals (focus (refine ⟨_, _, Gh.refl, [0, 1, 2, 3, 4, 5, 6, 9], rfl, ?_⟩; (refine ⟨?_, ?_, ?_⟩ <;> simp only [go_sem, List.range, List.range.loop, List.nodup_cons, List.nodup_nil, List.mem_cons, List.not_mem_nil, or_false, or_self, decide_true, decide_false, Int.reduceToNat, Nat.min_eq_left, Nat.min_eq_right, Int.reducePow, Nat.reducePow, Int.reduceLE, Int.reduceLT, Int.reduceMul, Int.reduceAdd, Int.reduceSub, Int.reduceNeg, Bool.not_true, Bool.not_false, Bool.not_not, ↓reduceIte, Nat.reduceAdd, Nat.reduceSub, Nat.reduceMul, Nat.reduceEqDiff, reduceCtorEq, Nat.reduceLT, Nat.reduceLeDiff, Nat.reduceGT]); (try any_goals (refine ⟨?_, ?_⟩)); (try any_goals (with_reducible rfl))))
        all_goals (repeat' (first | (refine And.intro ?_ ?_) | rfl | (rw [hy, any_snoc, ← Bool.or_assoc, hb]; done) | (rw [hy, any_snoc, ← Bool.or_assoc, hb]; rfl) | (rw [hy, outU_snoc]; first | done | rfl | (simp; done)) | (rw [hy, putU_snoc]; first | done | exact List.Perm.refl _)))
      · have hdu0 : dueB P (atT now n) kv ((sdl br).getD k 0) = false := by cases q : dueB P (atT now n) kv ((sdl br).getD k 0) <;> simp_all
        have hy := frd_no (due := (dueB P (atT now n) kv)) hk hdu0
        have hdu' : (!(mgz kv ((sdl br).getD k 0)).done || decide (P ≤ atT now n - (mgz kv ((sdl br).getD k 0)).time)) = false := hdu0
        (have zx1 := @hsd; have zx2 := @hkd; have zx3 := @hw; have zx4 := @hm; have zx5 := @hdu'; all_goals (try ((first | (with_reducible refine wp_id ?_) | (with_reducible refine does_id ?_) | (with_reducible refine ops_id ?_)); refine walk ?_; (repeat' (first | exact trivial | with_reducible refine And.intro ?_ ?_)); all_goals (repeat (first | (with_reducible refine ImpB.mk fun hb => ?_) | (with_reducible refine ImpK.mk fun hK => ?_) | (with_reducible refine ImpF.mk fun hF => ?_) | (with_reducible refine ImpQ.mk fun hp => ?_) | (with_reducible refine AllE.mk fun p => ?_) | (with_reducible refine AllR.mk fun rest => ?_) | (with_reducible refine AllK.mk fun K => ?_))))); repeat' (with_reducible refine And.intro ?_ ?_))
        all_goals first | exact h9.1 | exact h9.2 | omega | exact absurd (hb.symm.trans hdu') (by decide) | skip
        all_goals (refine ⟨k + 1, ⟨by first | omega | (dsimp only; omega), by first | omega | (dsimp only; omega)⟩, ?_⟩)
        all_goals (focus (refine ⟨_, _, Gh.refl, [0, 1, 2, 3, 4, 5, 6, 7], rfl, ?_⟩; (refine ⟨?_, ?_, ?_⟩ <;> simp only [go_sem, List.range, List.range.loop, List.nodup_cons, List.nodup_nil, List.mem_cons, List.not_mem_nil, or_false, or_self, decide_true, decide_false, Int.reduceToNat, Nat.min_eq_left, Nat.min_eq_right, Int.reducePow, Nat.reducePow, Int.reduceLE, Int.reduceLT, Int.reduceMul, Int.reduceAdd, Int.reduceSub, Int.reduceNeg, Bool.not_true, Bool.not_false, Bool.not_not, ↓reduceIte, Nat.reduceAdd, Nat.reduceSub, Nat.reduceMul, Nat.reduceEqDiff, reduceCtorEq, Nat.reduceLT, Nat.reduceLeDiff, Nat.reduceGT]); (try any_goals (refine ⟨?_, ?_⟩)); (try any_goals (with_reducible rfl))))
        all_goals (repeat' (first | (refine And.intro ?_ ?_) | rfl | (rw [hy]; first | done | exact List.Perm.refl _)))
    · have hkd : decide ((k : Int) < ((sdl br).length : Int)) = false := decide_eq_false (by omega)
      have hsd : compact (sortZ br) = sdl br := rfl
      obtain rfl : k = (sdl br).length := by omega
      have hfe : frd (dueB P (atT now n) kv) (sdl br) (sdl br).length = frG ⟨W, S, P, now, A, H0, don, rt, kv, br, vi, al⟩ n := frd_end
      rw [hfe]
      cases hsf : (true || (frG ⟨W, S, P, now, A, H0, don, rt, kv, br, vi, al⟩ n).any (hasZ vi))
      · (have zx1 := @hsd; have zx2 := @hkd; have zx3 := @hsf; all_goals (try ((first | (with_reducible refine wp_id ?_) | (with_reducible refine does_id ?_) | (with_reducible refine ops_id ?_)); refine walk ?_; (repeat' (first | exact trivial | with_reducible refine And.intro ?_ ?_)); all_goals (repeat (first | (with_reducible refine ImpB.mk fun hb => ?_) | (with_reducible refine ImpK.mk fun hK => ?_) | (with_reducible refine ImpF.mk fun hF => ?_) | (with_reducible refine ImpQ.mk fun hp => ?_) | (with_reducible refine AllE.mk fun p => ?_) | (with_reducible refine AllR.mk fun rest => ?_) | (with_reducible refine AllK.mk fun K => ?_))))); repeat' (with_reducible refine And.intro ?_ ?_))
        all_goals first | omega | skip
        rw [q4 false (q5.trans hsf)]
        (focus (refine ⟨_, _, Gh.trans (gh_adoptC (t := 0) (i := 10) .int rfl trivial) (Gh.trans (gh_adoptC (t := 0) (i := 11) .int rfl trivial) (gh_close (t := 0) (ts := [3, 8, 9]) (l := GU ⟨W, S, P, atT now n, A, H0, true, atT now n, putU (atT now n) kv (frG ⟨W, S, P, now, A, H0, don, rt, kv, br, vi, al⟩ n), [], [], false⟩) ⟨⟨_, _, rfl⟩, ?_, by simp⟩)), [0, 7], rfl, ?_⟩; all_goals (refine ⟨?_, ?_, ?_⟩ <;> simp only [go_sem, List.range, List.range.loop, List.nodup_cons, List.nodup_nil, List.mem_cons, List.not_mem_nil, or_false, or_self, decide_true, decide_false, Int.reduceToNat, Nat.min_eq_left, Nat.min_eq_right, Int.reducePow, Nat.reducePow, Int.reduceLE, Int.reduceLT, Int.reduceMul, Int.reduceAdd, Int.reduceSub, Int.reduceNeg, Bool.not_true, Bool.not_false, Bool.not_not, ↓reduceIte, Nat.reduceAdd, Nat.reduceSub, Nat.reduceMul, Nat.reduceEqDiff, reduceCtorEq, Nat.reduceLT, Nat.reduceLeDiff, Nat.reduceGT]); (try any_goals (refine ⟨?_, ?_⟩)); (try any_goals (with_reducible rfl))))
        all_goals (repeat' (first | (refine And.intro ?_ ?_) | exact List.Perm.refl _ | rfl | (simp; done)))
      · have hol : (outU (atT now n) (frG ⟨W, S, P, now, A, H0, don, rt, kv, br, vi, al⟩ n)).length ≤ br.length := by
          unfold outU; rw [List.length_map]; unfold frG; exact Nat.le_trans (List.length_filter_le _ _) h8
        (have zx1 := @hsd; have zx2 := @hkd; have zx3 := @hsf; all_goals (try ((first | (with_reducible refine wp_id ?_) | (with_reducible refine does_id ?_) | (with_reducible refine ops_id ?_)); refine walk ?_; (repeat' (first | exact trivial | with_reducible refine And.intro ?_ ?_)); all_goals (repeat (first | (with_reducible refine ImpB.mk fun hb => ?_) | (with_reducible refine ImpK.mk fun hK => ?_) | (with_reducible refine ImpF.mk fun hF => ?_) | (with_reducible refine ImpQ.mk fun hp => ?_) | (with_reducible refine AllE.mk fun p => ?_) | (with_reducible refine AllR.mk fun rest => ?_) | (with_reducible refine AllK.mk fun K => ?_))))); repeat' (with_reducible refine And.intro ?_ ?_))
        all_goals first | omega | skip
        refine Does.of_K ?_
        refine w_body (rs := []) (tm := [.int .i64 1, .int .i64 0, .ptr 2 0, .ptr 1 0, .any, .any, .any, .any, .any, .any, .any, .any, .any, .any, .any, .any]) fn_21 rfl rfl rfl rfl fun R hR => ?_
        (have zx1 := @hsd; have zx2 := @hkd; have zx3 := @hsf; all_goals (try ((first | (with_reducible refine wp_id ?_) | (with_reducible refine does_id ?_) | (with_reducible refine ops_id ?_)); refine walk ?_; (repeat' (first | exact trivial | with_reducible refine And.intro ?_ ?_)); all_goals (repeat (first | (with_reducible refine ImpB.mk fun hb => ?_) | (with_reducible refine ImpK.mk fun hK => ?_) | (with_reducible refine ImpF.mk fun hF => ?_) | (with_reducible refine ImpQ.mk fun hp => ?_) | (with_reducible refine AllE.mk fun p => ?_) | (with_reducible refine AllR.mk fun rest => ?_) | (with_reducible refine AllK.mk fun K => ?_))))); repeat' (with_reducible refine And.intro ?_ ?_))
        all_goals first | omega | (simp only [List.length_append, List.length_cons, List.length_nil]; omega) | skip
        rw [q4 true (q5.trans hsf)]
        (focus (refine ⟨_, _, Gh.trans (gh_adoptC (t := 0) (i := 10) .int rfl trivial) (Gh.trans (gh_adoptC (t := 0) (i := 11) .int rfl trivial) (gh_close (t := 0) (ts := [3, 10, 11]) (l := GU ⟨W, S, P, atT now n, A, H0, true, atT now n, putU (atT now n) kv (frG ⟨W, S, P, now, A, H0, don, rt, kv, br, vi, al⟩ n), [], [], false⟩) ⟨⟨_, _, rfl⟩, ?_, by simp⟩)), [0, 9], rfl, ?_⟩; all_goals (refine ⟨?_, ?_, ?_⟩ <;> simp only [go_sem, List.range, List.range.loop, List.nodup_cons, List.nodup_nil, List.mem_cons, List.not_mem_nil, or_false, or_self, decide_true, decide_false, Int.reduceToNat, Nat.min_eq_left, Nat.min_eq_right, Int.reducePow, Nat.reducePow, Int.reduceLE, Int.reduceLT, Int.reduceMul, Int.reduceAdd, Int.reduceSub, Int.reduceNeg, Bool.not_true, Bool.not_false, Bool.not_not, ↓reduceIte, Nat.reduceAdd, Nat.reduceSub, Nat.reduceMul, Nat.reduceEqDiff, reduceCtorEq, Nat.reduceLT, Nat.reduceLeDiff, Nat.reduceGT]); (try any_goals (refine ⟨?_, ?_⟩)); (try any_goals (with_reducible rfl))))
        all_goals (repeat' (first | (refine And.intro ?_ ?_) | exact List.Perm.refl _ | rfl | (simp; done)))
theorem b_tickU4 (n : Int) (ok : OkG ⟨W, S, P, now, A, H0, don, rt, kv, br, vi, al⟩) (c1 : W ≤ atT now n - A) (c2 : ¬ S ≤ atT now n - H0) : DoesK Try.prog 1 12 [.ptr 0 0, .int .i64 n] [.pack (GU ⟨W, S, P, now, A, H0, don, rt, kv, br, vi, al⟩)] (EndF 1 (.sl 1 .rcy 0 (tickO ⟨W, S, P, now, A, H0, don, rt, kv, br, vi, al⟩ n).length) ([.pack (GU (tickG ⟨W, S, P, now, A, H0, don, rt, kv, br, vi, al⟩ n))] ++ [.rows .rcy (tickO ⟨W, S, P, now, A, H0, don, rt, kv, br, vi, al⟩ n)])) := by
  refine DoesK.close ?_
  have h1 := atT_ok (n := n) ok.now
  have h2 := ok.A
  have h3 := ok.H
  have h4 := ok.rt
  have h5 := ok.kv
  have h6 := ok.br
  have h7 := ok.vi
  dsimp only at h1 h2 h3 h4 h5 h6 h7
  have h8 := sdl_len br
  have d1 : decide (W ≤ atT now n - A) = true := decide_eq_true c1
  have d2 : decide (S ≤ atT now n - H0) = false := decide_eq_false c2
  have w1 : IntKind.i64.wrap (atT now n - A) = atT now n - A := wrap_i64 _ (by omega) (by omega)
  have w2 : IntKind.i64.wrap (atT now n - H0) = atT now n - H0 := wrap_i64 _ (by omega) (by omega)
  have q1 : wdG ⟨W, S, P, now, A, H0, don, rt, kv, br, vi, al⟩ n = true := d1
  have q2 : silG ⟨W, S, P, now, A, H0, don, rt, kv, br, vi, al⟩ n = false := by
    unfold silG mayB
    dsimp only
    rw [d2]
    rfl
  have q3 : tickG ⟨W, S, P, now, A, H0, don, rt, kv, br, vi, al⟩ n = ⟨W, S, P, atT now n, atT now n, H0, don, rt, putU (atT now n) kv (frG ⟨W, S, P, now, A, H0, don, rt, kv, br, vi, al⟩ n), [], [], false⟩ := by
    unfold tickG
    rw [q1, q2]
    rfl
  have q4 : ∀ sf, safeG ⟨W, S, P, now, A, H0, don, rt, kv, br, vi, al⟩ n = sf → tickO ⟨W, S, P, now, A, H0, don, rt, kv, br, vi, al⟩ n = ([⟨atT now n, 3, 0⟩] : List Rcy) ++ outU (atT now n) (frG ⟨W, S, P, now, A, H0, don, rt, kv, br, vi, al⟩ n) ++ (if sf then [⟨atT now n, 1, 0⟩] else []) := fun sf hs => by
    unfold tickO tkO
    rw [q1, q2, hs]
    rfl
  have q5 : safeG ⟨W, S, P, now, A, H0, don, rt, kv, br, vi, al⟩ n = (al || (frG ⟨W, S, P, now, A, H0, don, rt, kv, br, vi, al⟩ n).any (hasZ vi)) := by
    unfold safeG
    rw [q2]
    dsimp only
    rw [Bool.or_false]
  rw [q3]
  refine w_body (rs := [.tmp 4]) (tm := [.ptr 0 0, .int .i64 n, .any, .any, .any, .any, .any, .any, .any, .any, .any, .any, .any, .any, .any, .any, .any, .any, .any, .any, .any, .any, .any, .any, .any, .any, .any, .any, .any, .any, .any, .any, .any, .any, .any, .any, .any, .any, .any, .any, .any, .any, .any, .any, .any, .any, .any, .any, .any, .any, .any, .any, .any, .any, .any, .any, .any, .any, .any, .any, .any, .any, .any, .any, .any, .any, .any, .any, .any, .any, .any, .any, .any, .any, .any, .any, .any, .any, .any, .any, .any, .any, .any, .any, .any, .any, .any, .any, .any, .any, .any, .any, .any, .any, .any, .any, .any, .any, .any, .any, .any, .any, .any, .any, .any, .any, .any, .any, .any, .any, .any, .any, .any, .any, .any, .any, .any, .any, .any, .any, .any, .any, .any, .any, .any, .any, .any, .any, .any, .any, .any, .any, .any, .any, .any, .any, .any, .any, .any, .any, .any, .any, .any, .any, .any, .any, .any, .any, .any, .any, .any]) fn_12 rfl rfl rfl rfl fun R hR => ?_
  (have zx1 := @d1; have zx2 := @d2; have zx3 := @w1; have zx4 := @w2; all_goals (try ((first | (with_reducible refine wp_id ?_) | (with_reducible refine does_id ?_) | (with_reducible refine ops_id ?_)); refine walk ?_; (repeat' (first | exact trivial | with_reducible refine And.intro ?_ ?_)); all_goals (repeat (first | (with_reducible refine ImpB.mk fun hb => ?_) | (with_reducible refine ImpK.mk fun hK => ?_) | (with_reducible refine ImpF.mk fun hF => ?_) | (with_reducible refine ImpQ.mk fun hp => ?_) | (with_reducible refine AllE.mk fun p => ?_) | (with_reducible refine AllR.mk fun rest => ?_) | (with_reducible refine AllK.mk fun K => ?_))))); repeat' (with_reducible refine And.intro ?_ ?_))
  all_goals first | exact h1 | exact h4 | skip
  refine Does.of_K ?_
  refine w_body (rs := []) (tm := [.int .i64 3, .int .i64 0, .ptr 2 0, .ptr 1 0, .any, .any, .any, .any, .any, .any, .any, .any, .any, .any, .any, .any]) fn_21 rfl rfl rfl rfl fun R hR => ?_
  (have zx1 := @d1; have zx2 := @d2; have zx3 := @w1; have zx4 := @w2; all_goals (try ((first | (with_reducible refine wp_id ?_) | (with_reducible refine does_id ?_) | (with_reducible refine ops_id ?_)); refine walk ?_; (repeat' (first | exact trivial | with_reducible refine And.intro ?_ ?_)); all_goals (repeat (first | (with_reducible refine ImpB.mk fun hb => ?_) | (with_reducible refine ImpK.mk fun hK => ?_) | (with_reducible refine ImpF.mk fun hF => ?_) | (with_reducible refine ImpQ.mk fun hp => ?_) | (with_reducible refine AllE.mk fun p => ?_) | (with_reducible refine AllR.mk fun rest => ?_) | (with_reducible refine AllK.mk fun K => ?_))))); repeat' (with_reducible refine And.intro ?_ ?_))
  all_goals first | exact h1 | exact h4 | skip
  all_goals first | exact (sortZ_len br).symm | (rw [sortZ_len]; omega) | skip
  any_goals ((try (refine w_seq fun K hK => ?_)); (try (refine w_block ?_)); refine w_loop (A := Nat) (fun k => k ≤ (sdl br).length) (fun k => (sdl br).length - k) (fun k => [(95, .int .i64 k), (7, .bool (al || (frd (dueB P (atT now n) kv) (sdl br) k).any (hasZ vi)))]) (fun k => [(2, .cells [.sl 7 .rcy 0 (([⟨atT now n, 3, 0⟩] : List Rcy) ++ outU (atT now n) (frd (dueB P (atT now n) kv) (sdl br) k)).length]), (3, .map .int .sw (putU (atT now n) kv (frd (dueB P (atT now n) kv) (sdl br) k))), (6, .gone), (7, .rows .rcy (([⟨atT now n, 3, 0⟩] : List Rcy) ++ outU (atT now n) (frd (dueB P (atT now n) kv) (sdl br) k)))]) (0) (ws := ?ws4) (tk := ?tk4) ?hw4 ?ht4 ?hi ?h0 ?LH4; (case hw4 => simp only [go_sem, decide_true, decide_false, Int.reduceToNat, Nat.min_eq_left, Nat.min_eq_right, Int.reducePow, Nat.reducePow, Int.reduceLE, Int.reduceLT, Int.reduceMul, Int.reduceAdd, Int.reduceSub, Int.reduceNeg, Bool.not_true, Bool.not_false, Bool.not_not, ↓reduceIte, Nat.reduceAdd, Nat.reduceSub, Nat.reduceMul, Nat.reduceEqDiff, reduceCtorEq, Nat.reduceLT, Nat.reduceLeDiff, Nat.reduceGT]; exact rfl); (case ht4 => simp only [go_sem, decide_true, decide_false, Int.reduceToNat, Nat.min_eq_left, Nat.min_eq_right, Int.reducePow, Nat.reducePow, Int.reduceLE, Int.reduceLT, Int.reduceMul, Int.reduceAdd, Int.reduceSub, Int.reduceNeg, Bool.not_true, Bool.not_false, Bool.not_not, ↓reduceIte, Nat.reduceAdd, Nat.reduceSub, Nat.reduceMul, Nat.reduceEqDiff, reduceCtorEq, Nat.reduceLT, Nat.reduceLeDiff, Nat.reduceGT]; exact rfl); (case' LH4 => rintro k E t hx hE ht; simp only [go_sem] at ht; subst ht; simp only [go_sem]; try dsimp only at hx))
  case hi => exact Nat.zero_le _
  case h0 =>
    (focus (refine ⟨_, _, Gh.refl, [0, 1, 2, 3, 4, 5, 6, 7], rfl, ?_⟩; (refine ⟨?_, ?_, ?_⟩ <;> simp only [go_sem, List.range, List.range.loop, List.nodup_cons, List.nodup_nil, List.mem_cons, List.not_mem_nil, or_false, or_self, decide_true, decide_false, Int.reduceToNat, Nat.min_eq_left, Nat.min_eq_right, Int.reducePow, Nat.reducePow, Int.reduceLE, Int.reduceLT, Int.reduceMul, Int.reduceAdd, Int.reduceSub, Int.reduceNeg, Bool.not_true, Bool.not_false, Bool.not_not, ↓reduceIte, Nat.reduceAdd, Nat.reduceSub, Nat.reduceMul, Nat.reduceEqDiff, reduceCtorEq, Nat.reduceLT, Nat.reduceLeDiff, Nat.reduceGT]); (try any_goals (refine ⟨?_, ?_⟩)); (try any_goals (with_reducible rfl))))
    all_goals (repeat' (first | (refine And.intro ?_ ?_) | exact List.Perm.refl _ | rfl | (simp [frd]; done) | (simp [frd, outU]; done)))
  case LH4 =>
    have hk0 : k ≤ (sdl br).length := hx
    have hw : IntKind.i64.wrap ((k : Int) + 1) = ((k + 1 : Nat) : Int) := by rw [wrap_i64 _ (by omega) (by omega)]; omega
    by_cases hk : k < (sdl br).length
    · have hkd : decide ((k : Int) < ((sdl br).length : Int)) = true := decide_eq_true (by omega)
      have hsd : compact (sortZ br) = sdl br := rfl
      have hm : (mget (k := .int) (e := .sw) (putU (atT now n) kv (frd (dueB P (atT now n) kv) (sdl br) k)) ((sdl br).getD k 0)).getD ⟨false, 0⟩ = mgz kv ((sdl br).getD k 0) := by
        have q := mgz_putU (atT now n) (frd (dueB P (atT now n) kv) (sdl br) k) kv ((sdl br).getD k 0)
        rw [if_neg (frd_new hk)] at q
        exact q
      have h9 := h5 ((sdl br).getD k 0)
      have hol : (outU (atT now n) (frd (dueB P (atT now n) kv) (sdl br) k)).length ≤ k := by unfold outU; rw [List.length_map]; exact frd_len
      have hbr : k < br.length := by omega
      by_cases hdu : dueB P (atT now n) kv ((sdl br).getD k 0) = true
      · have hy := frd_yes (due := (dueB P (atT now n) kv)) hk hdu
        have hdu' : (!(mgz kv ((sdl br).getD k 0)).done || decide (P ≤ atT now n - (mgz kv ((sdl br).getD k 0)).time)) = true := hdu
        (have zx1 := @hsd; have zx2 := @hkd; have zx3 := @hw; have zx4 := @hm; have zx5 := @hdu'; all_goals (try ((first | (with_reducible refine wp_id ?_) | (with_reducible refine does_id ?_) | (with_reducible refine ops_id ?_)); refine walk ?_; (repeat' (first | exact trivial | with_reducible refine And.intro ?_ ?_)); all_goals (repeat (first | (with_reducible refine ImpB.mk fun hb => ?_) | (with_reducible refine ImpK.mk fun hK => ?_) | (with_reducible refine ImpF.mk fun hF => ?_) | (with_reducible refine ImpQ.mk fun hp => ?_) | (with_reducible refine AllE.mk fun p => ?_) | (with_reducible refine AllR.mk fun rest => ?_) | (with_reducible refine AllK.mk fun K => ?_))))); repeat' (with_reducible refine And.intro ?_ ?_))
        all_goals first | exact h9.1 | exact h9.2 | omega | exact absurd (hb.symm.trans hdu') (by decide) | skip
        refine Does.of_K ?_
        refine w_body (rs := []) (tm := [.int .i64 2, .int .i64 ((sdl br).getD k 0), .ptr 2 0, .ptr 1 0, .any, .any, .any, .any, .any, .any, .any, .any, .any, .any, .any, .any]) fn_21 rfl rfl rfl rfl fun R hR => ?_
        (have zx1 := @hsd; have zx2 := @hkd; have zx3 := @hw; have zx4 := @hm; have zx5 := @hdu'; all_goals (try ((first | (with_reducible refine wp_id ?_) | (with_reducible refine does_id ?_) | (with_reducible refine ops_id ?_)); refine walk ?_; (repeat' (first | exact trivial | with_reducible refine And.intro ?_ ?_)); all_goals (repeat (first | (with_reducible refine ImpB.mk fun hb => ?_) | (with_reducible refine ImpK.mk fun hK => ?_) | (with_reducible refine ImpF.mk fun hF => ?_) | (with_reducible refine ImpQ.mk fun hp => ?_) | (with_reducible refine AllE.mk fun p => ?_) | (with_reducible refine AllR.mk fun rest => ?_) | (with_reducible refine AllK.mk fun K => ?_))))); repeat' (with_reducible refine And.intro ?_ ?_))
        all_goals first | omega | (simp only [List.length_append, List.length_cons, List.length_nil]; omega) | skip
        all_goals (refine ⟨k + 1, ⟨by first | omega | (dsimp only; omega), by first | omega | (dsimp only; omega)⟩, ?_⟩)
        all_goals (focus (refine ⟨_, _, Gh.refl, [0, 1, 2, 3, 4, 5, 6, 9], rfl, ?_⟩; (refine ⟨?_, ?_, ?_⟩ <;> simp only [go_sem, List.range, List.range.loop, List.nodup_cons, List.nodup_nil, List.mem_cons, List.not_mem_nil, or_false, or_self, decide_true, decide_false, Int.reduceToNat, Nat.min_eq_left, Nat.min_eq_right, Int.reducePow, Nat.reducePow, Int.reduceLE, Int.reduceLT, Int.reduceMul, Int.reduceAdd, Int.reduceSub, Int.reduceNeg, Bool.not_true, Bool.not_false, Bool.not_not, ↓reduceIte, Nat.reduceAdd, Nat.reduceSub, Nat.reduceMul, Nat.reduceEqDiff, reduceCtorEq, Nat.reduceLT, Nat.reduceLeDiff, Nat.reduceGT]); (try any_goals (refine ⟨?_, ?_⟩)); (try any_goals (with_reducible rfl))))
        all_goals (repeat' (first | (refine And.intro ?_ ?_) | rfl | (rw [hy, any_snoc, ← Bool.or_assoc, hb]; done) | (rw [hy, any_snoc, ← Bool.or_assoc, hb]; rfl) | (rw [hy, outU_snoc]; first | done | rfl | (simp; done)) | (rw [hy, putU_snoc]; first | done | exact List.Perm.refl _)))
      · have hdu0 : dueB P (atT now n) kv ((sdl br).getD k 0) = false := by cases q : dueB P (atT now n) kv ((sdl br).getD k 0) <;> simp_all
        have hy := frd_no (due := (dueB P (atT now n) kv)) hk hdu0
        have hdu' : (!(mgz kv ((sdl br).getD k 0)).done || decide (P ≤ atT now n - (mgz kv ((sdl br).getD k 0)).time)) = false := hdu0
        (have zx1 := @hsd; have zx2 := @hkd; have zx3 := @hw; have zx4 := @hm; have zx5 := @hdu'; all_goals (try ((first | (with_reducible refine wp_id ?_) | (with_reducible refine does_id ?_) | (with_reducible refine ops_id ?_)); refine walk ?_; (repeat' (first | exact trivial | with_reducible refine And.intro ?_ ?_)); all_goals (repeat (first | (with_reducible refine ImpB.mk fun hb => ?_) | (with_reducible refine ImpK.mk fun hK => ?_) | (with_reducible refine ImpF.mk fun hF => ?_) | (with_reducible refine ImpQ.mk fun hp => ?_) | (with_reducible refine AllE.mk fun p => ?_) | (with_reducible refine AllR.mk fun rest => ?_) | (with_reducible refine AllK.mk fun K => ?_))))); repeat' (with_reducible refine And.intro ?_ ?_))
        all_goals first | exact h9.1 | exact h9.2 | omega | exact absurd (hb.symm.trans hdu') (by decide) | skip
        all_goals (refine ⟨k + 1, ⟨by first | omega | (dsimp only; omega), by first | omega | (dsimp only; omega)⟩, ?_⟩)
        all_goals (focus (refine ⟨_, _, Gh.refl, [0, 1, 2, 3, 4, 5, 6, 7], rfl, ?_⟩; (refine ⟨?_, ?_, ?_⟩ <;> simp only [go_sem, List.range, List.range.loop, List.nodup_cons, List.nodup_nil, List.mem_cons, List.not_mem_nil, or_false, or_self, decide_true, decide_false, Int.reduceToNat, Nat.min_eq_left, Nat.min_eq_right, Int.reducePow, Nat.reducePow, Int.reduceLE, Int.reduceLT, Int.reduceMul, Int.reduceAdd, Int.reduceSub, Int.reduceNeg, Bool.not_true, Bool.not_false, Bool.not_not, ↓reduceIte, Nat.reduceAdd, Nat.reduceSub, Nat.reduceMul, Nat.reduceEqDiff, reduceCtorEq, Nat.reduceLT, Nat.reduceLeDiff, Nat.reduceGT]); (try any_goals (refine ⟨?_, ?_⟩)); (try any_goals (with_reducible rfl))))
        all_goals (repeat' (first | (refine And.intro ?_ ?_) | rfl | (rw [hy]; first | done | exact List.Perm.refl _)))
    · have hkd : decide ((k : Int) < ((sdl br).length : Int)) = false := decide_eq_false (by omega)
      have hsd : compact (sortZ br) = sdl br := rfl
      obtain rfl : k = (sdl br).length := by omega
      have hfe : frd (dueB P (atT now n) kv) (sdl br) (sdl br).length = frG ⟨W, S, P, now, A, H0, don, rt, kv, br, vi, al⟩ n := frd_end
      rw [hfe]
      cases hsf : (al || (frG ⟨W, S, P, now, A, H0, don, rt, kv, br, vi, al⟩ n).any (hasZ vi))
      · (have zx1 := @hsd; have zx2 := @hkd; have zx3 := @hsf; all_goals (try ((first | (with_reducible refine wp_id ?_) | (with_reducible refine does_id ?_) | (with_reducible refine ops_id ?_)); refine walk ?_; (repeat' (first | exact trivial | with_reducible refine And.intro ?_ ?_)); all_goals (repeat (first | (with_reducible refine ImpB.mk fun hb => ?_) | (with_reducible refine ImpK.mk fun hK => ?_) | (with_reducible refine ImpF.mk fun hF => ?_) | (with_reducible refine ImpQ.mk fun hp => ?_) | (with_reducible refine AllE.mk fun p => ?_) | (with_reducible refine AllR.mk fun rest => ?_) | (with_reducible refine AllK.mk fun K => ?_))))); repeat' (with_reducible refine And.intro ?_ ?_))
        all_goals first | omega | skip
        rw [q4 false (q5.trans hsf)]
        (focus (refine ⟨_, _, Gh.trans (gh_adoptC (t := 0) (i := 10) .int rfl trivial) (Gh.trans (gh_adoptC (t := 0) (i := 11) .int rfl trivial) (gh_close (t := 0) (ts := [3, 8, 9]) (l := GU ⟨W, S, P, atT now n, atT now n, H0, don, rt, putU (atT now n) kv (frG ⟨W, S, P, now, A, H0, don, rt, kv, br, vi, al⟩ n), [], [], false⟩) ⟨⟨_, _, rfl⟩, ?_, by simp⟩)), [0, 7], rfl, ?_⟩; all_goals (refine ⟨?_, ?_, ?_⟩ <;> simp only [go_sem, List.range, List.range.loop, List.nodup_cons, List.nodup_nil, List.mem_cons, List.not_mem_nil, or_false, or_self, decide_true, decide_false, Int.reduceToNat, Nat.min_eq_left, Nat.min_eq_right, Int.reducePow, Nat.reducePow, Int.reduceLE, Int.reduceLT, Int.reduceMul, Int.reduceAdd, Int.reduceSub, Int.reduceNeg, Bool.not_true, Bool.not_false, Bool.not_not, ↓reduceIte, Nat.reduceAdd, Nat.reduceSub, Nat.reduceMul, Nat.reduceEqDiff, reduceCtorEq, Nat.reduceLT, Nat.reduceLeDiff, Nat.reduceGT]); (try any_goals (refine ⟨?_, ?_⟩)); (try any_goals (with_reducible rfl))))
        all_goals (repeat' (first | (refine And.intro ?_ ?_) | exact List.Perm.refl _ | rfl | (simp; done)))
      · have hol : (outU (atT now n) (frG ⟨W, S, P, now, A, H0, don, rt, kv, br, vi, al⟩ n)).length ≤ br.length := by
          unfold outU; rw [List.length_map]; unfold frG; exact Nat.le_trans (List.length_filter_le _ _) h8
        (have zx1 := @hsd; have zx2 := @hkd; have zx3 := @hsf; all_goals (try ((first | (with_reducible refine wp_id ?_) | (with_reducible refine does_id ?_) | (with_reducible refine ops_id ?_)); refine walk ?_; (repeat' (first | exact trivial | with_reducible refine And.intro ?_ ?_)); all_goals (repeat (first | (with_reducible refine ImpB.mk fun hb => ?_) | (with_reducible refine ImpK.mk fun hK => ?_) | (with_reducible refine ImpF.mk fun hF => ?_) | (with_reducible refine ImpQ.mk fun hp => ?_) | (with_reducible refine AllE.mk fun p => ?_) | (with_reducible refine AllR.mk fun rest => ?_) | (with_reducible refine AllK.mk fun K => ?_))))); repeat' (with_reducible refine And.intro ?_ ?_))
        all_goals first | omega | skip
        refine Does.of_K ?_
        refine w_body (rs := []) (tm := [.int .i64 1, .int .i64 0, .ptr 2 0, .ptr 1 0, .any, .any, .any, .any, .any, .any, .any, .any, .any, .any, .any, .any]) fn_21 rfl rfl rfl rfl fun R hR => ?_
        (have zx1 := @hsd; have zx2 := @hkd; have zx3 := @hsf; all_goals (try ((first | (with_reducible refine wp_id ?_) | (with_reducible refine does_id ?_) | (with_reducible refine ops_id ?_)); refine walk ?_; (repeat' (first | exact trivial | with_reducible refine And.intro ?_ ?_)); all_goals (repeat (first | (with_reducible refine ImpB.mk fun hb => ?_) | (with_reducible refine ImpK.mk fun hK => ?_) | (with_reducible refine ImpF.mk fun hF => ?_) | (with_reducible refine ImpQ.mk fun hp => ?_) | (with_reducible refine AllE.mk fun p => ?_) | (with_reducible refine AllR.mk fun rest => ?_) | (with_reducible refine AllK.mk fun K => ?_))))); repeat' (with_reducible refine And.intro ?_ ?_))
        all_goals first | omega | (simp only [List.length_append, List.length_cons, List.length_nil]; omega) | skip
        rw [q4 true (q5.trans hsf)]
        (focus (refine ⟨_, _, Gh.trans (gh_adoptC (t := 0) (i := 10) .int rfl trivial) (Gh.trans (gh_adoptC (t := 0) (i := 11) .int rfl trivial) (gh_close (t := 0) (ts := [3, 10, 11]) (l := GU ⟨W, S, P, atT now n, atT now n, H0, don, rt, putU (atT now n) kv (frG ⟨W, S, P, now, A, H0, don, rt, kv, br, vi, al⟩ n), [], [], false⟩) ⟨⟨_, _, rfl⟩, ?_, by simp⟩)), [0, 9], rfl, ?_⟩; all_goals (refine ⟨?_, ?_, ?_⟩ <;> simp only [go_sem, List.range, List.range.loop, List.nodup_cons, List.nodup_nil, List.mem_cons, List.not_mem_nil, or_false, or_self, decide_true, decide_false, Int.reduceToNat, Nat.min_eq_left, Nat.min_eq_right, Int.reducePow, Nat.reducePow, Int.reduceLE, Int.reduceLT, Int.reduceMul, Int.reduceAdd, Int.reduceSub, Int.reduceNeg, Bool.not_true, Bool.not_false, Bool.not_not, ↓reduceIte, Nat.reduceAdd, Nat.reduceSub, Nat.reduceMul, Nat.reduceEqDiff, reduceCtorEq, Nat.reduceLT, Nat.reduceLeDiff, Nat.reduceGT]); (try any_goals (refine ⟨?_, ?_⟩)); (try any_goals (with_reducible rfl))))
        all_goals (repeat' (first | (refine And.intro ?_ ?_) | exact List.Perm.refl _ | rfl | (simp; done)))
theorem b_tickU5 (n : Int) (ok : OkG ⟨W, S, P, now, A, H0, don, rt, kv, br, vi, al⟩) (c1 : W ≤ atT now n - A) (c2 : S ≤ atT now n - H0) (c3 : (!don || decide (P ≤ atT now n - rt)) = false) : DoesK Try.prog 1 12 [.ptr 0 0, .int .i64 n] [.pack (GU ⟨W, S, P, now, A, H0, don, rt, kv, br, vi, al⟩)] (EndF 1 (.sl 1 .rcy 0 (tickO ⟨W, S, P, now, A, H0, don, rt, kv, br, vi, al⟩ n).length) ([.pack (GU (tickG ⟨W, S, P, now, A, H0, don, rt, kv, br, vi, al⟩ n))] ++ [.rows .rcy (tickO ⟨W, S, P, now, A, H0, don, rt, kv, br, vi, al⟩ n)])) := by
  refine DoesK.close ?_
  have h1 := atT_ok (n := n) ok.now
  have h2 := ok.A
  have h3 := ok.H
  have h4 := ok.rt
  have h5 := ok.kv
  have h6 := ok.br
  have h7 := ok.vi
  dsimp only at h1 h2 h3 h4 h5 h6 h7
  have h8 := sdl_len br
  have d1 : decide (W ≤ atT now n - A) = true := decide_eq_true c1
  have d2 : decide (S ≤ atT now n - H0) = true := decide_eq_true c2
  have w1 : IntKind.i64.wrap (atT now n - A) = atT now n - A := wrap_i64 _ (by omega) (by omega)
  have w2 : IntKind.i64.wrap (atT now n - H0) = atT now n - H0 := wrap_i64 _ (by omega) (by omega)
  have q1 : wdG ⟨W, S, P, now, A, H0, don, rt, kv, br, vi, al⟩ n = true := d1
  have q2 : silG ⟨W, S, P, now, A, H0, don, rt, kv, br, vi, al⟩ n = false := by
    unfold silG mayB
    dsimp only
    rw [d2, c3]
    rfl
  have q3 : tickG ⟨W, S, P, now, A, H0, don, rt, kv, br, vi, al⟩ n = ⟨W, S, P, atT now n, atT now n, H0, don, rt, putU (atT now n) kv (frG ⟨W, S, P, now, A, H0, don, rt, kv, br, vi, al⟩ n), [], [], false⟩ := by
    unfold tickG
    rw [q1, q2]
    rfl
  have q4 : ∀ sf, safeG ⟨W, S, P, now, A, H0, don, rt, kv, br, vi, al⟩ n = sf → tickO ⟨W, S, P, now, A, H0, don, rt, kv, br, vi, al⟩ n = ([⟨atT now n, 3, 0⟩] : List Rcy) ++ outU (atT now n) (frG ⟨W, S, P, now, A, H0, don, rt, kv, br, vi, al⟩ n) ++ (if sf then [⟨atT now n, 1, 0⟩] else []) := fun sf hs => by
    unfold tickO tkO
    rw [q1, q2, hs]
    rfl
  have q5 : safeG ⟨W, S, P, now, A, H0, don, rt, kv, br, vi, al⟩ n = (al || (frG ⟨W, S, P, now, A, H0, don, rt, kv, br, vi, al⟩ n).any (hasZ vi)) := by
    unfold safeG
    rw [q2]
    dsimp only
    rw [Bool.or_false]
  rw [q3]
  refine w_body (rs := [.tmp 4]) (tm := [.ptr 0 0, .int .i64 n, .any, .any, .any, .any, .any, .any, .any, .any, .any, .any, .any, .any, .any, .any, .any, .any, .any, .any, .any, .any, .any, .any, .any, .any, .any, .any, .any, .any, .any, .any, .any, .any, .any, .any, .any, .any, .any, .any, .any, .any, .any, .any, .any, .any, .any, .any, .any, .any, .any, .any, .any, .any, .any, .any, .any, .any, .any, .any, .any, .any, .any, .any, .any, .any, .any, .any, .any, .any, .any, .any, .any, .any, .any, .any, .any, .any, .any, .any, .any, .any, .any, .any, .any, .any, .any, .any, .any, .any, .any, .any, .any, .any, .any, .any, .any, .any, .any, .any, .any, .any, .any, .any, .any, .any, .any, .any, .any, .any, .any, .any, .any, .any, .any, .any, .any, .any, .any, .any, .any, .any, .any, .any, .any, .any, .any, .any, .any, .any, .any, .any, .any, .any, .any, .any, .any, .any, .any, .any, .any, .any, .any, .any, .any, .any, .any, .any, .any, .any, .any]) fn_12 rfl rfl rfl rfl fun R hR => ?_
  (have zx1 := @d1; have zx2 := @d2; have zx3 := @w1; have zx4 := @w2; have zx5 := @c3; all_goals (try ((first | (with_reducible refine wp_id ?_) | (with_reducible refine does_id ?_) | (with_reducible refine ops_id ?_)); refine walk ?_; (repeat' (first | exact trivial | with_reducible refine And.intro ?_ ?_)); all_goals (repeat (first | (with_reducible refine ImpB.mk fun hb => ?_) | (with_reducible refine ImpK.mk fun hK => ?_) | (with_reducible refine ImpF.mk fun hF => ?_) | (with_reducible refine ImpQ.mk fun hp => ?_) | (with_reducible refine AllE.mk fun p => ?_) | (with_reducible refine AllR.mk fun rest => ?_) | (with_reducible refine AllK.mk fun K => ?_))))); repeat' (with_reducible refine And.intro ?_ ?_))
  all_goals first | exact h1 | exact h4 | skip
  refine Does.of_K ?_
  refine w_body (rs := []) (tm := [.int .i64 3, .int .i64 0, .ptr 2 0, .ptr 1 0, .any, .any, .any, .any, .any, .any, .any, .any, .any, .any, .any, .any]) fn_21 rfl rfl rfl rfl fun R hR => ?_
  (have zx1 := @d1; have zx2 := @d2; have zx3 := @w1; have zx4 := @w2; have zx5 := @c3; all_goals (try ((first | (with_reducible refine wp_id ?_) | (with_reducible refine does_id ?_) | (with_reducible refine ops_id ?_)); refine walk ?_; (repeat' (first | exact trivial | with_reducible refine And.intro ?_ ?_)); all_goals (repeat (first | (with_reducible refine ImpB.mk fun hb => ?_) | (with_reducible refine ImpK.mk fun hK => ?_) | (with_reducible refine ImpF.mk fun hF => ?_) | (with_reducible refine ImpQ.mk fun hp => ?_) | (with_reducible refine AllE.mk fun p => ?_) | (with_reducible refine AllR.mk fun rest => ?_) | (with_reducible refine AllK.mk fun K => ?_))))); repeat' (with_reducible refine And.intro ?_ ?_))
  all_goals first | exact h1 | exact h4 | skip
  all_goals first | exact (sortZ_len br).symm | (rw [sortZ_len]; omega) | skip
  any_goals ((try (refine w_seq fun K hK => ?_)); (try (refine w_block ?_)); refine w_loop (A := Nat) (fun k => k ≤ (sdl br).length) (fun k => (sdl br).length - k) (fun k => [(95, .int .i64 k), (7, .bool (al || (frd (dueB P (atT now n) kv) (sdl br) k).any (hasZ vi)))]) (fun k => [(2, .cells [.sl 7 .rcy 0 (([⟨atT now n, 3, 0⟩] : List Rcy) ++ outU (atT now n) (frd (dueB P (atT now n) kv) (sdl br) k)).length]), (3, .map .int .sw (putU (atT now n) kv (frd (dueB P (atT now n) kv) (sdl br) k))), (6, .gone), (7, .rows .rcy (([⟨atT now n, 3, 0⟩] : List Rcy) ++ outU (atT now n) (frd (dueB P (atT now n) kv) (sdl br) k)))]) (0) (ws := ?ws5) (tk := ?tk5) ?hw5 ?ht5 ?hi ?h0 ?LH5; (case hw5 => simp only [go_sem, decide_true, decide_false, Int.reduceToNat, Nat.min_eq_left, Nat.min_eq_right, Int.reducePow, Nat.reducePow, Int.reduceLE, Int.reduceLT, Int.reduceMul, Int.reduceAdd, Int.reduceSub, Int.reduceNeg, Bool.not_true, Bool.not_false, Bool.not_not, ↓reduceIte, Nat.reduceAdd, Nat.reduceSub, Nat.reduceMul, Nat.reduceEqDiff, reduceCtorEq, Nat.reduceLT, Nat.reduceLeDiff, Nat.reduceGT]; exact rfl); (case ht5 => simp only [go_sem, decide_true, decide_false, Int.reduceToNat, Nat.min_eq_left, Nat.min_eq_right, Int.reducePow, Nat.reducePow, Int.reduceLE, Int.reduceLT, Int.reduceMul, Int.reduceAdd, Int.reduceSub, Int.reduceNeg, Bool.not_true, Bool.not_false, Bool.not_not, ↓reduceIte, Nat.reduceAdd, Nat.reduceSub, Nat.reduceMul, Nat.reduceEqDiff, reduceCtorEq, Nat.reduceLT, Nat.reduceLeDiff, Nat.reduceGT]; exact rfl); (case' LH5 => rintro k E t hx hE ht; simp only [go_sem] at ht; subst ht; simp only [go_sem]; try dsimp only at hx))
  case hi => exact Nat.zero_le _
  case h0 =>
    (focus (refine ⟨_, _, Gh.refl, [0, 1, 2, 3, 4, 5, 6, 7], rfl, ?_⟩; (refine ⟨?_, ?_, ?_⟩ <;> simp only [go_sem, List.range, List.range.loop, List.nodup_cons, List.nodup_nil, List.mem_cons, List.not_mem_nil, or_false, or_self, decide_true, decide_false, Int.reduceToNat, Nat.min_eq_left, Nat.min_eq_right, Int.reducePow, Nat.reducePow, Int.reduceLE, Int.reduceLT, Int.reduceMul, Int.reduceAdd, Int.reduceSub, Int.reduceNeg, Bool.not_true, Bool.not_false, Bool.not_not, ↓reduceIte, Nat.reduceAdd, Nat.reduceSub, Nat.reduceMul, Nat.reduceEqDiff, reduceCtorEq, Nat.reduceLT, Nat.reduceLeDiff, Nat.reduceGT]); (try any_goals (refine ⟨?_, ?_⟩)); (try any_goals (with_reducible rfl))))
    all_goals (repeat' (first | (refine And.intro ?_ ?_) | exact List.Perm.refl _ | rfl | (simp [frd]; done) | (simp [frd, outU]; done)))
  case LH5 =>
    have hk0 : k ≤ (sdl br).length := hx
    have hw : IntKind.i64.wrap ((k : Int) + 1) = ((k + 1 : Nat) : Int) := by rw [wrap_i64 _ (by omega) (by omega)]; omega
    by_cases hk : k < (sdl br).length
    · have hkd : decide ((k : Int) < ((sdl br).length : Int)) = true := decide_eq_true (by omega)
      have hsd : compact (sortZ br) = sdl br := rfl
      have hm : (mget (k := .int) (e := .sw) (putU (atT now n) kv (frd (dueB P (atT now n) kv) (sdl br) k)) ((sdl br).getD k 0)).getD ⟨false, 0⟩ = mgz kv ((sdl br).getD k 0) := by
        have q := mgz_putU (atT now n) (frd (dueB P (atT now n) kv) (sdl br) k) kv ((sdl br).getD k 0)
        rw [if_neg (frd_new hk)] at q
        exact q
      have h9 := h5 ((sdl br).getD k 0)
      have hol : (outU (atT now n) (frd (dueB P (atT now n) kv) (sdl br) k)).length ≤ k := by unfold outU; rw [List.length_map]; exact frd_len
      have hbr : k < br.length := by omega
      by_cases hdu : dueB P (atT now n) kv ((sdl br).getD k 0) = true
      · have hy := frd_yes (due := (dueB P (atT now n) kv)) hk hdu
        have hdu' : (!(mgz kv ((sdl br).getD k 0)).done || decide (P ≤ atT now n - (mgz kv ((sdl br).getD k 0)).time)) = true := hdu
        (have zx1 := @hsd; have zx2 := @hkd; have zx3 := @hw; have zx4 := @hm; have zx5 := @hdu'; all_goals (try ((first | (with_reducible refine wp_id ?_) | (with_reducible refine does_id ?_) | (with_reducible refine ops_id ?_)); refine walk ?_; (repeat' (first | exact trivial | with_reducible refine And.intro ?_ ?_)); all_goals (repeat (first | (with_reducible refine ImpB.mk fun hb => ?_) | (with_reducible refine ImpK.mk fun hK => ?_) | (with_reducible refine ImpF.mk fun hF => ?_) | (with_reducible refine ImpQ.mk fun hp => ?_) | (with_reducible refine AllE.mk fun p => ?_) | (with_reducible refine AllR.mk fun rest => ?_) | (with_reducible refine AllK.mk fun K => ?_))))); repeat' (with_reducible refine And.intro ?_ ?_))
        all_goals first | exact h9.1 | exact h9.2 | omega | exact absurd (hb.symm.trans hdu') (by decide) | skip
        refine Does.of_K ?_
        refine w_body (rs := []) (tm := [.int .i64 2, .int .i64 ((sdl br).getD k 0), .ptr 2 0, .ptr 1 0, .any, .any, .any, .any, .any, .any, .any, .any, .any, .any, .any, .any]) fn_21 rfl rfl rfl rfl fun R hR => ?_
        (have zx1 := @hsd; have zx2 := @hkd; have zx3 := @hw; have zx4 := @hm; have zx5 := @hdu'; all_goals (try ((first | (with_reducible refine wp_id ?_) | (with_reducible refine does_id ?_) | (with_reducible refine ops_id ?_)); refine walk ?_; (repeat' (first | exact trivial | with_reducible refine And.intro ?_ ?_)); all_goals (repeat (first | (with_reducible refine ImpB.mk fun hb => ?_) | (with_reducible refine ImpK.mk fun hK => ?_) | (with_reducible refine ImpF.mk fun hF => ?_) | (with_reducible refine ImpQ.mk fun hp => ?_) | (with_reducible refine AllE.mk fun p => ?_) | (with_reducible refine AllR.mk fun rest => ?_) | (with_reducible refine AllK.mk fun K => ?_))))); repeat' (with_reducible refine And.intro ?_ ?_))
        all_goals first | omega | (simp only [List.length_append, List.length_cons, List.length_nil]; omega) | skip
        all_goals (refine ⟨k + 1, ⟨by first | omega | (dsimp only; omega), by first | omega | (dsimp only; omega)⟩, ?_⟩)
        all_goals (focus (refine ⟨_, _, Gh.refl, [0, 1, 2, 3, 4, 5, 6, 9], rfl, ?_⟩; (refine ⟨?_, ?_, ?_⟩ <;> simp only [go_sem, List.range, List.range.loop, List.nodup_cons, List.nodup_nil, List.mem_cons, List.not_mem_nil, or_false, or_self, decide_true, decide_false, Int.reduceToNat, Nat.min_eq_left, Nat.min_eq_right, Int.reducePow, Nat.reducePow, Int.reduceLE, Int.reduceLT, Int.reduceMul, Int.reduceAdd, Int.reduceSub, Int.reduceNeg, Bool.not_true, Bool.not_false, Bool.not_not, ↓reduceIte, Nat.reduceAdd, Nat.reduceSub, Nat.reduceMul, Nat.reduceEqDiff, reduceCtorEq, Nat.reduceLT, Nat.reduceLeDiff, Nat.reduceGT]); (try any_goals (refine ⟨?_, ?_⟩)); (try any_goals (with_reducible rfl))))
        all_goals (repeat' (first | (refine And.intro ?_ ?_) | rfl | (rw [hy, any_snoc, ← Bool.or_assoc, hb]; done) | (rw [hy, any_snoc, ← Bool.or_assoc, hb]; rfl) | (rw [hy, outU_snoc]; first | done | rfl | (simp; done)) | (rw [hy, putU_snoc]; first | done | exact List.Perm.refl _)))
      · have hdu0 : dueB P (atT now n) kv ((sdl br).getD k 0) = false := by cases q : dueB P (atT now n) kv ((sdl br).getD k 0) <;> simp_all
        have hy := frd_no (due := (dueB P (atT now n) kv)) hk hdu0
        have hdu' : (!(mgz kv ((sdl br).getD k 0)).done || decide (P ≤ atT now n - (mgz kv ((sdl br).getD k 0)).time)) = false := hdu0
        (have zx1 := @hsd; have zx2 := @hkd; have zx3 := @hw; have zx4 := @hm; have zx5 := @hdu'; all_goals (try ((first | (with_reducible refine wp_id ?_) | (with_reducible refine does_id ?_) | (with_reducible refine ops_id ?_)); refine walk ?_; (repeat' (first | exact trivial | with_reducible refine And.intro ?_ ?_)); all_goals (repeat (first | (with_reducible refine ImpB.mk fun hb => ?_) | (with_reducible refine ImpK.mk fun hK => ?_) | (with_reducible refine ImpF.mk fun hF => ?_) | (with_reducible refine ImpQ.mk fun hp => ?_) | (with_reducible refine AllE.mk fun p => ?_) | (with_reducible refine AllR.mk fun rest => ?_) | (with_reducible refine AllK.mk fun K => ?_))))); repeat' (with_reducible refine And.intro ?_ ?_))
        all_goals first | exact h9.1 | exact h9.2 | omega | exact absurd (hb.symm.trans hdu') (by decide) | skip
        all_goals (refine ⟨k + 1, ⟨by first | omega | (dsimp only; omega), by first | omega | (dsimp only; omega)⟩, ?_⟩)
        all_goals (focus (refine ⟨_, _, Gh.refl, [0, 1, 2, 3, 4, 5, 6, 7], rfl, ?_⟩; (refine ⟨?_, ?_, ?_⟩ <;> simp only [go_sem, List.range, List.range.loop, List.nodup_cons, List.nodup_nil, List.mem_cons, List.not_mem_nil, or_false, or_self, decide_true, decide_false, Int.reduceToNat, Nat.min_eq_left, Nat.min_eq_right, Int.reducePow, Nat.reducePow, Int.reduceLE, Int.reduceLT, Int.reduceMul, Int.reduceAdd, Int.reduceSub, Int.reduceNeg, Bool.not_true, Bool.not_false, Bool.not_not, ↓reduceIte, Nat.reduceAdd, Nat.reduceSub, Nat.reduceMul, Nat.reduceEqDiff, reduceCtorEq, Nat.reduceLT, Nat.reduceLeDiff, Nat.reduceGT]); (try any_goals (refine ⟨?_, ?_⟩)); (try any_goals (with_reducible rfl))))
        all_goals (repeat' (first | (refine And.intro ?_ ?_) | rfl | (rw [hy]; first | done | exact List.Perm.refl _)))
    · have hkd : decide ((k : Int) < ((sdl br).length : Int)) = false := decide_eq_false (by omega)
      have hsd : compact (sortZ br) = sdl br := rfl
      obtain rfl : k = (sdl br).length := by omega
      have hfe : frd (dueB P (atT now n) kv) (sdl br) (sdl br).length = frG ⟨W, S, P, now, A, H0, don, rt, kv, br, vi, al⟩ n := frd_end
      rw [hfe]
      cases hsf : (al || (frG ⟨W, S, P, now, A, H0, don, rt, kv, br, vi, al⟩ n).any (hasZ vi))
      · (have zx1 := @hsd; have zx2 := @hkd; have zx3 := @hsf; all_goals (try ((first | (with_reducible refine wp_id ?_) | (with_reducible refine does_id ?_) | (with_reducible refine ops_id ?_)); refine walk ?_; (repeat' (first | exact trivial | with_reducible refine And.intro ?_ ?_)); all_goals (repeat (first | (with_reducible refine ImpB.mk fun hb => ?_) | (with_reducible refine ImpK.mk fun hK => ?_) | (with_reducible refine ImpF.mk fun hF => ?_) | (with_reducible refine ImpQ.mk fun hp => ?_) | (with_reducible refine AllE.mk fun p => ?_) | (with_reducible refine AllR.mk fun rest => ?_) | (with_reducible refine AllK.mk fun K => ?_))))); repeat' (with_reducible refine And.intro ?_ ?_))
        all_goals first | omega | skip
        rw [q4 false (q5.trans hsf)]
        (focus (refine ⟨_, _, Gh.trans (gh_adoptC (t := 0) (i := 10) .int rfl trivial) (Gh.trans (gh_adoptC (t := 0) (i := 11) .int rfl trivial) (gh_close (t := 0) (ts := [3, 8, 9]) (l := GU ⟨W, S, P, atT now n, atT now n, H0, don, rt, putU (atT now n) kv (frG ⟨W, S, P, now, A, H0, don, rt, kv, br, vi, al⟩ n), [], [], false⟩) ⟨⟨_, _, rfl⟩, ?_, by simp⟩)), [0, 7], rfl, ?_⟩; all_goals (refine ⟨?_, ?_, ?_⟩ <;> simp only [go_sem, List.range, List.range.loop, List.nodup_cons, List.nodup_nil, List.mem_cons, List.not_mem_nil, or_false, or_self, decide_true, decide_false, Int.reduceToNat, Nat.min_eq_left, Nat.min_eq_right, Int.reducePow, Nat.reducePow, Int.reduceLE, Int.reduceLT, Int.reduceMul, Int.reduceAdd, Int.reduceSub, Int.reduceNeg, Bool.not_true, Bool.not_false, Bool.not_not, ↓reduceIte, Nat.reduceAdd, Nat.reduceSub, Nat.reduceMul, Nat.reduceEqDiff, reduceCtorEq, Nat.reduceLT, Nat.reduceLeDiff, Nat.reduceGT]); (try any_goals (refine ⟨?_, ?_⟩)); (try any_goals (with_reducible rfl))))
        all_goals (repeat' (first | (refine And.intro ?_ ?_) | exact List.Perm.refl _ | rfl | (simp; done)))
      · have hol : (outU (atT now n) (frG ⟨W, S, P, now, A, H0, don, rt, kv, br, vi, al⟩ n)).length ≤ br.length := by
          unfold outU; rw [List.length_map]; unfold frG; exact Nat.le_trans (List.length_filter_le _ _) h8
        (have zx1 := @hsd; have zx2 := @hkd; have zx3 := @hsf; all_goals (try ((first | (with_reducible refine wp_id ?_) | (with_reducible refine does_id ?_) | (with_reducible refine ops_id ?_)); refine walk ?_; (repeat' (first | exact trivial | with_reducible refine And.intro ?_ ?_)); all_goals (repeat (first | (with_reducible refine ImpB.mk fun hb => ?_) | (with_reducible refine ImpK.mk fun hK => ?_) | (with_reducible refine ImpF.mk fun hF => ?_) | (with_reducible refine ImpQ.mk fun hp => ?_) | (with_reducible refine AllE.mk fun p => ?_) | (with_reducible refine AllR.mk fun rest => ?_) | (with_reducible refine AllK.mk fun K => ?_))))); repeat' (with_reducible refine And.intro ?_ ?_))
        all_goals first | omega | skip
        refine Does.of_K ?_
        refine w_body (rs := []) (tm := [.int .i64 1, .int .i64 0, .ptr 2 0, .ptr 1 0, .any, .any, .any, .any, .any, .any, .any, .any, .any, .any, .any, .any]) fn_21 rfl rfl rfl rfl fun R hR => ?_
        (have zx1 := @hsd; have zx2 := @hkd; have zx3 := @hsf; all_goals (try ((first | (with_reducible refine wp_id ?_) | (with_reducible refine does_id ?_) | (with_reducible refine ops_id ?_)); refine walk ?_; (repeat' (first | exact trivial | with_reducible refine And.intro ?_ ?_)); all_goals (repeat (first | (with_reducible refine ImpB.mk fun hb => ?_) | (with_reducible refine ImpK.mk fun hK => ?_) | (with_reducible refine ImpF.mk fun hF => ?_) | (with_reducible refine ImpQ.mk fun hp => ?_) | (with_reducible refine AllE.mk fun p => ?_) | (with_reducible refine AllR.mk fun rest => ?_) | (with_reducible refine AllK.mk fun K => ?_))))); repeat' (with_reducible refine And.intro ?_ ?_))
        all_goals first | omega | (simp only [List.length_append, List.length_cons, List.length_nil]; omega) | skip
        rw [q4 true (q5.trans hsf)]
        (focus (refine ⟨_, _, Gh.trans (gh_adoptC (t := 0) (i := 10) .int rfl trivial) (Gh.trans (gh_adoptC (t := 0) (i := 11) .int rfl trivial) (gh_close (t := 0) (ts := [3, 10, 11]) (l := GU ⟨W, S, P, atT now n, atT now n, H0, don, rt, putU (atT now n) kv (frG ⟨W, S, P, now, A, H0, don, rt, kv, br, vi, al⟩ n), [], [], false⟩) ⟨⟨_, _, rfl⟩, ?_, by simp⟩)), [0, 9], rfl, ?_⟩; all_goals (refine ⟨?_, ?_, ?_⟩ <;> simp only [go_sem, List.range, List.range.loop, List.nodup_cons, List.nodup_nil, List.mem_cons, List.not_mem_nil, or_false, or_self, decide_true, decide_false, Int.reduceToNat, Nat.min_eq_left, Nat.min_eq_right, Int.reducePow, Nat.reducePow, Int.reduceLE, Int.reduceLT, Int.reduceMul, Int.reduceAdd, Int.reduceSub, Int.reduceNeg, Bool.not_true, Bool.not_false, Bool.not_not, ↓reduceIte, Nat.reduceAdd, Nat.reduceSub, Nat.reduceMul, Nat.reduceEqDiff, reduceCtorEq, Nat.reduceLT, Nat.reduceLeDiff, Nat.reduceGT]); (try any_goals (refine ⟨?_, ?_⟩)); (try any_goals (with_reducible rfl))))
        all_goals (repeat' (first | (refine And.intro ?_ ?_) | exact List.Perm.refl _ | rfl | (simp; done)))
theorem b_tickU6 (n : Int) (ok : OkG ⟨W, S, P, now, A, H0, don, rt, kv, br, vi, al⟩) (c1 : W ≤ atT now n - A) (c2 : S ≤ atT now n - H0) (c3 : (!don || decide (P ≤ atT now n - rt)) = true) : DoesK Try.prog 1 12 [.ptr 0 0, .int .i64 n] [.pack (GU ⟨W, S, P, now, A, H0, don, rt, kv, br, vi, al⟩)] (EndF 1 (.sl 1 .rcy 0 (tickO ⟨W, S, P, now, A, H0, don, rt, kv, br, vi, al⟩ n).length) ([.pack (GU (tickG ⟨W, S, P, now, A, H0, don, rt, kv, br, vi, al⟩ n))] ++ [.rows .rcy (tickO ⟨W, S, P, now, A, H0, don, rt, kv, br, vi, al⟩ n)])) := by
  refine DoesK.close ?_
  have h1 := atT_ok (n := n) ok.now
  have h2 := ok.A
  have h3 := ok.H
  have h4 := ok.rt
  have h5 := ok.kv
  have h6 := ok.br
  have h7 := ok.vi
  dsimp only at h1 h2 h3 h4 h5 h6 h7
  have h8 := sdl_len br
  have d1 : decide (W ≤ atT now n - A) = true := decide_eq_true c1
  have d2 : decide (S ≤ atT now n - H0) = true := decide_eq_true c2
  have w1 : IntKind.i64.wrap (atT now n - A) = atT now n - A := wrap_i64 _ (by omega) (by omega)
  have w2 : IntKind.i64.wrap (atT now n - H0) = atT now n - H0 := wrap_i64 _ (by omega) (by omega)
  have q1 : wdG ⟨W, S, P, now, A, H0, don, rt, kv, br, vi, al⟩ n = true := d1
  have q2 : silG ⟨W, S, P, now, A, H0, don, rt, kv, br, vi, al⟩ n = true := by
    unfold silG mayB
    dsimp only
    rw [d2, c3]
    rfl
  have q3 : tickG ⟨W, S, P, now, A, H0, don, rt, kv, br, vi, al⟩ n = ⟨W, S, P, atT now n, atT now n, H0, true, atT now n, putU (atT now n) kv (frG ⟨W, S, P, now, A, H0, don, rt, kv, br, vi, al⟩ n), [], [], false⟩ := by
    unfold tickG
    rw [q1, q2]
    rfl
  have q4 : ∀ sf, safeG ⟨W, S, P, now, A, H0, don, rt, kv, br, vi, al⟩ n = sf → tickO ⟨W, S, P, now, A, H0, don, rt, kv, br, vi, al⟩ n = ([⟨atT now n, 3, 0⟩, ⟨atT now n, 4, 0⟩] : List Rcy) ++ outU (atT now n) (frG ⟨W, S, P, now, A, H0, don, rt, kv, br, vi, al⟩ n) ++ (if sf then [⟨atT now n, 1, 0⟩] else []) := fun sf hs => by
    unfold tickO tkO
    rw [q1, q2, hs]
    rfl
  have q5 : safeG ⟨W, S, P, now, A, H0, don, rt, kv, br, vi, al⟩ n = (true || (frG ⟨W, S, P, now, A, H0, don, rt, kv, br, vi, al⟩ n).any (hasZ vi)) := by
    unfold safeG
    rw [q2]
    dsimp only
    rw [Bool.or_true]
  rw [q3]
  refine w_body (rs := [.tmp 4]) (tm := [.ptr 0 0, .int .i64 n, .any, .any, .any, .any, .any, .any, .any, .any, .any, .any, .any, .any, .any, .any, .any, .any, .any, .any, .any, .any, .any, .any, .any, .any, .any, .any, .any, .any, .any, .any, .any, .any, .any, .any, .any, .any, .any, .any, .any, .any, .any, .any, .any, .any, .any, .any, .any, .any, .any, .any, .any, .any, .any, .any, .any, .any, .any, .any, .any, .any, .any, .any, .any, .any, .any, .any, .any, .any, .any, .any, .any, .any, .any, .any, .any, .any, .any, .any, .any, .any, .any, .any, .any, .any, .any, .any, .any, .any, .any, .any, .any, .any, .any, .any, .any, .any, .any, .any, .any, .any, .any, .any, .any, .any, .any, .any, .any, .any, .any, .any, .any, .any, .any, .any, .any, .any, .any, .any, .any, .any, .any, .any, .any, .any, .any, .any, .any, .any, .any, .any, .any, .any, .any, .any, .any, .any, .any, .any, .any, .any, .any, .any, .any, .any, .any, .any, .any, .any, .any]) fn_12 rfl rfl rfl rfl fun R hR => ?_
  (have zx1 := @d1; have zx2 := @d2; have zx3 := @w1; have zx4 := @w2; have zx5 := @c3; all_goals (try ((first | (with_reducible refine wp_id ?_) | (with_reducible refine does_id ?_) | (with_reducible refine ops_id ?_)); refine walk ?_; (repeat' (first | exact trivial | with_reducible refine And.intro ?_ ?_)); all_goals (repeat (first | (with_reducible refine ImpB.mk fun hb => ?_) | (with_reducible refine ImpK.mk fun hK => ?_) | (with_reducible refine ImpF.mk fun hF => ?_) | (with_reducible refine ImpQ.mk fun hp => ?_) | (with_reducible refine AllE.mk fun p => ?_) | (with_reducible refine AllR.mk fun rest => ?_) | (with_reducible refine AllK.mk fun K => ?_))))); repeat' (with_reducible refine And.intro ?_ ?_))
  all_goals first | exact h1 | exact h4 | skip
  refine Does.of_K ?_
  refine w_body (rs := []) (tm := [.int .i64 3, .int .i64 0, .ptr 2 0, .ptr 1 0, .any, .any, .any, .any, .any, .any, .any, .any, .any, .any, .any, .any]) fn_21 rfl rfl rfl rfl fun R hR => ?_
  (have zx1 := @d1; have zx2 := @d2; have zx3 := @w1; have zx4 := @w2; have zx5 := @c3; all_goals (try ((first | (with_reducible refine wp_id ?_) | (with_reducible refine does_id ?_) | (with_reducible refine ops_id ?_)); refine walk ?_; (repeat' (first | exact trivial | with_reducible refine And.intro ?_ ?_)); all_goals (repeat (first | (with_reducible refine ImpB.mk fun hb => ?_) | (with_reducible refine ImpK.mk fun hK => ?_) | (with_reducible refine ImpF.mk fun hF => ?_) | (with_reducible refine ImpQ.mk fun hp => ?_) | (with_reducible refine AllE.mk fun p => ?_) | (with_reducible refine AllR.mk fun rest => ?_) | (with_reducible refine AllK.mk fun K => ?_))))); repeat' (with_reducible refine And.intro ?_ ?_))
  all_goals first | exact h1 | exact h4 | skip
  refine Does.of_K ?_
  refine w_body (rs := []) (tm := [.int .i64 4, .int .i64 0, .ptr 2 0, .ptr 1 0, .any, .any, .any, .any, .any, .any, .any, .any, .any, .any, .any, .any]) fn_21 rfl rfl rfl rfl fun R hR => ?_
  (have zx1 := @d1; have zx2 := @d2; have zx3 := @w1; have zx4 := @w2; have zx5 := @c3; all_goals (try ((first | (with_reducible refine wp_id ?_) | (with_reducible refine does_id ?_) | (with_reducible refine ops_id ?_)); refine walk ?_; (repeat' (first | exact trivial | with_reducible refine And.intro ?_ ?_)); all_goals (repeat (first | (with_reducible refine ImpB.mk fun hb => ?_) | (with_reducible refine ImpK.mk fun hK => ?_) | (with_reducible refine ImpF.mk fun hF => ?_) | (with_reducible refine ImpQ.mk fun hp => ?_) | (with_reducible refine AllE.mk fun p => ?_) | (with_reducible refine AllR.mk fun rest => ?_) | (with_reducible refine AllK.mk fun K => ?_))))); repeat' (with_reducible refine And.intro ?_ ?_))
  all_goals first | exact (sortZ_len br).symm | (rw [sortZ_len]; omega) | skip
  any_goals ((try (refine w_seq fun K hK => ?_)); (try (refine w_block ?_)); refine w_loop (A := Nat) (fun k => k ≤ (sdl br).length) (fun k => (sdl br).length - k) (fun k => [(95, .int .i64 k), (7, .bool (true || (frd (dueB P (atT now n) kv) (sdl br) k).any (hasZ vi)))]) (fun k => [(2, .cells [.sl 9 .rcy 0 (([⟨atT now n, 3, 0⟩, ⟨atT now n, 4, 0⟩] : List Rcy) ++ outU (atT now n) (frd (dueB P (atT now n) kv) (sdl br) k)).length]), (3, .map .int .sw (putU (atT now n) kv (frd (dueB P (atT now n) kv) (sdl br) k))), (6, .gone), (7, .gone), (8, .gone), (9, .rows .rcy (([⟨atT now n, 3, 0⟩, ⟨atT now n, 4, 0⟩] : List Rcy) ++ outU (atT now n) (frd (dueB P (atT now n) kv) (sdl br) k)))]) (0) (ws := ?ws6) (tk := ?tk6) ?hw6 ?ht6 ?hi ?h0 ?LH6; (case hw6 => simp only [go_sem, decide_true, decide_false, Int.reduceToNat, Nat.min_eq_left, Nat.min_eq_right, Int.reducePow, Nat.reducePow, Int.reduceLE, Int.reduceLT, Int.reduceMul, Int.reduceAdd, Int.reduceSub, Int.reduceNeg, Bool.not_true, Bool.not_false, Bool.not_not, ↓reduceIte, Nat.reduceAdd, Nat.reduceSub, Nat.reduceMul, Nat.reduceEqDiff, reduceCtorEq, Nat.reduceLT, Nat.reduceLeDiff, Nat.reduceGT]; exact rfl); (case ht6 => simp only [go_sem, decide_true, decide_false, Int.reduceToNat, Nat.min_eq_left, Nat.min_eq_right, Int.reducePow, Nat.reducePow, Int.reduceLE, Int.reduceLT, Int.reduceMul, Int.reduceAdd, Int.reduceSub, Int.reduceNeg, Bool.not_true, Bool.not_false, Bool.not_not, ↓reduceIte, Nat.reduceAdd, Nat.reduceSub, Nat.reduceMul, Nat.reduceEqDiff, reduceCtorEq, Nat.reduceLT, Nat.reduceLeDiff, Nat.reduceGT]; exact rfl); (case' LH6 => rintro k E t hx hE ht; simp only [go_sem] at ht; subst ht; simp only [go_sem]; try dsimp only at hx))
  case hi => exact Nat.zero_le _
  case h0 =>
    (focus (refine ⟨_, _, Gh.refl, [0, 1, 2, 3, 4, 5, 6, 7, 8, 9], rfl, ?_⟩; (refine ⟨?_, ?_, ?_⟩ <;> simp only [go_sem, List.range, List.range.loop, List.nodup_cons, List.nodup_nil, List.mem_cons, List.not_mem_nil, or_false, or_self, decide_true, decide_false, Int.reduceToNat, Nat.min_eq_left, Nat.min_eq_right, Int.reducePow, Nat.reducePow, Int.reduceLE, Int.reduceLT, Int.reduceMul, Int.reduceAdd, Int.reduceSub, Int.reduceNeg, Bool.not_true, Bool.not_false, Bool.not_not, ↓reduceIte, Nat.reduceAdd, Nat.reduceSub, Nat.reduceMul, Nat.reduceEqDiff, reduceCtorEq, Nat.reduceLT, Nat.reduceLeDiff, Nat.reduceGT]); (try any_goals (refine ⟨?_, ?_⟩)); (try any_goals (with_reducible rfl))))
    all_goals (repeat' (first | (refine And.intro ?_ ?_) | exact List.Perm.refl _ | rfl | (simp [frd]; done) | (simp [frd, outU]; done)))
  case LH6 =>
    have hk0 : k ≤ (sdl br).length := hx
    have hw : IntKind.i64.wrap ((k : Int) + 1) = ((k + 1 : Nat) : Int) := by rw [wrap_i64 _ (by omega) (by omega)]; omega
    by_cases hk : k < (sdl br).length
    · have hkd : decide ((k : Int) < ((sdl br).length : Int)) = true := decide_eq_true (by omega)
      have hsd : compact (sortZ br) = sdl br := rfl
      have hm : (mget (k := .int) (e := .sw) (putU (atT now n) kv (frd (dueB P (atT now n) kv) (sdl br) k)) ((sdl br).getD k 0)).getD ⟨false, 0⟩ = mgz kv ((sdl br).getD k 0) := by
        have q := mgz_putU (atT now n) (frd (dueB P (atT now n) kv) (sdl br) k) kv ((sdl br).getD k 0)
        rw [if_neg (frd_new hk)] at q
        exact q
      have h9 := h5 ((sdl br).getD k 0)
      have hol : (outU (atT now n) (frd (dueB P (atT now n) kv) (sdl br) k)).length ≤ k := by unfold outU; rw [List.length_map]; exact frd_len
      have hbr : k < br.length := by omega
      by_cases hdu : dueB P (atT now n) kv ((sdl br).getD k 0) = true
      · have hy := frd_yes (due := (dueB P (atT now n) kv)) hk hdu
        have hdu' : (!(mgz kv ((sdl br).getD k 0)).done || decide (P ≤ atT now n - (mgz kv ((sdl br).getD k 0)).time)) = true := hdu
        (have zx1 := @hsd; have zx2 := @hkd; have zx3 := @hw; have zx4 := @hm; have zx5 := @hdu'; all_goals (try ((first | (with_reducible refine wp_id ?_) | (with_reducible refine does_id ?_) | (with_reducible refine ops_id ?_)); refine walk ?_; (repeat' (first | exact trivial | with_reducible refine And.intro ?_ ?_)); all_goals (repeat (first | (with_reducible refine ImpB.mk fun hb => ?_) | (with_reducible refine ImpK.mk fun hK => ?_) | (with_reducible refine ImpF.mk fun hF => ?_) | (with_reducible refine ImpQ.mk fun hp => ?_) | (with_reducible refine AllE.mk fun p => ?_) | (with_reducible refine AllR.mk fun rest => ?_) | (with_reducible refine AllK.mk fun K => ?_))))); repeat' (with_reducible refine And.intro ?_ ?_))
        all_goals first | exact h9.1 | exact h9.2 | omega | exact absurd (hb.symm.trans hdu') (by decide) | skip
        refine Does.of_K ?_
        refine w_body (rs := []) (tm := [.int .i64 2, .int .i64 ((sdl br).getD k 0), .ptr 2 0, .ptr 1 0, .any, .any, .any, .any, .any, .any, .any, .any, .any, .any, .any, .any]) fn_21 rfl rfl rfl rfl fun R hR => ?_
        (have zx1 := @hsd; have zx2 := @hkd; have zx3 := @hw; have zx4 := @hm; have zx5 := @hdu'; all_goals (try ((first | (with_reducible refine wp_id ?_) | (with_reducible refine does_id ?_) | (with_reducible refine ops_id ?_)); refine walk ?_; (repeat' (first | exact trivial | with_reducible refine And.intro ?_ ?_)); all_goals (repeat (first | (with_reducible refine ImpB.mk fun hb => ?_) | (with_reducible refine ImpK.mk fun hK => ?_) | (with_reducible refine ImpF.mk fun hF => ?_) | (with_reducible refine ImpQ.mk fun hp => ?_) | (with_reducible refine AllE.mk fun p => ?_) | (with_reducible refine AllR.mk fun rest => ?_) | (with_reducible refine AllK.mk fun K => ?_))))); repeat' (with_reducible refine And.intro ?_ ?_))
        all_goals first | omega | (simp only [List.length_append, List.length_cons, List.length_nil]; omega) | skip
        all_goals (refine ⟨k + 1, ⟨by first | omega | (dsimp only; omega), by first | omega | (dsimp only; omega)⟩, ?_⟩)
        all_goals (focus (refine ⟨_, _, Gh.refl, [0, 1, 2, 3, 4, 5, 6, 7, 8, 11], rfl, ?_⟩; (refine ⟨?_, ?_, ?_⟩ <;> simp only [go_sem, List.range, List.range.loop, List.nodup_cons, List.nodup_nil, List.mem_cons, List.not_mem_nil, or_false, or_self, decide_true, decide_false, Int.reduceToNat, Nat.min_eq_left, Nat.min_eq_right, Int.reducePow, Nat.reducePow, Int.reduceLE, Int.reduceLT, Int.reduceMul, Int.reduceAdd, Int.reduceSub, Int.reduceNeg, Bool.not_true, Bool.not_false, Bool.not_not, ↓reduceIte, Nat.reduceAdd, Nat.reduceSub, Nat.reduceMul, Nat.reduceEqDiff, reduceCtorEq, Nat.reduceLT, Nat.reduceLeDiff, Nat.reduceGT]); (try any_goals (refine ⟨?_, ?_⟩)); (try any_goals (with_reducible rfl))))
        all_goals (repeat' (first | (refine And.intro ?_ ?_) | rfl | (rw [hy, any_snoc, ← Bool.or_assoc, hb]; done) | (rw [hy, any_snoc, ← Bool.or_assoc, hb]; rfl) | (rw [hy, outU_snoc]; first | done | rfl | (simp; done)) | (rw [hy, putU_snoc]; first | done | exact List.Perm.refl _)))
      · have hdu0 : dueB P (atT now n) kv ((sdl br).getD k 0) = false := by cases q : dueB P (atT now n) kv ((sdl br).getD k 0) <;> simp_all
        have hy := frd_no (due := (dueB P (atT now n) kv)) hk hdu0
        have hdu' : (!(mgz kv ((sdl br).getD k 0)).done || decide (P ≤ atT now n - (mgz kv ((sdl br).getD k 0)).time)) = false := hdu0
        (have zx1 := @hsd; have zx2 := @hkd; have zx3 := @hw; have zx4 := @hm; have zx5 := @hdu'; all_goals (try ((first | (with_reducible refine wp_id ?_) | (with_reducible refine does_id ?_) | (with_reducible refine ops_id ?_)); refine walk ?_; (repeat' (first | exact trivial | with_reducible refine And.intro ?_ ?_)); all_goals (repeat (first | (with_reducible refine ImpB.mk fun hb => ?_) | (with_reducible refine ImpK.mk fun hK => ?_) | (with_reducible refine ImpF.mk fun hF => ?_) | (with_reducible refine ImpQ.mk fun hp => ?_) | (with_reducible refine AllE.mk fun p => ?_) | (with_reducible refine AllR.mk fun rest => ?_) | (with_reducible refine AllK.mk fun K => ?_))))); repeat' (with_reducible refine And.intro ?_ ?_))
        all_goals first | exact h9.1 | exact h9.2 | omega | exact absurd (hb.symm.trans hdu') (by decide) | skip
        all_goals (refine ⟨k + 1, ⟨by first | omega | (dsimp only; omega), by first | omega | (dsimp only; omega)⟩, ?_⟩)
        all_goals (focus (refine ⟨_, _, Gh.refl, [0, 1, 2, 3, 4, 5, 6, 7, 8, 9], rfl, ?_⟩; (refine ⟨?_, ?_, ?_⟩ <;> simp only [go_sem, List.range, List.range.loop, List.nodup_cons, List.nodup_nil, List.mem_cons, List.not_mem_nil, or_false, or_self, decide_true, decide_false, Int.reduceToNat, Nat.min_eq_left, Nat.min_eq_right, Int.reducePow, Nat.reducePow, Int.reduceLE, Int.reduceLT, Int.reduceMul, Int.reduceAdd, Int.reduceSub, Int.reduceNeg, Bool.not_true, Bool.not_false, Bool.not_not, ↓reduceIte, Nat.reduceAdd, Nat.reduceSub, Nat.reduceMul, Nat.reduceEqDiff, reduceCtorEq, Nat.reduceLT, Nat.reduceLeDiff, Nat.reduceGT]); (try any_goals (refine ⟨?_, ?_⟩)); (try any_goals (with_reducible rfl))))
        all_goals (repeat' (first | (refine And.intro ?_ ?_) | rfl | (rw [hy]; first | done | exact List.Perm.refl _)))
    · have hkd : decide ((k : Int) < ((sdl br).length : Int)) = false := decide_eq_false (by omega)
      have hsd : compact (sortZ br) = sdl br := rfl
      obtain rfl : k = (sdl br).length := by omega
      have hfe : frd (dueB P (atT now n) kv) (sdl br) (sdl br).length = frG ⟨W, S, P, now, A, H0, don, rt, kv, br, vi, al⟩ n := frd_end
      rw [hfe]
      cases hsf : (true || (frG ⟨W, S, P, now, A, H0, don, rt, kv, br, vi, al⟩ n).any (hasZ vi))
      · (have zx1 := @hsd; have zx2 := @hkd; have zx3 := @hsf; all_goals (try ((first | (with_reducible refine wp_id ?_) | (with_reducible refine does_id ?_) | (with_reducible refine ops_id ?_)); refine walk ?_; (repeat' (first | exact trivial | with_reducible refine And.intro ?_ ?_)); all_goals (repeat (first | (with_reducible refine ImpB.mk fun hb => ?_) | (with_reducible refine ImpK.mk fun hK => ?_) | (with_reducible refine ImpF.mk fun hF => ?_) | (with_reducible refine ImpQ.mk fun hp => ?_) | (with_reducible refine AllE.mk fun p => ?_) | (with_reducible refine AllR.mk fun rest => ?_) | (with_reducible refine AllK.mk fun K => ?_))))); repeat' (with_reducible refine And.intro ?_ ?_))
        all_goals first | omega | skip
        rw [q4 false (q5.trans hsf)]
        (focus (refine ⟨_, _, Gh.trans (gh_adoptC (t := 0) (i := 10) .int rfl trivial) (Gh.trans (gh_adoptC (t := 0) (i := 11) .int rfl trivial) (gh_close (t := 0) (ts := [3, 10, 11]) (l := GU ⟨W, S, P, atT now n, atT now n, H0, true, atT now n, putU (atT now n) kv (frG ⟨W, S, P, now, A, H0, don, rt, kv, br, vi, al⟩ n), [], [], false⟩) ⟨⟨_, _, rfl⟩, ?_, by simp⟩)), [0, 9], rfl, ?_⟩; all_goals (refine ⟨?_, ?_, ?_⟩ <;> simp only [go_sem, List.range, List.range.loop, List.nodup_cons, List.nodup_nil, List.mem_cons, List.not_mem_nil, or_false, or_self, decide_true, decide_false, Int.reduceToNat, Nat.min_eq_left, Nat.min_eq_right, Int.reducePow, Nat.reducePow, Int.reduceLE, Int.reduceLT, Int.reduceMul, Int.reduceAdd, Int.reduceSub, Int.reduceNeg, Bool.not_true, Bool.not_false, Bool.not_not, ↓reduceIte, Nat.reduceAdd, Nat.reduceSub, Nat.reduceMul, Nat.reduceEqDiff, reduceCtorEq, Nat.reduceLT, Nat.reduceLeDiff, Nat.reduceGT]); (try any_goals (refine ⟨?_, ?_⟩)); (try any_goals (with_reducible rfl))))
        all_goals (repeat' (first | (refine And.intro ?_ ?_) | exact List.Perm.refl _ | rfl | (simp; done)))
      · have hol : (outU (atT now n) (frG ⟨W, S, P, now, A, H0, don, rt, kv, br, vi, al⟩ n)).length ≤ br.length := by
          unfold outU; rw [List.length_map]; unfold frG; exact Nat.le_trans (List.length_filter_le _ _) h8
        (have zx1 := @hsd; have zx2 := @hkd; have zx3 := @hsf; all_goals (try ((first | (with_reducible refine wp_id ?_) | (with_reducible refine does_id ?_) | (with_reducible refine ops_id ?_)); refine walk ?_; (repeat' (first | exact trivial | with_reducible refine And.intro ?_ ?_)); all_goals (repeat (first | (with_reducible refine ImpB.mk fun hb => ?_) | (with_reducible refine ImpK.mk fun hK => ?_) | (with_reducible refine ImpF.mk fun hF => ?_) | (with_reducible refine ImpQ.mk fun hp => ?_) | (with_reducible refine AllE.mk fun p => ?_) | (with_reducible refine AllR.mk fun rest => ?_) | (with_reducible refine AllK.mk fun K => ?_))))); repeat' (with_reducible refine And.intro ?_ ?_))
        all_goals first | omega | skip
        refine Does.of_K ?_
        refine w_body (rs := []) (tm := [.int .i64 1, .int .i64 0, .ptr 2 0, .ptr 1 0, .any, .any, .any, .any, .any, .any, .any, .any, .any, .any, .any, .any]) fn_21 rfl rfl rfl rfl fun R hR => ?_
        (have zx1 := @hsd; have zx2 := @hkd; have zx3 := @hsf; all_goals (try ((first | (with_reducible refine wp_id ?_) | (with_reducible refine does_id ?_) | (with_reducible refine ops_id ?_)); refine walk ?_; (repeat' (first | exact trivial | with_reducible refine And.intro ?_ ?_)); all_goals (repeat (first | (with_reducible refine ImpB.mk fun hb => ?_) | (with_reducible refine ImpK.mk fun hK => ?_) | (with_reducible refine ImpF.mk fun hF => ?_) | (with_reducible refine ImpQ.mk fun hp => ?_) | (with_reducible refine AllE.mk fun p => ?_) | (with_reducible refine AllR.mk fun rest => ?_) | (with_reducible refine AllK.mk fun K => ?_))))); repeat' (with_reducible refine And.intro ?_ ?_))
        all_goals first | omega | (simp only [List.length_append, List.length_cons, List.length_nil]; omega) | skip
        rw [q4 true (q5.trans hsf)]
        (focus (refine ⟨_, _, Gh.trans (gh_adoptC (t := 0) (i := 10) .int rfl trivial) (Gh.trans (gh_adoptC (t := 0) (i := 11) .int rfl trivial) (gh_close (t := 0) (ts := [3, 12, 13]) (l := GU ⟨W, S, P, atT now n, atT now n, H0, true, atT now n, putU (atT now n) kv (frG ⟨W, S, P, now, A, H0, don, rt, kv, br, vi, al⟩ n), [], [], false⟩) ⟨⟨_, _, rfl⟩, ?_, by simp⟩)), [0, 11], rfl, ?_⟩; all_goals (refine ⟨?_, ?_, ?_⟩ <;> simp only [go_sem, List.range, List.range.loop, List.nodup_cons, List.nodup_nil, List.mem_cons, List.not_mem_nil, or_false, or_self, decide_true, decide_false, Int.reduceToNat, Nat.min_eq_left, Nat.min_eq_right, Int.reducePow, Nat.reducePow, Int.reduceLE, Int.reduceLT, Int.reduceMul, Int.reduceAdd, Int.reduceSub, Int.reduceNeg, Bool.not_true, Bool.not_false, Bool.not_not, ↓reduceIte, Nat.reduceAdd, Nat.reduceSub, Nat.reduceMul, Nat.reduceEqDiff, reduceCtorEq, Nat.reduceLT, Nat.reduceLeDiff, Nat.reduceGT]); (try any_goals (refine ⟨?_, ?_⟩)); (try any_goals (with_reducible rfl))))
        all_goals (repeat' (first | (refine And.intro ?_ ?_) | exact List.Perm.refl _ | rfl | (simp; done)))
end
end Go.V
