/-
  The specification of the schedule: Due, Shift, Restore.
  The specification of the schedule: Restore.
  The schedule and its specification: plain laws.
  The schedule and its specification: the invariant, step by step.
-/
import Derived.Test.YtnhhgmoadpiklaaPart19
set_option linter.unusedVariables false
set_option linter.unusedSimpArgs false
set_option maxRecDepth 100000
set_option maxHeartbeats 8000000
namespace Go.V
open Go.Proofs
def rdueR (now : Int) (l : List Ent) : List Ent := l.filter fun x => decide (now < x.time)
def rdueO (now : Int) (off : List Int) (l : List Ent) : List Ent := l.filter fun x => !decide (now < x.time) && !offG off x.group
theorem filter_take {p : Ent → Bool} {l : List Ent} {k : Nat} (hk : k < l.length) : (l.take (k + 1)).filter p = (l.take k).filter p ++ (if p (eAt l k) then [eAt l k] else []) := by
  rw [take_ent hk, List.filter_append]
  congr 1
  rw [List.filter_cons, List.filter_nil]
theorem filter_len {p : Ent → Bool} {l : List Ent} {k : Nat} : ((l.take k).filter p).length ≤ k :=
  Nat.le_trans (List.length_filter_le _ _) (by rw [List.length_take]; omega)
theorem b_rdue (most now next n : Int) (off : List Int) (l : List Ent) (hl : l.length ≤ 1000000) (ho : off.length ≤ 1099511627776) :
    DoesK Try.prog 1 34 [.ptr 0 0, .int .i64 n] [RS most next now l off] (EndF 1 (.ro .ent (rdueO (passT now n) off l)) ([RS most next (passT now n) (rdueR (passT now n) l) off] ++ [])) := by
  refine DoesK.close ?_
  obtain ⟨nw, hnw⟩ : ∃ nw, passT now n = nw := ⟨_, rfl⟩
  rw [hnw]
  refine w_body (rs := [.tmp 4]) (tm := [.ptr 0 0, .int .i64 n, .any, .any, .any, .any, .any, .any, .any, .any, .any, .any, .any, .any, .any, .any, .any, .any, .any, .any, .any, .any, .any, .any, .any, .any, .any, .any, .any, .any, .any, .any, .any, .any, .any, .any, .any, .any, .any, .any, .any, .any, .any, .any, .any, .any, .any, .any, .any, .any, .any, .any, .any]) fn_34 rfl rfl rfl rfl fun R hR => ?_
  (have zx1 := @hnw; all_goals (try ((first | (with_reducible refine wp_id ?_) | (with_reducible refine does_id ?_) | (with_reducible refine ops_id ?_)); refine walk ?_; (repeat' (first | exact trivial | with_reducible refine And.intro ?_ ?_)); all_goals (repeat (first | (with_reducible refine ImpB.mk fun hb => ?_) | (with_reducible refine ImpK.mk fun hK => ?_) | (with_reducible refine ImpF.mk fun hF => ?_) | (with_reducible refine ImpQ.mk fun hp => ?_) | (with_reducible refine AllE.mk fun p => ?_) | (with_reducible refine AllR.mk fun rest => ?_) | (with_reducible refine AllK.mk fun K => ?_))))); repeat' (with_reducible refine And.intro ?_ ?_))
  refine Wp.ghost (gh_adopt (s := 5) .ent trivial) ?_
  refine Wp.ghost (gh_adopt (s := 6) .ent trivial) ?_
  any_goals ((try (refine w_seq fun K hK => ?_)); (try (refine w_block ?_)); refine w_loop (A := Nat × List Ent × List Ent) (fun p => p.2.1 = rdueO nw off (l.take p.1) ∧ p.2.2 = rdueR nw (l.take p.1) ∧ p.1 ≤ l.length) (fun p => l.length - p.1) (fun p => [(7, .int .i64 p.1), (5, .sl 1 .ent 0 p.2.1.length), (6, .sl 2 .ent 0 p.2.2.length)]) (fun p => [(0, RS most next nw l off), (1, .rows .ent p.2.1), (2, .rows .ent p.2.2)]) ((0, [], [])) (ws := ?ws1) (tk := ?tk1) ?hw1 ?ht1 ?hi ?h0 ?LH1; (case hw1 => simp only [go_sem, decide_true, decide_false, Int.reduceToNat, Nat.min_eq_left, Nat.min_eq_right, Int.reducePow, Nat.reducePow, Int.reduceLE, Int.reduceLT, Int.reduceMul, Int.reduceAdd, Int.reduceSub, Int.reduceNeg, Bool.not_true, Bool.not_false, Bool.not_not, ↓reduceIte, Nat.reduceAdd, Nat.reduceSub, Nat.reduceMul, Nat.reduceEqDiff, reduceCtorEq, Nat.reduceLT, Nat.reduceLeDiff, Nat.reduceGT]; exact rfl); (case ht1 => simp only [go_sem, decide_true, decide_false, Int.reduceToNat, Nat.min_eq_left, Nat.min_eq_right, Int.reducePow, Nat.reducePow, Int.reduceLE, Int.reduceLT, Int.reduceMul, Int.reduceAdd, Int.reduceSub, Int.reduceNeg, Bool.not_true, Bool.not_false, Bool.not_not, ↓reduceIte, Nat.reduceAdd, Nat.reduceSub, Nat.reduceMul, Nat.reduceEqDiff, reduceCtorEq, Nat.reduceLT, Nat.reduceLeDiff, Nat.reduceGT]; exact rfl); (case' LH1 => rintro ⟨k, acc, rest⟩ E t hx hE ht; simp only [go_sem] at ht; subst ht; simp only [go_sem]; try dsimp only at hx))
  case LH1 =>
    obtain ⟨ha, hr, hk⟩ := hx
    have hal : acc.length ≤ k := by rw [ha]; exact filter_len
    have hrl : rest.length ≤ k := by rw [hr]; exact filter_len
    by_cases c1 : k < l.length
    · have d1 : decide ((k : Int) < (l.length : Int)) = true := decide_eq_true (by omega)
      have hw : IntKind.i64.wrap ((k : Int) + 1) = ((k + 1 : Nat) : Int) := wrap_i64 _ (by omega) (by omega)
      have f1 : rdueO nw off (l.take (k + 1)) = acc ++ (if (!decide (nw < (eAt l k).time) && !offG off (eAt l k).group) then [eAt l k] else []) := by rw [ha]; exact filter_take c1
      have f2 : rdueR nw (l.take (k + 1)) = rest ++ (if decide (nw < (eAt l k).time) then [eAt l k] else []) := by rw [hr]; exact filter_take c1
      (have zx1 := @d1; have zx2 := @hw; all_goals (try ((first | (with_reducible refine wp_id ?_) | (with_reducible refine does_id ?_) | (with_reducible refine ops_id ?_)); refine walk ?_; (repeat' (first | exact trivial | with_reducible refine And.intro ?_ ?_)); all_goals (repeat (first | (with_reducible refine ImpB.mk fun hb => ?_) | (with_reducible refine ImpK.mk fun hK => ?_) | (with_reducible refine ImpF.mk fun hF => ?_) | (with_reducible refine ImpQ.mk fun hp => ?_) | (with_reducible refine AllE.mk fun p => ?_) | (with_reducible refine AllR.mk fun rest => ?_) | (with_reducible refine AllK.mk fun K => ?_))))); repeat' (with_reducible refine And.intro ?_ ?_))
      any_goals first | omega | exact Int.natCast_nonneg _
      · have q : decide (nw < (eAt l k).time) = true := hb
        refine ⟨(k + 1, acc, rest ++ [eAt l k]), ⟨⟨by rw [f1, q]; simp, by rw [f2, q]; simp, c1⟩, by dsimp only; omega⟩, ?_⟩
        (focus (refine ⟨_, _, Gh.refl, [0, 1, 5], rfl, ?_⟩; (refine ⟨?_, ?_, ?_⟩ <;> simp only [go_sem, List.range, List.range.loop, List.nodup_cons, List.nodup_nil, List.mem_cons, List.not_mem_nil, or_false, or_self, decide_true, decide_false, Int.reduceToNat, Nat.min_eq_left, Nat.min_eq_right, Int.reducePow, Nat.reducePow, Int.reduceLE, Int.reduceLT, Int.reduceMul, Int.reduceAdd, Int.reduceSub, Int.reduceNeg, Bool.not_true, Bool.not_false, Bool.not_not, ↓reduceIte, Nat.reduceAdd, Nat.reduceSub, Nat.reduceMul, Nat.reduceEqDiff, reduceCtorEq, Nat.reduceLT, Nat.reduceLeDiff, Nat.reduceGT]); (try any_goals (refine ⟨?_, ?_⟩)); (try any_goals (with_reducible rfl))))
      · rename_i q1
        have q : decide (nw < (eAt l k).time) = false := q1
        have q2 : (!offG off (eAt l k).group) = true := hb
        refine ⟨(k + 1, acc ++ [eAt l k], rest), ⟨⟨by rw [f1, q, q2]; simp, by rw [f2, q]; simp, c1⟩, by dsimp only; omega⟩, ?_⟩
        (focus (refine ⟨_, _, Gh.refl, [0, 5, 2], rfl, ?_⟩; (refine ⟨?_, ?_, ?_⟩ <;> simp only [go_sem, List.range, List.range.loop, List.nodup_cons, List.nodup_nil, List.mem_cons, List.not_mem_nil, or_false, or_self, decide_true, decide_false, Int.reduceToNat, Nat.min_eq_left, Nat.min_eq_right, Int.reducePow, Nat.reducePow, Int.reduceLE, Int.reduceLT, Int.reduceMul, Int.reduceAdd, Int.reduceSub, Int.reduceNeg, Bool.not_true, Bool.not_false, Bool.not_not, ↓reduceIte, Nat.reduceAdd, Nat.reduceSub, Nat.reduceMul, Nat.reduceEqDiff, reduceCtorEq, Nat.reduceLT, Nat.reduceLeDiff, Nat.reduceGT]); (try any_goals (refine ⟨?_, ?_⟩)); (try any_goals (with_reducible rfl))))
      · rename_i q1
        have q : decide (nw < (eAt l k).time) = false := q1
        have q2 : (!offG off (eAt l k).group) = false := hb
        refine ⟨(k + 1, acc, rest), ⟨⟨by rw [f1, q, q2]; simp, by rw [f2, q]; simp, c1⟩, by dsimp only; omega⟩, ?_⟩
        (focus (refine ⟨_, _, Gh.refl, [0, 1, 2], rfl, ?_⟩; (refine ⟨?_, ?_, ?_⟩ <;> simp only [go_sem, List.range, List.range.loop, List.nodup_cons, List.nodup_nil, List.mem_cons, List.not_mem_nil, or_false, or_self, decide_true, decide_false, Int.reduceToNat, Nat.min_eq_left, Nat.min_eq_right, Int.reducePow, Nat.reducePow, Int.reduceLE, Int.reduceLT, Int.reduceMul, Int.reduceAdd, Int.reduceSub, Int.reduceNeg, Bool.not_true, Bool.not_false, Bool.not_not, ↓reduceIte, Nat.reduceAdd, Nat.reduceSub, Nat.reduceMul, Nat.reduceEqDiff, reduceCtorEq, Nat.reduceLT, Nat.reduceLeDiff, Nat.reduceGT]); (try any_goals (refine ⟨?_, ?_⟩)); (try any_goals (with_reducible rfl))))
    · have d1 : decide ((k : Int) < (l.length : Int)) = false := decide_eq_false (by omega)
      rw [List.take_of_length_le (by omega)] at ha hr
      (have zx1 := @d1; all_goals (try ((first | (with_reducible refine wp_id ?_) | (with_reducible refine does_id ?_) | (with_reducible refine ops_id ?_)); refine walk ?_; (repeat' (first | exact trivial | with_reducible refine And.intro ?_ ?_)); all_goals (repeat (first | (with_reducible refine ImpB.mk fun hb => ?_) | (with_reducible refine ImpK.mk fun hK => ?_) | (with_reducible refine ImpF.mk fun hF => ?_) | (with_reducible refine ImpQ.mk fun hp => ?_) | (with_reducible refine AllE.mk fun p => ?_) | (with_reducible refine AllR.mk fun rest => ?_) | (with_reducible refine AllK.mk fun K => ?_))))); repeat' (with_reducible refine And.intro ?_ ?_))
      rw [← ha, ← hr]
      refine ⟨_, _, (gh_frz (t := 2) (e := .ent) (xs := rest) rfl ?f1 ?f2).trans (gh_frz (t := 1) (e := .ent) (xs := acc) rfl ?f3 ?f4), [0], rfl, ?ft⟩
      case' ft => (refine ⟨?_, ?_, ?_⟩ <;> simp only [go_sem, List.range, List.range.loop, List.nodup_cons, List.nodup_nil, List.mem_cons, List.not_mem_nil, or_false, or_self, decide_true, decide_false, Int.reduceToNat, Nat.min_eq_left, Nat.min_eq_right, Int.reducePow, Nat.reducePow, Int.reduceLE, Int.reduceLT, Int.reduceMul, Int.reduceAdd, Int.reduceSub, Int.reduceNeg, Bool.not_true, Bool.not_false, Bool.not_not, ↓reduceIte, Nat.reduceAdd, Nat.reduceSub, Nat.reduceMul, Nat.reduceEqDiff, reduceCtorEq, Nat.reduceLT, Nat.reduceLeDiff, Nat.reduceGT])
      case' f1 => simp only [go_sem, decide_true, decide_false, Int.reduceToNat, Nat.min_eq_left, Nat.min_eq_right, Int.reducePow, Nat.reducePow, Int.reduceLE, Int.reduceLT, Int.reduceMul, Int.reduceAdd, Int.reduceSub, Int.reduceNeg, Bool.not_true, Bool.not_false, Bool.not_not, ↓reduceIte, Nat.reduceAdd, Nat.reduceSub, Nat.reduceMul, Nat.reduceEqDiff, reduceCtorEq, Nat.reduceLT, Nat.reduceLeDiff, Nat.reduceGT]
      case' f2 => simp only [go_sem, decide_true, decide_false, Int.reduceToNat, Nat.min_eq_left, Nat.min_eq_right, Int.reducePow, Nat.reducePow, Int.reduceLE, Int.reduceLT, Int.reduceMul, Int.reduceAdd, Int.reduceSub, Int.reduceNeg, Bool.not_true, Bool.not_false, Bool.not_not, ↓reduceIte, Nat.reduceAdd, Nat.reduceSub, Nat.reduceMul, Nat.reduceEqDiff, reduceCtorEq, Nat.reduceLT, Nat.reduceLeDiff, Nat.reduceGT]
      case' f3 => simp only [go_sem, decide_true, decide_false, Int.reduceToNat, Nat.min_eq_left, Nat.min_eq_right, Int.reducePow, Nat.reducePow, Int.reduceLE, Int.reduceLT, Int.reduceMul, Int.reduceAdd, Int.reduceSub, Int.reduceNeg, Bool.not_true, Bool.not_false, Bool.not_not, ↓reduceIte, Nat.reduceAdd, Nat.reduceSub, Nat.reduceMul, Nat.reduceEqDiff, reduceCtorEq, Nat.reduceLT, Nat.reduceLeDiff, Nat.reduceGT]
      case' f4 => simp only [go_sem, decide_true, decide_false, Int.reduceToNat, Nat.min_eq_left, Nat.min_eq_right, Int.reducePow, Nat.reducePow, Int.reduceLE, Int.reduceLT, Int.reduceMul, Int.reduceAdd, Int.reduceSub, Int.reduceNeg, Bool.not_true, Bool.not_false, Bool.not_not, ↓reduceIte, Nat.reduceAdd, Nat.reduceSub, Nat.reduceMul, Nat.reduceEqDiff, reduceCtorEq, Nat.reduceLT, Nat.reduceLeDiff, Nat.reduceGT]
      all_goals first | exact Nat.le_refl _ | exact ⟨Nat.le_refl _, False.elim⟩ | (simp; done) | trace_state
  · exact ⟨rfl, rfl, Nat.zero_le _⟩
  · (focus (refine ⟨_, _, Gh.refl, [0, 1, 2], rfl, ?_⟩; (refine ⟨?_, ?_, ?_⟩ <;> simp only [go_sem, List.range, List.range.loop, List.nodup_cons, List.nodup_nil, List.mem_cons, List.not_mem_nil, or_false, or_self, decide_true, decide_false, Int.reduceToNat, Nat.min_eq_left, Nat.min_eq_right, Int.reducePow, Nat.reducePow, Int.reduceLE, Int.reduceLT, Int.reduceMul, Int.reduceAdd, Int.reduceSub, Int.reduceNeg, Bool.not_true, Bool.not_false, Bool.not_not, ↓reduceIte, Nat.reduceAdd, Nat.reduceSub, Nat.reduceMul, Nat.reduceEqDiff, reduceCtorEq, Nat.reduceLT, Nat.reduceLeDiff, Nat.reduceGT]); (try any_goals (refine ⟨?_, ?_⟩)); (try any_goals (with_reducible rfl))))
theorem c_rdue {h : List Ch} {K : KT} {u : Nat} {most now next n : Int} {off : List Int} {l : List Ent} (H : K (.ro .ent (rdueO (passT now n) off l)) (h.set u (RS most next (passT now n) (rdueR (passT now n) l) off))) (o : hth h u = RS most next now l off) (s1 : l.length ≤ 1000000) (s2 : off.length ≤ 1099511627776) : Does Try.prog 34 [.ptr u 0, .int .i64 n] h K :=
  frame_obj0 (b_rdue most now next n off l s1 s2) o (by simp [RS]) (fun σ => fit_rs σ) (br_cons (br_ptr rfl) (br_cons br_int br_nil)) (.inl rfl) (fun _ => rfl) rfl H
/-! ### Shift -/
abbrev i_rdue := Ctr.mk (i := 0) (g := 34) @c_rdue
attribute [instance] i_rdue
def shF (g by' : Int) (l : List Ent) : List Ent := l.foldl (fun a x => insB a (shOne g by' x)) []
def rshL (now g by' : Int) (l : List Ent) : List Ent := if shE now g by' l = 0 then shF g by' l else l
theorem insB_len (l : List Ent) (x : Ent) : (insB l x).length = l.length + 1 := by
  have h := congrArg List.length (List.takeWhile_append_dropWhile (p := fun y => befE y x) (l := l))
  unfold insB
  simp only [List.length_append, List.length_cons] at h ⊢
  omega
theorem shF_succ {g by' : Int} {l : List Ent} {k : Nat} (hk : k < l.length) : shF g by' (l.take (k + 1)) = insB (shF g by' (l.take k)) (shOne g by' (eAt l k)) := by
  rw [take_ent hk]; unfold shF; rw [List.foldl_append]; rfl
theorem shF_len {g by' : Int} : ∀ {l : List Ent} {a : List Ent}, (l.foldl (fun a x => insB a (shOne g by' x)) a).length = a.length + l.length
  | [], a => rfl
  | x :: l, a => by rw [List.foldl_cons, shF_len, insB_len, List.length_cons]; omega
theorem b_rshift (most now next n g by' : Int) (off : List Int) (l : List Ent) (hl : l.length ≤ 1000000) (ht : timeE l) (hnow : 0 ≤ now ∧ now ≤ 1099511627776) :
    DoesK Try.prog 1 31 [.ptr 0 0, .int .i64 n, .int .i64 g, .int .i64 by'] [RS most next now l off] (EndF 1 (.int .i64 (shE (passT now n) g by' l)) ([RS most next (passT now n) (rshL (passT now n) g by' l) off] ++ [])) := by
  refine DoesK.close ?_
  obtain ⟨nw, hnw⟩ : ∃ nw, passT now n = nw := ⟨_, rfl⟩
  have hnr : 0 ≤ nw ∧ nw ≤ 1099511627776 := by rw [← hnw]; unfold passT; split <;> omega
  rw [hnw]
  by_cases c1 : 0 ≤ g ∧ g < 16
  · have d0 : decide (g < 0) = false := decide_eq_false (by omega)
    have d0' : decide (15 < g) = false := decide_eq_false (by omega)
    refine w_body (rs := [.tmp 8]) (tm := [.ptr 0 0, .int .i64 n, .int .i64 g, .int .i64 by', .any, .any, .any, .any, .any, .any, .any, .any, .any, .any, .any, .any, .any, .any, .any, .any, .any, .any, .any, .any, .any, .any, .any, .any, .any, .any, .any, .any, .any, .any, .any, .any, .any, .any, .any, .any, .any, .any, .any, .any, .any, .any, .any, .any, .any, .any, .any, .any, .any, .any, .any, .any, .any, .any, .any, .any, .any, .any, .any, .any, .any, .any, .any, .any, .any]) fn_31 rfl rfl rfl rfl fun R hR => ?_
    (have zx1 := @hnw; have zx2 := @d0; have zx3 := @d0'; all_goals (try ((first | (with_reducible refine wp_id ?_) | (with_reducible refine does_id ?_) | (with_reducible refine ops_id ?_)); refine walk ?_; (repeat' (first | exact trivial | with_reducible refine And.intro ?_ ?_)); all_goals (repeat (first | (with_reducible refine ImpB.mk fun hb => ?_) | (with_reducible refine ImpK.mk fun hK => ?_) | (with_reducible refine ImpF.mk fun hF => ?_) | (with_reducible refine ImpQ.mk fun hp => ?_) | (with_reducible refine AllE.mk fun p => ?_) | (with_reducible refine AllR.mk fun rest => ?_) | (with_reducible refine AllK.mk fun K => ?_))))); repeat' (with_reducible refine And.intro ?_ ?_))
    any_goals ((try (refine w_seq fun K hK => ?_)); (try (refine w_block ?_)); refine w_loop (A := Nat × List Ent) (fun p => p.2 = shF g by' (l.take p.1) ∧ p.1 ≤ l.length ∧ (l.take p.1).any (shBad nw g by') = false) (fun p => l.length - p.1) (fun p => [(10, .int .i64 p.1), (9, .ro .ent p.2)]) (fun p => [(0, RS most next nw l off)]) ((0, [])) (ws := ?ws2) (tk := ?tk2) ?hw2 ?ht2 ?hi ?h0 ?LH2; (case hw2 => simp only [go_sem, decide_true, decide_false, Int.reduceToNat, Nat.min_eq_left, Nat.min_eq_right, Int.reducePow, Nat.reducePow, Int.reduceLE, Int.reduceLT, Int.reduceMul, Int.reduceAdd, Int.reduceSub, Int.reduceNeg, Bool.not_true, Bool.not_false, Bool.not_not, ↓reduceIte, Nat.reduceAdd, Nat.reduceSub, Nat.reduceMul, Nat.reduceEqDiff, reduceCtorEq, Nat.reduceLT, Nat.reduceLeDiff, Nat.reduceGT]; exact rfl); (case ht2 => simp only [go_sem, decide_true, decide_false, Int.reduceToNat, Nat.min_eq_left, Nat.min_eq_right, Int.reducePow, Nat.reducePow, Int.reduceLE, Int.reduceLT, Int.reduceMul, Int.reduceAdd, Int.reduceSub, Int.reduceNeg, Bool.not_true, Bool.not_false, Bool.not_not, ↓reduceIte, Nat.reduceAdd, Nat.reduceSub, Nat.reduceMul, Nat.reduceEqDiff, reduceCtorEq, Nat.reduceLT, Nat.reduceLeDiff, Nat.reduceGT]; exact rfl); (case' LH2 => rintro ⟨k, acc⟩ E t hx hE ht; simp only [go_sem] at ht; subst ht; simp only [go_sem]; try dsimp only at hx))
    case LH2 =>
      obtain ⟨ha, hk, hno⟩ := hx
      have hal : acc.length = k := by rw [ha]; unfold shF; rw [shF_len, List.length_take]; simp; omega
      by_cases c2 : k < l.length
      · have d2 : decide ((k : Int) < (l.length : Int)) = true := decide_eq_true (by omega)
        have htk : 0 ≤ (eAt l k).time ∧ (eAt l k).time ≤ 1099511627776 := by rw [eAt_eq c2]; exact ht _ (List.getElem_mem c2)
        have hst := take_ent c2
        have hfs := shF_succ (g := g) (by' := by') c2
        rw [← ha] at hfs
        have hw : IntKind.i64.wrap ((k : Int) + 1) = ((k + 1 : Nat) : Int) := wrap_i64 _ (by omega) (by omega)
        have hw1 : IntKind.i64.wrap (1099511627776 - (eAt l k).time) = 1099511627776 - (eAt l k).time := wrap_i64 _ (by omega) (by omega)
        have hw2 : IntKind.i64.wrap (nw - (eAt l k).time) = nw - (eAt l k).time := wrap_i64 _ (by omega) (by omega)
        have hE : shBad nw g by' (eAt l k) = true → shE nw g by' l = 10 ∧ rshL nw g by' l = l := by
          intro q
          have q' : l.any (shBad nw g by') = true := List.any_eq_true.2 ⟨eAt l k, by rw [eAt_eq c2]; exact List.getElem_mem c2, q⟩
          have e : shE nw g by' l = 10 := by unfold shE; rw [if_neg (fun q => q c1), if_pos q']
          exact ⟨e, by unfold rshL; rw [e]; rfl⟩
        have hnx : shBad nw g by' (eAt l k) = false → (l.take (k + 1)).any (shBad nw g by') = false := by
          intro q; rw [hst, List.any_append, hno, List.any_cons, q]; rfl
        by_cases c3 : (eAt l k).group = g
        · have d3 : decide ((eAt l k).group = g) = true := decide_eq_true c3
          have hf : shOne g by' (eAt l k) = { eAt l k with time := (eAt l k).time + by' } := by unfold shOne; rw [if_pos c3]
          rw [hf] at hfs
          cases hb : shBad nw g by' (eAt l k)
          · have hb' := hb
            simp only [shBad, d3, Bool.true_and, Bool.or_eq_false_iff] at hb'
            have g1 := of_decide_eq_false hb'.1
            have g2 := of_decide_eq_false hb'.2
            have d4 := hb'.1
            have d5 := hb'.2
            have hw3 : IntKind.i64.wrap ((eAt l k).time + by') = (eAt l k).time + by' := wrap_i64 _ (by omega) (by omega)
            (have zx1 := @d2; have zx2 := @hw; have zx3 := @hw1; have zx4 := @hw2; have zx5 := @hw3; have zx6 := @d3; have zx7 := @d4; have zx8 := @d5; all_goals (try ((first | (with_reducible refine wp_id ?_) | (with_reducible refine does_id ?_) | (with_reducible refine ops_id ?_)); refine walk ?_; (repeat' (first | exact trivial | with_reducible refine And.intro ?_ ?_)); all_goals (repeat (first | (with_reducible refine ImpB.mk fun hb => ?_) | (with_reducible refine ImpK.mk fun hK => ?_) | (with_reducible refine ImpF.mk fun hF => ?_) | (with_reducible refine ImpQ.mk fun hp => ?_) | (with_reducible refine AllE.mk fun p => ?_) | (with_reducible refine AllR.mk fun rest => ?_) | (with_reducible refine AllK.mk fun K => ?_))))); repeat' (with_reducible refine And.intro ?_ ?_))
            any_goals first | omega | exact Int.natCast_nonneg _
            refine ⟨(k + 1, insB acc { eAt l k with time := (eAt l k).time + by' }), ⟨⟨hfs.symm, c2, hnx hb⟩, by dsimp only; omega⟩, ?_⟩
            (focus (refine ⟨_, _, Gh.refl, [0], rfl, ?_⟩; (refine ⟨?_, ?_, ?_⟩ <;> simp only [go_sem, List.range, List.range.loop, List.nodup_cons, List.nodup_nil, List.mem_cons, List.not_mem_nil, or_false, or_self, decide_true, decide_false, Int.reduceToNat, Nat.min_eq_left, Nat.min_eq_right, Int.reducePow, Nat.reducePow, Int.reduceLE, Int.reduceLT, Int.reduceMul, Int.reduceAdd, Int.reduceSub, Int.reduceNeg, Bool.not_true, Bool.not_false, Bool.not_not, ↓reduceIte, Nat.reduceAdd, Nat.reduceSub, Nat.reduceMul, Nat.reduceEqDiff, reduceCtorEq, Nat.reduceLT, Nat.reduceLeDiff, Nat.reduceGT]); (try any_goals (refine ⟨?_, ?_⟩)); (try any_goals (with_reducible rfl))))
          · have hq := hE hb
            rw [hq.1, hq.2] at hR
            by_cases g1 : 1099511627776 - (eAt l k).time < by'
            · have d4 : decide (1099511627776 - (eAt l k).time < by') = true := decide_eq_true g1
              (have zx1 := @d2; have zx2 := @hw; have zx3 := @hw1; have zx4 := @hw2; have zx5 := @d3; have zx6 := @d4; all_goals (try ((first | (with_reducible refine wp_id ?_) | (with_reducible refine does_id ?_) | (with_reducible refine ops_id ?_)); refine walk ?_; (repeat' (first | exact trivial | with_reducible refine And.intro ?_ ?_)); all_goals (repeat (first | (with_reducible refine ImpB.mk fun hb => ?_) | (with_reducible refine ImpK.mk fun hK => ?_) | (with_reducible refine ImpF.mk fun hF => ?_) | (with_reducible refine ImpQ.mk fun hp => ?_) | (with_reducible refine AllE.mk fun p => ?_) | (with_reducible refine AllR.mk fun rest => ?_) | (with_reducible refine AllK.mk fun K => ?_))))); repeat' (with_reducible refine And.intro ?_ ?_))
              any_goals first | omega | exact Int.natCast_nonneg _
              (focus (refine ⟨_, _, Gh.refl, [0], rfl, ?_⟩; (refine ⟨?_, ?_, ?_⟩ <;> simp only [go_sem, List.range, List.range.loop, List.nodup_cons, List.nodup_nil, List.mem_cons, List.not_mem_nil, or_false, or_self, decide_true, decide_false, Int.reduceToNat, Nat.min_eq_left, Nat.min_eq_right, Int.reducePow, Nat.reducePow, Int.reduceLE, Int.reduceLT, Int.reduceMul, Int.reduceAdd, Int.reduceSub, Int.reduceNeg, Bool.not_true, Bool.not_false, Bool.not_not, ↓reduceIte, Nat.reduceAdd, Nat.reduceSub, Nat.reduceMul, Nat.reduceEqDiff, reduceCtorEq, Nat.reduceLT, Nat.reduceLeDiff, Nat.reduceGT]); (try any_goals (refine ⟨?_, ?_⟩)); (try any_goals (with_reducible rfl))))
            · have d4 : decide (1099511627776 - (eAt l k).time < by') = false := decide_eq_false g1
              have d5 : decide (by' ≤ nw - (eAt l k).time) = true := by
                simp only [shBad, d3, d4, Bool.true_and, Bool.false_or] at hb; exact hb
              (have zx1 := @d2; have zx2 := @hw; have zx3 := @hw1; have zx4 := @hw2; have zx5 := @d3; have zx6 := @d4; have zx7 := @d5; all_goals (try ((first | (with_reducible refine wp_id ?_) | (with_reducible refine does_id ?_) | (with_reducible refine ops_id ?_)); refine walk ?_; (repeat' (first | exact trivial | with_reducible refine And.intro ?_ ?_)); all_goals (repeat (first | (with_reducible refine ImpB.mk fun hb => ?_) | (with_reducible refine ImpK.mk fun hK => ?_) | (with_reducible refine ImpF.mk fun hF => ?_) | (with_reducible refine ImpQ.mk fun hp => ?_) | (with_reducible refine AllE.mk fun p => ?_) | (with_reducible refine AllR.mk fun rest => ?_) | (with_reducible refine AllK.mk fun K => ?_))))); repeat' (with_reducible refine And.intro ?_ ?_))
              any_goals first | omega | exact Int.natCast_nonneg _
              (focus (refine ⟨_, _, Gh.refl, [0], rfl, ?_⟩; (refine ⟨?_, ?_, ?_⟩ <;> simp only [go_sem, List.range, List.range.loop, List.nodup_cons, List.nodup_nil, List.mem_cons, List.not_mem_nil, or_false, or_self, decide_true, decide_false, Int.reduceToNat, Nat.min_eq_left, Nat.min_eq_right, Int.reducePow, Nat.reducePow, Int.reduceLE, Int.reduceLT, Int.reduceMul, Int.reduceAdd, Int.reduceSub, Int.reduceNeg, Bool.not_true, Bool.not_false, Bool.not_not, ↓reduceIte, Nat.reduceAdd, Nat.reduceSub, Nat.reduceMul, Nat.reduceEqDiff, reduceCtorEq, Nat.reduceLT, Nat.reduceLeDiff, Nat.reduceGT]); (try any_goals (refine ⟨?_, ?_⟩)); (try any_goals (with_reducible rfl))))
        · have d3 : decide ((eAt l k).group = g) = false := decide_eq_false c3
          have hf : shOne g by' (eAt l k) = eAt l k := by unfold shOne; rw [if_neg c3]
          rw [hf] at hfs
          have hb : shBad nw g by' (eAt l k) = false := by simp only [shBad, d3, Bool.false_and]
          (have zx1 := @d2; have zx2 := @hw; have zx3 := @hw1; have zx4 := @hw2; have zx5 := @d3; all_goals (try ((first | (with_reducible refine wp_id ?_) | (with_reducible refine does_id ?_) | (with_reducible refine ops_id ?_)); refine walk ?_; (repeat' (first | exact trivial | with_reducible refine And.intro ?_ ?_)); all_goals (repeat (first | (with_reducible refine ImpB.mk fun hb => ?_) | (with_reducible refine ImpK.mk fun hK => ?_) | (with_reducible refine ImpF.mk fun hF => ?_) | (with_reducible refine ImpQ.mk fun hp => ?_) | (with_reducible refine AllE.mk fun p => ?_) | (with_reducible refine AllR.mk fun rest => ?_) | (with_reducible refine AllK.mk fun K => ?_))))); repeat' (with_reducible refine And.intro ?_ ?_))
          any_goals first | omega | exact Int.natCast_nonneg _
          refine ⟨(k + 1, insB acc (eAt l k)), ⟨⟨hfs.symm, c2, hnx hb⟩, by dsimp only; omega⟩, ?_⟩
          (focus (refine ⟨_, _, Gh.refl, [0], rfl, ?_⟩; (refine ⟨?_, ?_, ?_⟩ <;> simp only [go_sem, List.range, List.range.loop, List.nodup_cons, List.nodup_nil, List.mem_cons, List.not_mem_nil, or_false, or_self, decide_true, decide_false, Int.reduceToNat, Nat.min_eq_left, Nat.min_eq_right, Int.reducePow, Nat.reducePow, Int.reduceLE, Int.reduceLT, Int.reduceMul, Int.reduceAdd, Int.reduceSub, Int.reduceNeg, Bool.not_true, Bool.not_false, Bool.not_not, ↓reduceIte, Nat.reduceAdd, Nat.reduceSub, Nat.reduceMul, Nat.reduceEqDiff, reduceCtorEq, Nat.reduceLT, Nat.reduceLeDiff, Nat.reduceGT]); (try any_goals (refine ⟨?_, ?_⟩)); (try any_goals (with_reducible rfl))))
      · have d2 : decide ((k : Int) < (l.length : Int)) = false := decide_eq_false (by omega)
        rw [List.take_of_length_le (by omega)] at ha hno
        have e1 : shE nw g by' l = 0 := by unfold shE; rw [if_neg (fun q => q c1), hno]; rfl
        have e2 : rshL nw g by' l = acc := by unfold rshL; rw [e1, ha]; rfl
        (have zx1 := @d2; all_goals (try ((first | (with_reducible refine wp_id ?_) | (with_reducible refine does_id ?_) | (with_reducible refine ops_id ?_)); refine walk ?_; (repeat' (first | exact trivial | with_reducible refine And.intro ?_ ?_)); all_goals (repeat (first | (with_reducible refine ImpB.mk fun hb => ?_) | (with_reducible refine ImpK.mk fun hK => ?_) | (with_reducible refine ImpF.mk fun hF => ?_) | (with_reducible refine ImpQ.mk fun hp => ?_) | (with_reducible refine AllE.mk fun p => ?_) | (with_reducible refine AllR.mk fun rest => ?_) | (with_reducible refine AllK.mk fun K => ?_))))); repeat' (with_reducible refine And.intro ?_ ?_))
        rw [e1, e2]
        (focus (refine ⟨_, _, Gh.refl, [0], rfl, ?_⟩; (refine ⟨?_, ?_, ?_⟩ <;> simp only [go_sem, List.range, List.range.loop, List.nodup_cons, List.nodup_nil, List.mem_cons, List.not_mem_nil, or_false, or_self, decide_true, decide_false, Int.reduceToNat, Nat.min_eq_left, Nat.min_eq_right, Int.reducePow, Nat.reducePow, Int.reduceLE, Int.reduceLT, Int.reduceMul, Int.reduceAdd, Int.reduceSub, Int.reduceNeg, Bool.not_true, Bool.not_false, Bool.not_not, ↓reduceIte, Nat.reduceAdd, Nat.reduceSub, Nat.reduceMul, Nat.reduceEqDiff, reduceCtorEq, Nat.reduceLT, Nat.reduceLeDiff, Nat.reduceGT]); (try any_goals (refine ⟨?_, ?_⟩)); (try any_goals (with_reducible rfl))))
    · exact ⟨rfl, Nat.zero_le _, rfl⟩
    · (focus (refine ⟨_, _, Gh.refl, [0], rfl, ?_⟩; (refine ⟨?_, ?_, ?_⟩ <;> simp only [go_sem, List.range, List.range.loop, List.nodup_cons, List.nodup_nil, List.mem_cons, List.not_mem_nil, or_false, or_self, decide_true, decide_false, Int.reduceToNat, Nat.min_eq_left, Nat.min_eq_right, Int.reducePow, Nat.reducePow, Int.reduceLE, Int.reduceLT, Int.reduceMul, Int.reduceAdd, Int.reduceSub, Int.reduceNeg, Bool.not_true, Bool.not_false, Bool.not_not, ↓reduceIte, Nat.reduceAdd, Nat.reduceSub, Nat.reduceMul, Nat.reduceEqDiff, reduceCtorEq, Nat.reduceLT, Nat.reduceLeDiff, Nat.reduceGT]); (try any_goals (refine ⟨?_, ?_⟩)); (try any_goals (with_reducible rfl))))
  · have e1 : shE nw g by' l = 1 := if_pos c1
    have e2 : rshL nw g by' l = l := by unfold rshL; rw [e1]; rfl
    rw [e1, e2]
    by_cases c2 : g < 0
    · have d1 : decide (g < 0) = true := decide_eq_true c2
      refine w_body (rs := [.tmp 8]) (tm := [.ptr 0 0, .int .i64 n, .int .i64 g, .int .i64 by', .any, .any, .any, .any, .any, .any, .any, .any, .any, .any, .any, .any, .any, .any, .any, .any, .any, .any, .any, .any, .any, .any, .any, .any, .any, .any, .any, .any, .any, .any, .any, .any, .any, .any, .any, .any, .any, .any, .any, .any, .any, .any, .any, .any, .any, .any, .any, .any, .any, .any, .any, .any, .any, .any, .any, .any, .any, .any, .any, .any, .any, .any, .any, .any, .any]) fn_31 rfl rfl rfl rfl fun R hR => ?_
      (have zx1 := @hnw; have zx2 := @d1; all_goals (try ((first | (with_reducible refine wp_id ?_) | (with_reducible refine does_id ?_) | (with_reducible refine ops_id ?_)); refine walk ?_; (repeat' (first | exact trivial | with_reducible refine And.intro ?_ ?_)); all_goals (repeat (first | (with_reducible refine ImpB.mk fun hb => ?_) | (with_reducible refine ImpK.mk fun hK => ?_) | (with_reducible refine ImpF.mk fun hF => ?_) | (with_reducible refine ImpQ.mk fun hp => ?_) | (with_reducible refine AllE.mk fun p => ?_) | (with_reducible refine AllR.mk fun rest => ?_) | (with_reducible refine AllK.mk fun K => ?_))))); repeat' (with_reducible refine And.intro ?_ ?_))
      (focus (refine ⟨_, _, Gh.refl, [0], rfl, ?_⟩; (refine ⟨?_, ?_, ?_⟩ <;> simp only [go_sem, List.range, List.range.loop, List.nodup_cons, List.nodup_nil, List.mem_cons, List.not_mem_nil, or_false, or_self, decide_true, decide_false, Int.reduceToNat, Nat.min_eq_left, Nat.min_eq_right, Int.reducePow, Nat.reducePow, Int.reduceLE, Int.reduceLT, Int.reduceMul, Int.reduceAdd, Int.reduceSub, Int.reduceNeg, Bool.not_true, Bool.not_false, Bool.not_not, ↓reduceIte, Nat.reduceAdd, Nat.reduceSub, Nat.reduceMul, Nat.reduceEqDiff, reduceCtorEq, Nat.reduceLT, Nat.reduceLeDiff, Nat.reduceGT]); (try any_goals (refine ⟨?_, ?_⟩)); (try any_goals (with_reducible rfl))))
    · have d1 : decide (g < 0) = false := decide_eq_false c2
      have d2 : decide (15 < g) = true := decide_eq_true (by omega)
      refine w_body (rs := [.tmp 8]) (tm := [.ptr 0 0, .int .i64 n, .int .i64 g, .int .i64 by', .any, .any, .any, .any, .any, .any, .any, .any, .any, .any, .any, .any, .any, .any, .any, .any, .any, .any, .any, .any, .any, .any, .any, .any, .any, .any, .any, .any, .any, .any, .any, .any, .any, .any, .any, .any, .any, .any, .any, .any, .any, .any, .any, .any, .any, .any, .any, .any, .any, .any, .any, .any, .any, .any, .any, .any, .any, .any, .any, .any, .any, .any, .any, .any, .any]) fn_31 rfl rfl rfl rfl fun R hR => ?_
      (have zx1 := @hnw; have zx2 := @d1; have zx3 := @d2; all_goals (try ((first | (with_reducible refine wp_id ?_) | (with_reducible refine does_id ?_) | (with_reducible refine ops_id ?_)); refine walk ?_; (repeat' (first | exact trivial | with_reducible refine And.intro ?_ ?_)); all_goals (repeat (first | (with_reducible refine ImpB.mk fun hb => ?_) | (with_reducible refine ImpK.mk fun hK => ?_) | (with_reducible refine ImpF.mk fun hF => ?_) | (with_reducible refine ImpQ.mk fun hp => ?_) | (with_reducible refine AllE.mk fun p => ?_) | (with_reducible refine AllR.mk fun rest => ?_) | (with_reducible refine AllK.mk fun K => ?_))))); repeat' (with_reducible refine And.intro ?_ ?_))
      (focus (refine ⟨_, _, Gh.refl, [0], rfl, ?_⟩; (refine ⟨?_, ?_, ?_⟩ <;> simp only [go_sem, List.range, List.range.loop, List.nodup_cons, List.nodup_nil, List.mem_cons, List.not_mem_nil, or_false, or_self, decide_true, decide_false, Int.reduceToNat, Nat.min_eq_left, Nat.min_eq_right, Int.reducePow, Nat.reducePow, Int.reduceLE, Int.reduceLT, Int.reduceMul, Int.reduceAdd, Int.reduceSub, Int.reduceNeg, Bool.not_true, Bool.not_false, Bool.not_not, ↓reduceIte, Nat.reduceAdd, Nat.reduceSub, Nat.reduceMul, Nat.reduceEqDiff, reduceCtorEq, Nat.reduceLT, Nat.reduceLeDiff, Nat.reduceGT]); (try any_goals (refine ⟨?_, ?_⟩)); (try any_goals (with_reducible rfl))))
theorem c_rshift {h : List Ch} {K : KT} {u : Nat} {most now next n g by' : Int} {off : List Int} {l : List Ent} (H : K (.int .i64 (shE (passT now n) g by' l)) (h.set u (RS most next (passT now n) (rshL (passT now n) g by' l) off))) (o : hth h u = RS most next now l off) (s1 : l.length ≤ 1000000) (s2 : timeE l) (s3 : 0 ≤ now ∧ now ≤ 1099511627776) : Does Try.prog 31 [.ptr u 0, .int .i64 n, .int .i64 g, .int .i64 by'] h K :=
  frame_obj0 (b_rshift most now next n g by' off l s1 s2 s3) o (by simp [RS]) (fun σ => fit_rs σ) (br_cons (br_ptr rfl) (br_cons br_int (br_cons br_int (br_cons br_int br_nil)))) (.inl rfl) (fun _ => rfl) rfl H
abbrev i_rshift := Ctr.mk (i := 0) (g := 31) @c_rshift
attribute [instance] i_rshift
end Go.V

set_option maxRecDepth 100000
set_option maxHeartbeats 8000000
namespace Go.V
open Go.Proofs
def insF (l : List Ent) : List Ent := l.foldl insB []
theorem insF_succ {l : List Ent} {k : Nat} (hk : k < l.length) : insF (l.take (k + 1)) = insB (insF (l.take k)) (eAt l k) := by
  rw [take_ent hk]; unfold insF; rw [List.foldl_append]; rfl
theorem insF_len : ∀ {l : List Ent} {a : List Ent}, (l.foldl insB a).length = a.length + l.length
  | [], a => rfl
  | x :: l, a => by rw [List.foldl_cons, insF_len, insB_len, List.length_cons]; omega
theorem nxtE_succ {l : List Ent} {k : Nat} (hk : k < l.length) : nxtE (l.take (k + 1)) = max (nxtE (l.take k)) ((eAt l k).id + 1) := by
  rw [take_ent hk]; unfold nxtE; rw [List.foldl_append]; rfl
theorem chk_rel (l : List Ent) (m : Int) : chkE l m = if chkE l l.length = 0 then (if m < l.length then 7 else 0) else chkE l l.length := by
  unfold chkE
  by_cases h1 : l.all entV = true
  · rw [if_pos h1, if_pos h1]
    by_cases h2 : dupE l = true
    · rw [if_pos h2, if_pos h2]; rfl
    · rw [if_neg h2, if_neg h2, if_neg (Int.lt_irrefl _), if_pos rfl]
  · rw [if_neg h1, if_neg h1]; rfl
theorem b_rrst (most : Int) (l : List Ent) (hl : l.length ≤ 1000000) (ha : litE l) (hc : chkE l (capS most) = 0) (hid : ∀ x ∈ l, 1 ≤ x.id ∧ x.id ≤ 2147483648) : DoesK Try.prog 0 25 [.int .i64 most, .ro .ent l] []
    (EndF 0 (.tup [.agg [.int .i64 (capS most), .int .i64 (nxtE l), .int .i64 0, .ro .ent (insF l), .ro .int []], .int .i64 0]) []) := by
  refine DoesK.close ?_
  have hr := chk_rel l (capS most)
  have hc0 : chkE l l.length = 0 := by
    by_cases q : chkE l l.length = 0
    · exact q
    · rw [if_neg q] at hr; exact absurd (hr ▸ hc) q
  have hm : ¬ (capS most < (l.length : Int)) := by
    rw [if_pos hc0, hc] at hr
    intro q; rw [if_pos q] at hr; cases hr
  have hmd : decide (capS most < (l.length : Int)) = false := decide_eq_false hm
  refine w_body (rs := [.cell 4 30, .tmp 5]) (tm := [.int .i64 most, .ro .ent l, .any, .any, .any, .any, .any, .any, .any, .any, .any, .any, .any, .any, .any, .any, .any, .any, .any, .any, .any, .any, .any, .any, .any, .any, .any, .any, .any, .any, .any, .any, .any, .any, .any, .any, .any, .any, .any, .any, .any, .any, .any, .any, .any, .any, .any, .any]) fn_25 rfl rfl rfl rfl fun R hR => ?_
  (have zx1 := @hc0; have zx2 := @hmd; all_goals (try ((first | (with_reducible refine wp_id ?_) | (with_reducible refine does_id ?_) | (with_reducible refine ops_id ?_)); refine walk ?_; (repeat' (first | exact trivial | with_reducible refine And.intro ?_ ?_)); all_goals (repeat (first | (with_reducible refine ImpB.mk fun hb => ?_) | (with_reducible refine ImpK.mk fun hK => ?_) | (with_reducible refine ImpF.mk fun hF => ?_) | (with_reducible refine ImpQ.mk fun hp => ?_) | (with_reducible refine AllE.mk fun p => ?_) | (with_reducible refine AllR.mk fun rest => ?_) | (with_reducible refine AllK.mk fun K => ?_))))); repeat' (with_reducible refine And.intro ?_ ?_))
  try any_goals exact ha
  any_goals ((try (refine w_seq fun K hK => ?_)); (try (refine w_block ?_)); refine w_loop (A := Nat × List Ent × Int) (fun p => p.2.1 = insF (l.take p.1) ∧ p.1 ≤ l.length ∧ p.2.2 = nxtE (l.take p.1)) (fun p => l.length - p.1) (fun p => [(8, .int .i64 p.1)]) (fun p => [(1, RS (capS most) p.2.2 0 p.2.1 [])]) ((0, [], 1)) (ws := ?ws1) (tk := ?tk1) ?hw1 ?ht1 ?hi ?h0 ?LH1; (case hw1 => simp only [go_sem, decide_true, decide_false, Int.reduceToNat, Nat.min_eq_left, Nat.min_eq_right, Int.reducePow, Nat.reducePow, Int.reduceLE, Int.reduceLT, Int.reduceMul, Int.reduceAdd, Int.reduceSub, Int.reduceNeg, Bool.not_true, Bool.not_false, Bool.not_not, ↓reduceIte, Nat.reduceAdd, Nat.reduceSub, Nat.reduceMul, Nat.reduceEqDiff, reduceCtorEq, Nat.reduceLT, Nat.reduceLeDiff, Nat.reduceGT]; exact rfl); (case ht1 => simp only [go_sem, decide_true, decide_false, Int.reduceToNat, Nat.min_eq_left, Nat.min_eq_right, Int.reducePow, Nat.reducePow, Int.reduceLE, Int.reduceLT, Int.reduceMul, Int.reduceAdd, Int.reduceSub, Int.reduceNeg, Bool.not_true, Bool.not_false, Bool.not_not, ↓reduceIte, Nat.reduceAdd, Nat.reduceSub, Nat.reduceMul, Nat.reduceEqDiff, reduceCtorEq, Nat.reduceLT, Nat.reduceLeDiff, Nat.reduceGT]; exact rfl); (case' LH1 => rintro ⟨k, acc, nx⟩ E t hx hE ht; simp only [go_sem] at ht; subst ht; simp only [go_sem]; try dsimp only at hx))
  case LH1 =>
    obtain ⟨hacc, hk, hnx⟩ := hx
    have hal : acc.length = k := by rw [hacc]; unfold insF; rw [insF_len, List.length_take]; simp; omega
    by_cases c2 : k < l.length
    · have d2 : decide ((k : Int) < (l.length : Int)) = true := decide_eq_true (by omega)
      have hfs := insF_succ c2
      have hns := nxtE_succ c2
      rw [← hacc] at hfs
      rw [← hnx] at hns
      have hi := hid (eAt l k) (by rw [eAt_eq c2]; exact List.getElem_mem c2)
      have hw : IntKind.i64.wrap ((k : Int) + 1) = ((k + 1 : Nat) : Int) := wrap_i64 _ (by omega) (by omega)
      have hw1 : IntKind.i64.wrap ((eAt l k).id + 1) = (eAt l k).id + 1 := wrap_i64 _ (by omega) (by omega)
      (have zx1 := @d2; have zx2 := @hw; have zx3 := @hw1; all_goals (try ((first | (with_reducible refine wp_id ?_) | (with_reducible refine does_id ?_) | (with_reducible refine ops_id ?_)); refine walk ?_; (repeat' (first | exact trivial | with_reducible refine And.intro ?_ ?_)); all_goals (repeat (first | (with_reducible refine ImpB.mk fun hb => ?_) | (with_reducible refine ImpK.mk fun hK => ?_) | (with_reducible refine ImpF.mk fun hF => ?_) | (with_reducible refine ImpQ.mk fun hp => ?_) | (with_reducible refine AllE.mk fun p => ?_) | (with_reducible refine AllR.mk fun rest => ?_) | (with_reducible refine AllK.mk fun K => ?_))))); repeat' (with_reducible refine And.intro ?_ ?_))
      any_goals first | omega | exact Int.natCast_nonneg _
      refine ⟨(k + 1, insB acc (eAt l k), max nx ((eAt l k).id + 1)), ⟨⟨hfs.symm, c2, hns.symm⟩, by dsimp only; omega⟩, ?_⟩
      (focus (refine ⟨_, _, Gh.refl, [0, 1], rfl, ?_⟩; (refine ⟨?_, ?_, ?_⟩ <;> simp only [go_sem, List.range, List.range.loop, List.nodup_cons, List.nodup_nil, List.mem_cons, List.not_mem_nil, or_false, or_self, decide_true, decide_false, Int.reduceToNat, Nat.min_eq_left, Nat.min_eq_right, Int.reducePow, Nat.reducePow, Int.reduceLE, Int.reduceLT, Int.reduceMul, Int.reduceAdd, Int.reduceSub, Int.reduceNeg, Bool.not_true, Bool.not_false, Bool.not_not, ↓reduceIte, Nat.reduceAdd, Nat.reduceSub, Nat.reduceMul, Nat.reduceEqDiff, reduceCtorEq, Nat.reduceLT, Nat.reduceLeDiff, Nat.reduceGT]); (try any_goals (refine ⟨?_, ?_⟩)); (try any_goals (with_reducible rfl))))
    · have d2 : decide ((k : Int) < (l.length : Int)) = false := decide_eq_false (by omega)
      rw [List.take_of_length_le (by omega)] at hacc hnx
      (have zx1 := @d2; all_goals (try ((first | (with_reducible refine wp_id ?_) | (with_reducible refine does_id ?_) | (with_reducible refine ops_id ?_)); refine walk ?_; (repeat' (first | exact trivial | with_reducible refine And.intro ?_ ?_)); all_goals (repeat (first | (with_reducible refine ImpB.mk fun hb => ?_) | (with_reducible refine ImpK.mk fun hK => ?_) | (with_reducible refine ImpF.mk fun hF => ?_) | (with_reducible refine ImpQ.mk fun hp => ?_) | (with_reducible refine AllE.mk fun p => ?_) | (with_reducible refine AllR.mk fun rest => ?_) | (with_reducible refine AllK.mk fun K => ?_))))); repeat' (with_reducible refine And.intro ?_ ?_))
      rw [← hacc, ← hnx]
      (focus (refine ⟨_, _, Gh.refl, [], rfl, ?_⟩; (refine ⟨?_, ?_, ?_⟩ <;> simp only [go_sem, List.range, List.range.loop, List.nodup_cons, List.nodup_nil, List.mem_cons, List.not_mem_nil, or_false, or_self, decide_true, decide_false, Int.reduceToNat, Nat.min_eq_left, Nat.min_eq_right, Int.reducePow, Nat.reducePow, Int.reduceLE, Int.reduceLT, Int.reduceMul, Int.reduceAdd, Int.reduceSub, Int.reduceNeg, Bool.not_true, Bool.not_false, Bool.not_not, ↓reduceIte, Nat.reduceAdd, Nat.reduceSub, Nat.reduceMul, Nat.reduceEqDiff, reduceCtorEq, Nat.reduceLT, Nat.reduceLeDiff, Nat.reduceGT]); (try any_goals (refine ⟨?_, ?_⟩)); (try any_goals (with_reducible rfl))))
  · exact ⟨rfl, Nat.zero_le _, rfl⟩
  · (focus (refine ⟨_, _, Gh.refl, [0, 1], rfl, ?_⟩; (refine ⟨?_, ?_, ?_⟩ <;> simp only [go_sem, List.range, List.range.loop, List.nodup_cons, List.nodup_nil, List.mem_cons, List.not_mem_nil, or_false, or_self, decide_true, decide_false, Int.reduceToNat, Nat.min_eq_left, Nat.min_eq_right, Int.reducePow, Nat.reducePow, Int.reduceLE, Int.reduceLT, Int.reduceMul, Int.reduceAdd, Int.reduceSub, Int.reduceNeg, Bool.not_true, Bool.not_false, Bool.not_not, ↓reduceIte, Nat.reduceAdd, Nat.reduceSub, Nat.reduceMul, Nat.reduceEqDiff, reduceCtorEq, Nat.reduceLT, Nat.reduceLeDiff, Nat.reduceGT]); (try any_goals (refine ⟨?_, ?_⟩)); (try any_goals (with_reducible rfl))))
theorem b_rrstF (most : Int) (l : List Ent) (hl : l.length ≤ 1000000) (ha : litE l) (hc : ¬ chkE l (capS most) = 0) : DoesK Try.prog 0 25 [.int .i64 most, .ro .ent l] []
    (EndF 0 (.tup [.agg [.int .i64 0, .int .i64 0, .int .i64 0, .ro .ent [], .ro .int []], .int .i64 (chkE l (capS most))]) []) := by
  refine DoesK.close ?_
  have hr := chk_rel l (capS most)
  by_cases hc0 : chkE l l.length = 0
  · have hm : capS most < (l.length : Int) := by
      rw [if_pos hc0] at hr
      by_cases q : capS most < (l.length : Int)
      · exact q
      · rw [if_neg q] at hr; exact absurd hr hc
    have h7 : chkE l (capS most) = 7 := by rw [hr, if_pos hc0, if_pos hm]
    have hmd : decide (min (max most 0) 256 < (l.length : Int)) = true := decide_eq_true hm
    rw [h7]
    refine w_body (rs := [.cell 4 30, .tmp 5]) (tm := [.int .i64 most, .ro .ent l, .any, .any, .any, .any, .any, .any, .any, .any, .any, .any, .any, .any, .any, .any, .any, .any, .any, .any, .any, .any, .any, .any, .any, .any, .any, .any, .any, .any, .any, .any, .any, .any, .any, .any, .any, .any, .any, .any, .any, .any, .any, .any, .any, .any, .any, .any]) fn_25 rfl rfl rfl rfl fun R hR => ?_
    (have zx1 := @hc0; have zx2 := @hmd; all_goals (try ((first | (with_reducible refine wp_id ?_) | (with_reducible refine does_id ?_) | (with_reducible refine ops_id ?_)); refine walk ?_; (repeat' (first | exact trivial | with_reducible refine And.intro ?_ ?_)); all_goals (repeat (first | (with_reducible refine ImpB.mk fun hb => ?_) | (with_reducible refine ImpK.mk fun hK => ?_) | (with_reducible refine ImpF.mk fun hF => ?_) | (with_reducible refine ImpQ.mk fun hp => ?_) | (with_reducible refine AllE.mk fun p => ?_) | (with_reducible refine AllR.mk fun rest => ?_) | (with_reducible refine AllK.mk fun K => ?_))))); repeat' (with_reducible refine And.intro ?_ ?_))
    try any_goals exact ha
    (focus (refine ⟨_, _, Gh.refl, [], rfl, ?_⟩; (refine ⟨?_, ?_, ?_⟩ <;> simp only [go_sem, List.range, List.range.loop, List.nodup_cons, List.nodup_nil, List.mem_cons, List.not_mem_nil, or_false, or_self, decide_true, decide_false, Int.reduceToNat, Nat.min_eq_left, Nat.min_eq_right, Int.reducePow, Nat.reducePow, Int.reduceLE, Int.reduceLT, Int.reduceMul, Int.reduceAdd, Int.reduceSub, Int.reduceNeg, Bool.not_true, Bool.not_false, Bool.not_not, ↓reduceIte, Nat.reduceAdd, Nat.reduceSub, Nat.reduceMul, Nat.reduceEqDiff, reduceCtorEq, Nat.reduceLT, Nat.reduceLeDiff, Nat.reduceGT]); (try any_goals (refine ⟨?_, ?_⟩)); (try any_goals (with_reducible rfl))))
  · have h7 : chkE l (capS most) = chkE l l.length := by rw [hr, if_neg hc0]
    rw [h7]
    have hd : decide (chkE l l.length = 0) = false := decide_eq_false hc0
    refine w_body (rs := [.cell 4 30, .tmp 5]) (tm := [.int .i64 most, .ro .ent l, .any, .any, .any, .any, .any, .any, .any, .any, .any, .any, .any, .any, .any, .any, .any, .any, .any, .any, .any, .any, .any, .any, .any, .any, .any, .any, .any, .any, .any, .any, .any, .any, .any, .any, .any, .any, .any, .any, .any, .any, .any, .any, .any, .any, .any, .any]) fn_25 rfl rfl rfl rfl fun R hR => ?_
    (have zx1 := @hd; all_goals (try ((first | (with_reducible refine wp_id ?_) | (with_reducible refine does_id ?_) | (with_reducible refine ops_id ?_)); refine walk ?_; (repeat' (first | exact trivial | with_reducible refine And.intro ?_ ?_)); all_goals (repeat (first | (with_reducible refine ImpB.mk fun hb => ?_) | (with_reducible refine ImpK.mk fun hK => ?_) | (with_reducible refine ImpF.mk fun hF => ?_) | (with_reducible refine ImpQ.mk fun hp => ?_) | (with_reducible refine AllE.mk fun p => ?_) | (with_reducible refine AllR.mk fun rest => ?_) | (with_reducible refine AllK.mk fun K => ?_))))); repeat' (with_reducible refine And.intro ?_ ?_))
    try any_goals exact ha
    · (focus (refine ⟨_, _, Gh.refl, [], rfl, ?_⟩; (refine ⟨?_, ?_, ?_⟩ <;> simp only [go_sem, List.range, List.range.loop, List.nodup_cons, List.nodup_nil, List.mem_cons, List.not_mem_nil, or_false, or_self, decide_true, decide_false, Int.reduceToNat, Nat.min_eq_left, Nat.min_eq_right, Int.reducePow, Nat.reducePow, Int.reduceLE, Int.reduceLT, Int.reduceMul, Int.reduceAdd, Int.reduceSub, Int.reduceNeg, Bool.not_true, Bool.not_false, Bool.not_not, ↓reduceIte, Nat.reduceAdd, Nat.reduceSub, Nat.reduceMul, Nat.reduceEqDiff, reduceCtorEq, Nat.reduceLT, Nat.reduceLeDiff, Nat.reduceGT]); (try any_goals (refine ⟨?_, ?_⟩)); (try any_goals (with_reducible rfl))))
    · rename_i q1
      exact absurd (Decidable.not_not.1 (of_decide_eq_false q1)) hc0
    · rename_i q1
      exact absurd (Decidable.not_not.1 (of_decide_eq_false q1)) hc0
theorem c_rrst {h : List Ch} {K : KT} {most : Int} {l : List Ent} (H : K (.tup [.agg [.int .i64 (capS most), .int .i64 (nxtE l), .int .i64 0, .ro .ent (insF l), .ro .int []], .int .i64 0]) h) (e1 : chkE l (capS most) = 0) (s1 : l.length ≤ 1000000) (s2 : litE l) (s4 : ∀ x ∈ l, 1 ≤ x.id ∧ x.id ≤ 2147483648) : Does Try.prog 25 [.int .i64 most, .ro .ent l] h K :=
  frame_pure (b_rrst most l s1 s2 e1 s4) (br_cons br_int (br_cons br_ro br_nil)) (.inl rfl) (fun _ => rfl) H
abbrev i_rrst := Ctr.mk (i := 0) (g := 25) @c_rrst
attribute [instance] i_rrst
theorem c_rrstF {h : List Ch} {K : KT} {most : Int} {l : List Ent} (H : K (.tup [.agg [.int .i64 0, .int .i64 0, .int .i64 0, .ro .ent [], .ro .int []], .int .i64 (chkE l (capS most))]) h) (e1 : ¬ chkE l (capS most) = 0) (s1 : l.length ≤ 1000000) (s2 : litE l) : Does Try.prog 25 [.int .i64 most, .ro .ent l] h K :=
  frame_pure (b_rrstF most l s1 s2 e1) (br_cons br_int (br_cons br_ro br_nil)) (.inl rfl) (fun _ => rfl) H
abbrev i_rrstF := Ctr.mk (i := 1) (g := 25) @c_rrstF
attribute [instance] i_rrstF
end Go.V

set_option maxRecDepth 100000
set_option maxHeartbeats 4000000
namespace Go.V
open Go.Proofs
abbrev sortE (l : List Ent) : Prop := l.Pairwise fun x y => befE y x = false
theorem bef_iff (x y : Ent) : befE x y = true ↔ (x.time < y.time ∨ (x.time = y.time ∧ x.id < y.id)) := by unfold befE; simp
theorem bef_not (x y : Ent) : befE x y = false ↔ ¬ (x.time < y.time ∨ (x.time = y.time ∧ x.id < y.id)) := by unfold befE; simp
theorem insB_perm (l : List Ent) (x : Ent) : (insB l x).Perm (l ++ [x]) := by
  unfold insB
  have h := List.takeWhile_append_dropWhile (p := fun y => befE y x) (l := l)
  refine List.perm_middle.trans ?_
  rw [h]
  exact (List.perm_append_comm (l₁ := [x]) (l₂ := l))
theorem drop_ge {l : List Ent} {x : Ent} (h : sortE l) : ∀ y ∈ l.dropWhile (fun y => befE y x), befE y x = false := by
  induction l with
  | nil => simp
  | cons a l ih =>
    rw [List.dropWhile_cons]
    have h' := List.pairwise_cons.1 h
    cases hb : befE a x
    · simp only [Bool.false_eq_true, if_false]
      intro y hy
      rcases List.mem_cons.1 hy with rfl | hy
      · exact hb
      · have h1 := h'.1 y hy
        rw [bef_not] at h1 hb ⊢
        omega
    · simp only [if_true]
      exact ih h'.2
theorem insB_sort {l : List Ent} {x : Ent} (h : sortE l) : sortE (insB l x) := by
  unfold insB
  have hsp : l.takeWhile (fun y => befE y x) ++ l.dropWhile (fun y => befE y x) = l := List.takeWhile_append_dropWhile
  have h2 := h
  rw [← hsp] at h2
  have h3 := List.pairwise_append.1 h2
  refine List.pairwise_append.2 ⟨h3.1, List.pairwise_cons.2 ⟨fun y hy => drop_ge h y hy, h3.2.1⟩, ?_⟩
  intro a ha b hb
  rcases List.mem_cons.1 hb with rfl | hb
  · have := List.all_takeWhile (p := fun y => befE y b) (l := l)
    have := List.all_eq_true.1 this a ha
    rw [bef_iff] at this
    rw [bef_not]
    omega
  · exact h3.2.2 a ha b hb
theorem insB_srt {l : List Ent} {x : Ent} (h : sortE l) (hn : ((l ++ [x]).map (·.id)).Nodup) : srtE (l ++ [x]) = insB l x :=
  (srt_eq (insB_perm l x) hn (insB_sort h)).symm
theorem insG_perm : ∀ (m : List Ent) (a : List Ent), (m.foldl insB a).Perm (a ++ m)
  | [], a => by simp
  | x :: m, a => by
    rw [List.foldl_cons]
    refine (insG_perm m (insB a x)).trans ?_
    refine ((insB_perm a x).append_right m).trans ?_
    rw [List.append_assoc]
    exact List.Perm.refl _
theorem insG_sort : ∀ (m : List Ent) (a : List Ent), sortE a → sortE (m.foldl insB a)
  | [], a, h => h
  | x :: m, a, h => insG_sort m _ (insB_sort h)
theorem insF_srt {l : List Ent} (hn : (l.map (·.id)).Nodup) : srtE l = insF l :=
  (srt_eq (by simpa using insG_perm l []) hn (insG_sort l [] List.Pairwise.nil)).symm
theorem shF_eq (g by' : Int) (l : List Ent) : shF g by' l = insF (l.map (shOne g by')) := by
  unfold shF insF
  rw [List.foldl_map]
theorem shL_eq {now g by' : Int} {l : List Ent} (hn : (l.map (·.id)).Nodup) : shL now g by' l = rshL now g by' l := by
  unfold shL rshL
  split
  · rw [shF_eq, insF_srt (by rw [sh_ids]; exact hn)]
  · rfl
theorem insLst_eq {e : Int} {l : List Ent} {x : Ent} (h : sortE l) (hn : ((l ++ [x]).map (·.id)).Nodup) : insLst e l x = rinsLst e l x := by
  unfold insLst rinsLst
  split
  · exact insB_srt h hn
  · rfl
/-! ### Due -/
theorem while_filter {p : Ent → Bool} : ∀ {l : List Ent}, l.Pairwise (fun x y => p x = false → p y = false) → l.takeWhile p = l.filter p ∧ l.dropWhile p = l.filter (fun x => !p x)
  | [], _ => ⟨rfl, rfl⟩
  | x :: l, h => by
    have h' := List.pairwise_cons.1 h
    cases hp : p x
    · have hall : ∀ y ∈ l, p y = false := fun y hy => h'.1 y hy hp
      have e1 : l.filter p = [] := List.filter_eq_nil_iff.2 fun y hy => by rw [hall y hy]; simp
      have e2 : l.filter (fun x => !p x) = l := List.filter_eq_self.2 fun y hy => by rw [hall y hy]; rfl
      simp [List.takeWhile_cons, List.dropWhile_cons, List.filter_cons, hp, e1, e2]
    · have := while_filter h'.2
      simp [List.takeWhile_cons, List.dropWhile_cons, List.filter_cons, hp, this.1, this.2]
theorem due_pw {now : Int} {l : List Ent} (h : sortE l) : l.Pairwise (fun x y => dueW now x = false → dueW now y = false) := by
  refine h.imp ?_
  intro x y hb
  rw [bef_not] at hb
  unfold dueW
  simp only [decide_eq_false_iff_not]
  omega
theorem dueR_eq {now : Int} {l : List Ent} (h : sortE l) : dueR now l = rdueR now l := by
  unfold dueR rdueR
  rw [(while_filter (due_pw (now := now) h)).2]
  refine List.filter_congr fun x _ => ?_
  unfold dueW
  rw [Bool.eq_iff_iff]; simp
theorem dueO_eq {now : Int} {l : List Ent} {o : List Bool} {off : List Int} (h : sortE l) (ho : ∀ x ∈ l, o.getD x.group.toNat false = offG off x.group) : dueO now o l = rdueO now off l := by
  unfold dueO rdueO
  rw [(while_filter (due_pw (now := now) h)).1, List.filter_filter]
  refine List.filter_congr fun x hx => ?_
  rw [ho x hx]
  unfold dueW
  rw [Bool.eq_iff_iff]
  simp
  constructor <;> rintro ⟨h1, h2⟩ <;> constructor <;> first | assumption | omega
end Go.V

set_option maxRecDepth 100000
set_option maxHeartbeats 4000000
namespace Go.V
open Go.Proofs
structure S42 where
  now : Int
  next : Int
  o : List Bool
  l : List Ent
  off : List Int
structure J42 (cap : Int) (i : Nat) (s : S42) : Prop where
  srt : sortE s.l
  nd : (s.l.map (·.id)).Nodup
  ids : ∀ x ∈ s.l, 1 ≤ x.id ∧ x.id < s.next
  nx : 1 ≤ s.next ∧ s.next ≤ 2147483649
  val : ∀ x ∈ s.l, entV x = true
  now : 0 ≤ s.now ∧ s.now ≤ 1099511627776
  sm : ∀ x ∈ s.l, x.c.args.length ≤ 40 ∧ x.c.data.length ≤ 1000
  len : (s.l.length : Int) ≤ cap
  cp : 0 ≤ cap ∧ cap ≤ 256
  ol : s.o.length = 16
  oo : ∀ k : Nat, k < 16 → s.o.getD k false = offG s.off k
  fl : s.off.length ≤ i
def insS (cap : Int) (s : S42) (n t g : Int) (c : Cmd) : S42 :=
  let e := insErr cap (passT s.now n) s.next s.l.length t g c
  ⟨passT s.now n, insNext e s.next, s.o, insLst e s.l ⟨s.next, t, g, c⟩, s.off⟩
def delS (s : S42) (n : Int) : S42 := ⟨s.now, s.next, s.o, delL n s.l, s.off⟩
def shS (s : S42) (n g by' : Int) : S42 := ⟨passT s.now n, s.next, s.o, shL (passT s.now n) g by' s.l, s.off⟩
def enaS (s : S42) (g : Int) (b : Bool) : S42 := ⟨s.now, s.next, enaO s.o g b, s.l, enaR s.off g b⟩
def dueS (s : S42) (n : Int) : S42 := ⟨passT s.now n, s.next, s.o, dueR (passT s.now n) s.l, s.off⟩
theorem pass_now {now n : Int} (h : 0 ≤ now ∧ now ≤ 1099511627776) : 0 ≤ passT now n ∧ passT now n ≤ 1099511627776 := by
  unfold passT; split <;> omega
theorem entV_if4 (x : Ent) : entV x = true ↔ ((1 ≤ x.id ∧ x.id ≤ 2147483648) ∧ (0 ≤ x.time ∧ x.time ≤ 1099511627776) ∧ (0 ≤ x.group ∧ x.group < 16) ∧ validC x.c = true) := by
  unfold entV
  simp only [Bool.and_eq_true, decide_eq_true_eq]
  constructor
  · rintro ⟨⟨⟨⟨⟨⟨a, b⟩, c⟩, d⟩, e⟩, f⟩, g⟩; exact ⟨⟨a, b⟩, ⟨c, d⟩, ⟨e, f⟩, g⟩
  · rintro ⟨⟨a, b⟩, ⟨c, d⟩, ⟨e, f⟩, g⟩; exact ⟨⟨⟨⟨⟨⟨a, b⟩, c⟩, d⟩, e⟩, f⟩, g⟩
section
variable {cap : Int} {i : Nat} {s : S42}
theorem J42.time (h : J42 cap i s) : timeE s.l := fun x hx => ((entV_if4 x).1 (h.val x hx)).2.1
theorem J42.grp (h : J42 cap i s) : grpE s.l := fun x hx => ((entV_if4 x).1 (h.val x hx)).2.2.1
theorem J42.small (h : J42 cap i s) : smallE s.l := fun x hx => by have := h.sm x hx; omega
theorem J42.lit (h : J42 cap i s) : litE s.l := fun x hx => by have := h.sm x hx; omega
theorem J42.len' (h : J42 cap i s) : s.l.length ≤ 1000000 := by have := h.len; have := h.cp; omega
theorem J42.mono (h : J42 cap i s) : J42 cap (i + 1) s := { h with fl := by have := h.fl; omega }
theorem J42.newnd (h : J42 cap i s) (t g : Int) (c : Cmd) : ((s.l ++ [(⟨s.next, t, g, c⟩ : Ent)]).map (·.id)).Nodup := by
  rw [List.map_append, List.nodup_append]
  refine ⟨h.nd, by simp, ?_⟩
  intro a ha b hb
  obtain ⟨x, hx, rfl⟩ := List.mem_map.1 ha
  simp only [List.map_cons, List.map_nil, List.mem_singleton] at hb
  subst hb
  have := (h.ids x hx).2
  omega
theorem J42.ins (h : J42 cap i s) (n t g : Int) (c : Cmd) (hc : c.args.length ≤ 40 ∧ c.data.length ≤ 1000) : J42 cap i (insS cap s n t g c) := by
  have hpn := pass_now (n := n) h.now
  by_cases he : insErr cap (passT s.now n) s.next s.l.length t g c = 0
  · have hok : (0 ≤ g ∧ g < 16) ∧ validC c = true ∧ passT s.now n < t ∧ t ≤ 1099511627776 ∧ (s.l.length : Int) < cap ∧ s.next ≤ 2147483648 := by
      unfold insErr at he
      split at he
      · cases he
      · rename_i q1
        split at he
        · cases he
        · rename_i q2
          split at he
          · cases he
          · rename_i q3
            have q4 : validC c = true := by
              cases hv : validC c
              · exact absurd (.inr hv) q1
              · rfl
            have q5 : 0 ≤ g ∧ g < 16 := Decidable.not_not.1 fun w => q1 (.inl w)
            exact ⟨q5, q4, by omega, by omega, by omega, by omega⟩
    have e1 : insS cap s n t g c = ⟨passT s.now n, s.next + 1, s.o, insB s.l ⟨s.next, t, g, c⟩, s.off⟩ := by
      unfold insS
      simp only [he]
      rw [insLst_eq h.srt (h.newnd t g c)]
      rfl
    rw [e1]
    have hm : ∀ x ∈ insB s.l ⟨s.next, t, g, c⟩, x ∈ s.l ∨ x = ⟨s.next, t, g, c⟩ := fun x hx => by
      have := (insB_perm s.l ⟨s.next, t, g, c⟩).mem_iff.1 hx
      simpa using this
    have hnx := h.nx
    exact {
      srt := insB_sort h.srt
      nd := (((insB_perm s.l ⟨s.next, t, g, c⟩).map _).nodup_iff).2 (h.newnd t g c)
      ids := fun x hx => by
        dsimp only
        rcases hm x hx with q | q
        · have := h.ids x q; omega
        · subst q; dsimp only; omega
      nx := by dsimp only; omega
      val := fun x hx => by
        rcases hm x hx with q | q
        · exact h.val x q
        · subst q
          rw [entV_if4]
          dsimp only
          exact ⟨by omega, by omega, hok.1, hok.2.1⟩
      now := hpn
      sm := fun x hx => by
        rcases hm x hx with q | q
        · exact h.sm x q
        · subst q; exact hc
      len := by
        dsimp only
        rw [insB_len]; omega
      cp := h.cp
      ol := h.ol
      oo := h.oo
      fl := h.fl }
  · have hb := ins_bad (l := s.l) (x := ⟨s.next, t, g, c⟩) rfl he
    have e1 : insS cap s n t g c = ⟨passT s.now n, s.next, s.o, s.l, s.off⟩ := by
      unfold insS
      simp only [hb.1, hb.2.2]
    rw [e1]
    exact { h with now := hpn }
theorem J42.del (h : J42 cap i s) (n : Int) : J42 cap i (delS s n) := by
  have hsub : (delL n s.l).Sublist s.l := List.filter_sublist
  exact {
    srt := h.srt.sublist hsub
    nd := h.nd.sublist (hsub.map _)
    ids := fun x hx => h.ids x (hsub.subset hx)
    nx := h.nx
    val := fun x hx => h.val x (hsub.subset hx)
    now := h.now
    sm := fun x hx => h.sm x (hsub.subset hx)
    len := by have := hsub.length_le; have := h.len; show ((delL n s.l).length : Int) ≤ cap; omega
    cp := h.cp
    ol := h.ol
    oo := h.oo
    fl := h.fl }
theorem J42.due (h : J42 cap i s) (n : Int) : J42 cap i (dueS s n) := by
  have hsub : (dueR (passT s.now n) s.l).Sublist s.l := List.dropWhile_sublist _
  exact {
    srt := h.srt.sublist hsub
    nd := h.nd.sublist (hsub.map _)
    ids := fun x hx => h.ids x (hsub.subset hx)
    nx := h.nx
    val := fun x hx => h.val x (hsub.subset hx)
    now := pass_now h.now
    sm := fun x hx => h.sm x (hsub.subset hx)
    len := by have := hsub.length_le; have := h.len; show ((dueR (passT s.now n) s.l).length : Int) ≤ cap; omega
    cp := h.cp
    ol := h.ol
    oo := h.oo
    fl := h.fl }
theorem J42.sh (h : J42 cap i s) (n g by' : Int) : J42 cap i (shS s n g by') := by
  have hpn := pass_now (n := n) h.now
  by_cases he : shE (passT s.now n) g by' s.l = 0
  · have hno : s.l.any (shBad (passT s.now n) g by') = false := by
      unfold shE at he
      split at he
      · cases he
      · split at he
        · cases he
        · rename_i q; simpa using q
    have e1 : shL (passT s.now n) g by' s.l = srtE (s.l.map (shOne g by')) := by unfold shL; rw [if_pos he]
    have hp := srt_perm (s.l.map (shOne g by'))
    have hm : ∀ x ∈ srtE (s.l.map (shOne g by')), ∃ y ∈ s.l, shOne g by' y = x := fun x hx => List.mem_map.1 (hp.mem_iff.1 hx)
    have e2 : shS s n g by' = ⟨passT s.now n, s.next, s.o, srtE (s.l.map (shOne g by')), s.off⟩ := by unfold shS; rw [e1]
    rw [e2]
    exact {
      srt := srt_pw _
      nd := by
        refine ((hp.map _).nodup_iff).2 ?_
        rw [sh_ids]; exact h.nd
      ids := fun x hx => by
        obtain ⟨y, hy, rfl⟩ := hm x hx
        rw [shOne_id]; exact h.ids y hy
      nx := h.nx
      val := fun x hx => by
        obtain ⟨y, hy, rfl⟩ := hm x hx
        have hv := (entV_if4 y).1 (h.val y hy)
        have hb := List.any_eq_false.1 hno y hy
        unfold shOne
        split
        · rename_i q
          simp only [shBad, q, decide_true, Bool.true_and, Bool.or_eq_true, decide_eq_true_eq] at hb
          rw [entV_if4]
          dsimp only
          exact ⟨hv.1, by omega, hv.2.2⟩
        · exact h.val y hy
      now := hpn
      sm := fun x hx => by
        obtain ⟨y, hy, rfl⟩ := hm x hx
        have := h.sm y hy
        unfold shOne; split <;> exact this
      len := by
        have := h.len
        dsimp only
        rw [srt_len, List.length_map]; exact this
      cp := h.cp
      ol := h.ol
      oo := h.oo
      fl := h.fl }
  · have e2 : shS s n g by' = ⟨passT s.now n, s.next, s.o, s.l, s.off⟩ := by unfold shS shL; rw [if_neg he]
    rw [e2]
    exact { h with now := hpn }
theorem J42.ena (h : J42 cap i s) (g : Int) (b : Bool) : J42 cap (i + 1) (enaS s g b) := by
  by_cases hg : 0 ≤ g ∧ g < 16
  · have e1 : enaS s g b = ⟨s.now, s.next, s.o.set g.toNat (!b), s.l, s.off.filter (fun x => !decide (x = g)) ++ (if b then [] else [g])⟩ := by
      unfold enaS enaO enaR; rw [if_pos hg, if_pos hg]
    rw [e1]
    have hol := h.ol
    have hfl := h.fl
    exact { h with
      ol := by dsimp only; rw [List.length_set]; exact hol
      oo := fun k hk => by
        dsimp only
        have hk' := h.oo k hk
        rw [List.getD_eq_getElem?_getD, List.getElem?_set]
        unfold offG at hk' ⊢
        by_cases q : g.toNat = k
        · have q' : g = (k : Int) := by omega
          subst q'
          rw [if_pos q, if_pos (by omega)]
          cases b <;> simp
        · rw [if_neg q, ← List.getD_eq_getElem?_getD, hk']
          have q' : ¬ ((k : Int) = g) := by omega
          rw [decide_eq_decide]
          cases b <;> simp [q']
      fl := by
        have := List.length_filter_le (fun x => !decide (x = g)) s.off
        dsimp only
        rw [List.length_append]
        cases b <;> simp <;> omega }
  · have e1 : enaS s g b = s := by
      unfold enaS enaO enaR; rw [if_neg hg, if_neg hg]
    rw [e1]
    exact h.mono
theorem J42.duo (h : J42 cap i s) (n : Int) : dueO n s.o s.l = rdueO n s.off s.l :=
  dueO_eq h.srt fun x hx => by
    have hg := h.grp x hx
    have := h.oo x.group.toNat (by omega)
    rw [this, Int.toNat_of_nonneg hg.1]
end
end Go.V
