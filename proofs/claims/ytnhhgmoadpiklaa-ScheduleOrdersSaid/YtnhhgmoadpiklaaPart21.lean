/-
  A step on the schedule and on its specification.
  The laws of the schedule: small.
  The laws of the schedule: the examples of the chapter.
  The laws of the schedule: SchedulePlays.
  The laws of the schedule: ScheduleAgain.
  The schedule: nil pointers and zero values.
-/
import Derived.Test.YtnhhgmoadpiklaaPart20
set_option linter.unusedVariables false
set_option linter.unusedSimpArgs false
set_option maxRecDepth 100000
set_option maxHeartbeats 8000000
namespace Go.V
open Go.Proofs
/-- two objects are handed over, nothing is new -/
theorem frame_two0 {P : Program} {g : FuncId} {h : List Ch} {t u : Nat} {la az : List AV} {ret ret' : AV} {c c' d d' : Ch} {K : KT} (hb : DoesK P 2 g la [c, d] (EndF 2 ret ([c', d'] ++ []))) (ht : hth h t = c) (hu : hth h u = d) (hne : t ≠ u) (hg : c ≠ .gone) (hg2 : d ≠ .gone) (hcc : ∀ σ, fitC σ c c) (hdd : ∀ σ, fitC σ d d) (hbr : brL [t, u] h la az) (hrf : brTL la az = [])
    (hc : ∀ ρ, renC ρ c' = c') (hd : ∀ ρ, renC ρ d' = d') (hret : renA (rhoC [t, u] h.length) ret = ret') (HK : K ret' ((h.set t c').set u d')) : Does P g az h K :=
  Does.frame (σ := [t, u]) (la := la) (lh := [c, d]) (ret := ret) (obj := [c', d']) (cs := []) hb rfl hbr ⟨hth_lt (by rw [ht]; exact hg), by rw [ht]; exact hcc _, hth_lt (by rw [hu]; exact hg2), by rw [hu]; exact hdd _, trivial⟩ (by simp [hne]) (.inl hrf) (by
    show K (renA _ ret) (((((h.set t .gone).set u .gone).set t (renC _ c')).set u (renC _ d')) ++ [])
    rw [hret, hc, hd, List.append_nil, List.set_comm (i := u) (j := t) _ _ (Ne.symm hne), List.set_set, List.set_set]
    exact HK)
def stpS (cap : Int) (s : S42) (x : Stp) : S42 :=
  if x.kind.tmod 5 = 1 then insS cap s x.now x.n x.group x.c else if x.kind.tmod 5 = 2 then shS s x.now x.group x.n else if x.kind.tmod 5 = 3 then enaS s x.group x.on else if x.kind.tmod 5 = 4 then delS s x.n else dueS s x.now
theorem J42.step {cap : Int} {i : Nat} {s : S42} (h : J42 cap i s) (x : Stp) (hc : x.c.args.length ≤ 40 ∧ x.c.data.length ≤ 1000) : J42 cap (i + 1) (stpS cap s x) := by
  unfold stpS
  split
  · exact (h.ins _ _ _ _ hc).mono
  split
  · exact (h.sh _ _ _).mono
  split
  · exact h.ena _ _
  split
  · exact (h.del _).mono
  · exact (h.due _).mono
abbrev pC (cap : Int) (s : S42) : Ch := .pack (ScO cap s.now s.next s.o s.l)
abbrev rC (cap : Int) (s : S42) : Ch := RS cap s.next s.now s.l s.off
def stpL (x : Stp) : List AV := [.int .u8 x.kind, .int .i64 x.now, .int .i64 x.n, .int .i64 x.group, .bool x.on, .int .i64 x.c.src, .int .i64 x.c.num, .int .i64 x.c.srv, .ro .int x.c.args, .ro .byte x.c.data]
theorem b_step (cap : Int) (i : Nat) (s : S42) (x : Stp) (h : J42 cap i s) (hi : i ≤ 1000) (hc : x.c.args.length ≤ 40 ∧ x.c.data.length ≤ 1000) : DoesK Try.prog 2 14 [.ptr 0 0, .ptr 1 0, .agg (stpL x)] [pC cap s, rC cap s]
    (EndF 2 (.bool true) ([pC cap (stpS cap s x), rC cap (stpS cap s x)] ++ [])) := by
  refine DoesK.close ?_
  obtain ⟨now, next, o, l, off⟩ := s
  obtain ⟨kind, xn, n, g, on, ⟨x1, x2, x3, args, data⟩⟩ := x
  have hlen := h.len'
  dsimp only at hlen hc
  unfold stpL
  dsimp only
  have f1 := h.nx
  have f2 := h.newnd n g ⟨x1, x2, x3, args, data⟩
  have f3 := h.time
  have f4 := h.now
  have f6 := h.nd
  have f7 := h.fl
  have f8 := h.ol
  have f9 := h.small
  have f10 := h.grp
  have f11 := h.lit
  have f12 := h.srt
  dsimp only at f1 f2 f3 f4 f6 f7 f8 f9 f10 f11 f12
  by_cases k1 : kind.tmod 5 = 1
  · have hs : stpS cap ⟨now, next, o, l, off⟩ ⟨kind, xn, n, g, on, ⟨x1, x2, x3, args, data⟩⟩ = insS cap ⟨now, next, o, l, off⟩ xn n g ⟨x1, x2, x3, args, data⟩ := by unfold stpS; rw [if_pos k1]
    rw [hs]
    simp only [pC, rC, insS]
    have d1 : decide (kind.tmod 5 = 1) = true := decide_eq_true k1
    have hie := (insLst_eq (e := insErr cap (passT now xn) next l.length n g ⟨x1, x2, x3, args, data⟩) f12 f2).symm
    refine w_body (rs := [.tmp 6]) (tm := [.ptr 0 0, .ptr 1 0, .agg [.int .u8 kind, .int .i64 xn, .int .i64 n, .int .i64 g, .bool on, .int .i64 x1, .int .i64 x2, .int .i64 x3, .ro .int args, .ro .byte data], .any, .any, .any, .any, .any, .any, .any, .any, .any, .any, .any, .any, .any, .any, .any, .any, .any, .any, .any, .any, .any, .any, .any, .any, .any, .any, .any, .any, .any, .any, .any, .any, .any, .any, .any, .any, .any, .any, .any, .any, .any, .any, .any, .any, .any, .any, .any, .any, .any, .any, .any, .any, .any, .any, .any, .any, .any, .any, .any, .any, .any, .any, .any, .any, .any, .any, .any, .any, .any, .any, .any, .any, .any, .any, .any, .any, .any, .any, .any, .any, .any, .any, .any, .any, .any, .any, .any, .any, .any, .any, .any, .any, .any, .any, .any, .any, .any, .any, .any, .any, .any, .any, .any, .any, .any]) fn_14 rfl rfl rfl rfl fun R hR => ?_
    (have zx1 := @d1; have zx2 := @hie; all_goals (try ((first | (with_reducible refine wp_id ?_) | (with_reducible refine does_id ?_) | (with_reducible refine ops_id ?_)); refine walk ?_; (repeat' (first | exact trivial | with_reducible refine And.intro ?_ ?_)); all_goals (repeat (first | (with_reducible refine ImpB.mk fun hb => ?_) | (with_reducible refine ImpK.mk fun hK => ?_) | (with_reducible refine ImpF.mk fun hF => ?_) | (with_reducible refine ImpQ.mk fun hp => ?_) | (with_reducible refine AllE.mk fun p => ?_) | (with_reducible refine AllR.mk fun rest => ?_) | (with_reducible refine AllK.mk fun K => ?_))))); repeat' (with_reducible refine And.intro ?_ ?_))
    all_goals first | omega | assumption | exact f1.1 | skip
    (focus (refine ⟨_, _, Gh.refl, [0, 1], rfl, ?_⟩; (refine ⟨?_, ?_, ?_⟩ <;> simp only [go_sem, List.range, List.range.loop, List.nodup_cons, List.nodup_nil, List.mem_cons, List.not_mem_nil, or_false, or_self, decide_true, decide_false, Int.reduceToNat, Nat.min_eq_left, Nat.min_eq_right, Int.reducePow, Nat.reducePow, Int.reduceLE, Int.reduceLT, Int.reduceMul, Int.reduceAdd, Int.reduceSub, Int.reduceNeg, Bool.not_true, Bool.not_false, Bool.not_not, ↓reduceIte, Nat.reduceAdd, Nat.reduceSub, Nat.reduceMul, Nat.reduceEqDiff, reduceCtorEq, Nat.reduceLT, Nat.reduceLeDiff, Nat.reduceGT]); (try any_goals (refine ⟨?_, ?_⟩)); (try any_goals (with_reducible rfl))))
  have d1 : decide (kind.tmod 5 = 1) = false := decide_eq_false k1
  by_cases k2 : kind.tmod 5 = 2
  · have hs : stpS cap ⟨now, next, o, l, off⟩ ⟨kind, xn, n, g, on, ⟨x1, x2, x3, args, data⟩⟩ = shS ⟨now, next, o, l, off⟩ xn g n := by unfold stpS; rw [if_neg k1, if_pos k2]
    rw [hs]
    simp only [pC, rC, shS]
    have d2 : decide (kind.tmod 5 = 2) = true := decide_eq_true k2
    have hie := (shL_eq (now := passT now xn) (g := g) (by' := n) f6).symm
    refine w_body (rs := [.tmp 6]) (tm := [.ptr 0 0, .ptr 1 0, .agg [.int .u8 kind, .int .i64 xn, .int .i64 n, .int .i64 g, .bool on, .int .i64 x1, .int .i64 x2, .int .i64 x3, .ro .int args, .ro .byte data], .any, .any, .any, .any, .any, .any, .any, .any, .any, .any, .any, .any, .any, .any, .any, .any, .any, .any, .any, .any, .any, .any, .any, .any, .any, .any, .any, .any, .any, .any, .any, .any, .any, .any, .any, .any, .any, .any, .any, .any, .any, .any, .any, .any, .any, .any, .any, .any, .any, .any, .any, .any, .any, .any, .any, .any, .any, .any, .any, .any, .any, .any, .any, .any, .any, .any, .any, .any, .any, .any, .any, .any, .any, .any, .any, .any, .any, .any, .any, .any, .any, .any, .any, .any, .any, .any, .any, .any, .any, .any, .any, .any, .any, .any, .any, .any, .any, .any, .any, .any, .any, .any, .any, .any, .any]) fn_14 rfl rfl rfl rfl fun R hR => ?_
    (have zx1 := @d1; have zx2 := @d2; have zx3 := @hie; all_goals (try ((first | (with_reducible refine wp_id ?_) | (with_reducible refine does_id ?_) | (with_reducible refine ops_id ?_)); refine walk ?_; (repeat' (first | exact trivial | with_reducible refine And.intro ?_ ?_)); all_goals (repeat (first | (with_reducible refine ImpB.mk fun hb => ?_) | (with_reducible refine ImpK.mk fun hK => ?_) | (with_reducible refine ImpF.mk fun hF => ?_) | (with_reducible refine ImpQ.mk fun hp => ?_) | (with_reducible refine AllE.mk fun p => ?_) | (with_reducible refine AllR.mk fun rest => ?_) | (with_reducible refine AllK.mk fun K => ?_))))); repeat' (with_reducible refine And.intro ?_ ?_))
    all_goals first | omega | assumption | skip
    (focus (refine ⟨_, _, Gh.refl, [0, 1], rfl, ?_⟩; (refine ⟨?_, ?_, ?_⟩ <;> simp only [go_sem, List.range, List.range.loop, List.nodup_cons, List.nodup_nil, List.mem_cons, List.not_mem_nil, or_false, or_self, decide_true, decide_false, Int.reduceToNat, Nat.min_eq_left, Nat.min_eq_right, Int.reducePow, Nat.reducePow, Int.reduceLE, Int.reduceLT, Int.reduceMul, Int.reduceAdd, Int.reduceSub, Int.reduceNeg, Bool.not_true, Bool.not_false, Bool.not_not, ↓reduceIte, Nat.reduceAdd, Nat.reduceSub, Nat.reduceMul, Nat.reduceEqDiff, reduceCtorEq, Nat.reduceLT, Nat.reduceLeDiff, Nat.reduceGT]); (try any_goals (refine ⟨?_, ?_⟩)); (try any_goals (with_reducible rfl))))
  have d2 : decide (kind.tmod 5 = 2) = false := decide_eq_false k2
  by_cases k3 : kind.tmod 5 = 3
  · have hs : stpS cap ⟨now, next, o, l, off⟩ ⟨kind, xn, n, g, on, ⟨x1, x2, x3, args, data⟩⟩ = enaS ⟨now, next, o, l, off⟩ g on := by unfold stpS; rw [if_neg k1, if_neg k2, if_pos k3]
    rw [hs]
    simp only [pC, rC, enaS]
    have d3 : decide (kind.tmod 5 = 3) = true := decide_eq_true k3
    refine w_body (rs := [.tmp 6]) (tm := [.ptr 0 0, .ptr 1 0, .agg [.int .u8 kind, .int .i64 xn, .int .i64 n, .int .i64 g, .bool on, .int .i64 x1, .int .i64 x2, .int .i64 x3, .ro .int args, .ro .byte data], .any, .any, .any, .any, .any, .any, .any, .any, .any, .any, .any, .any, .any, .any, .any, .any, .any, .any, .any, .any, .any, .any, .any, .any, .any, .any, .any, .any, .any, .any, .any, .any, .any, .any, .any, .any, .any, .any, .any, .any, .any, .any, .any, .any, .any, .any, .any, .any, .any, .any, .any, .any, .any, .any, .any, .any, .any, .any, .any, .any, .any, .any, .any, .any, .any, .any, .any, .any, .any, .any, .any, .any, .any, .any, .any, .any, .any, .any, .any, .any, .any, .any, .any, .any, .any, .any, .any, .any, .any, .any, .any, .any, .any, .any, .any, .any, .any, .any, .any, .any, .any, .any, .any, .any, .any]) fn_14 rfl rfl rfl rfl fun R hR => ?_
    (have zx1 := @d1; have zx2 := @d2; have zx3 := @d3; all_goals (try ((first | (with_reducible refine wp_id ?_) | (with_reducible refine does_id ?_) | (with_reducible refine ops_id ?_)); refine walk ?_; (repeat' (first | exact trivial | with_reducible refine And.intro ?_ ?_)); all_goals (repeat (first | (with_reducible refine ImpB.mk fun hb => ?_) | (with_reducible refine ImpK.mk fun hK => ?_) | (with_reducible refine ImpF.mk fun hF => ?_) | (with_reducible refine ImpQ.mk fun hp => ?_) | (with_reducible refine AllE.mk fun p => ?_) | (with_reducible refine AllR.mk fun rest => ?_) | (with_reducible refine AllK.mk fun K => ?_))))); repeat' (with_reducible refine And.intro ?_ ?_))
    all_goals first | omega | assumption | skip
    (focus (refine ⟨_, _, Gh.refl, [0, 1], rfl, ?_⟩; (refine ⟨?_, ?_, ?_⟩ <;> simp only [go_sem, List.range, List.range.loop, List.nodup_cons, List.nodup_nil, List.mem_cons, List.not_mem_nil, or_false, or_self, decide_true, decide_false, Int.reduceToNat, Nat.min_eq_left, Nat.min_eq_right, Int.reducePow, Nat.reducePow, Int.reduceLE, Int.reduceLT, Int.reduceMul, Int.reduceAdd, Int.reduceSub, Int.reduceNeg, Bool.not_true, Bool.not_false, Bool.not_not, ↓reduceIte, Nat.reduceAdd, Nat.reduceSub, Nat.reduceMul, Nat.reduceEqDiff, reduceCtorEq, Nat.reduceLT, Nat.reduceLeDiff, Nat.reduceGT]); (try any_goals (refine ⟨?_, ?_⟩)); (try any_goals (with_reducible rfl))))
  have d3 : decide (kind.tmod 5 = 3) = false := decide_eq_false k3
  by_cases k4 : kind.tmod 5 = 4
  · have hs : stpS cap ⟨now, next, o, l, off⟩ ⟨kind, xn, n, g, on, ⟨x1, x2, x3, args, data⟩⟩ = delS ⟨now, next, o, l, off⟩ n := by unfold stpS; rw [if_neg k1, if_neg k2, if_neg k3, if_pos k4]
    rw [hs]
    simp only [pC, rC, delS]
    have d4 : decide (kind.tmod 5 = 4) = true := decide_eq_true k4
    refine w_body (rs := [.tmp 6]) (tm := [.ptr 0 0, .ptr 1 0, .agg [.int .u8 kind, .int .i64 xn, .int .i64 n, .int .i64 g, .bool on, .int .i64 x1, .int .i64 x2, .int .i64 x3, .ro .int args, .ro .byte data], .any, .any, .any, .any, .any, .any, .any, .any, .any, .any, .any, .any, .any, .any, .any, .any, .any, .any, .any, .any, .any, .any, .any, .any, .any, .any, .any, .any, .any, .any, .any, .any, .any, .any, .any, .any, .any, .any, .any, .any, .any, .any, .any, .any, .any, .any, .any, .any, .any, .any, .any, .any, .any, .any, .any, .any, .any, .any, .any, .any, .any, .any, .any, .any, .any, .any, .any, .any, .any, .any, .any, .any, .any, .any, .any, .any, .any, .any, .any, .any, .any, .any, .any, .any, .any, .any, .any, .any, .any, .any, .any, .any, .any, .any, .any, .any, .any, .any, .any, .any, .any, .any, .any, .any, .any]) fn_14 rfl rfl rfl rfl fun R hR => ?_
    (have zx1 := @d1; have zx2 := @d2; have zx3 := @d3; have zx4 := @d4; all_goals (try ((first | (with_reducible refine wp_id ?_) | (with_reducible refine does_id ?_) | (with_reducible refine ops_id ?_)); refine walk ?_; (repeat' (first | exact trivial | with_reducible refine And.intro ?_ ?_)); all_goals (repeat (first | (with_reducible refine ImpB.mk fun hb => ?_) | (with_reducible refine ImpK.mk fun hK => ?_) | (with_reducible refine ImpF.mk fun hF => ?_) | (with_reducible refine ImpQ.mk fun hp => ?_) | (with_reducible refine AllE.mk fun p => ?_) | (with_reducible refine AllR.mk fun rest => ?_) | (with_reducible refine AllK.mk fun K => ?_))))); repeat' (with_reducible refine And.intro ?_ ?_))
    all_goals first | omega | assumption | skip
    (focus (refine ⟨_, _, Gh.refl, [0, 1], rfl, ?_⟩; (refine ⟨?_, ?_, ?_⟩ <;> simp only [go_sem, List.range, List.range.loop, List.nodup_cons, List.nodup_nil, List.mem_cons, List.not_mem_nil, or_false, or_self, decide_true, decide_false, Int.reduceToNat, Nat.min_eq_left, Nat.min_eq_right, Int.reducePow, Nat.reducePow, Int.reduceLE, Int.reduceLT, Int.reduceMul, Int.reduceAdd, Int.reduceSub, Int.reduceNeg, Bool.not_true, Bool.not_false, Bool.not_not, ↓reduceIte, Nat.reduceAdd, Nat.reduceSub, Nat.reduceMul, Nat.reduceEqDiff, reduceCtorEq, Nat.reduceLT, Nat.reduceLeDiff, Nat.reduceGT]); (try any_goals (refine ⟨?_, ?_⟩)); (try any_goals (with_reducible rfl))))
  have d4 : decide (kind.tmod 5 = 4) = false := decide_eq_false k4
  have hs : stpS cap ⟨now, next, o, l, off⟩ ⟨kind, xn, n, g, on, ⟨x1, x2, x3, args, data⟩⟩ = dueS ⟨now, next, o, l, off⟩ xn := by unfold stpS; rw [if_neg k1, if_neg k2, if_neg k3, if_neg k4]
  rw [hs]
  simp only [pC, rC, dueS]
  have hie := (dueR_eq (now := passT now xn) f12).symm
  have hio := (h.duo (passT now xn)).symm
  dsimp only at hio
  have hid : ∀ m : List Ent, decide (m = m) = true := fun m => decide_eq_true rfl
  have g1 : (dueO (passT now xn) o l).length ≤ l.length := by
    unfold dueO
    exact Nat.le_trans (List.length_filter_le _ _) (List.takeWhile_sublist _).length_le
  have g2 : litE (dueO (passT now xn) o l) := fun x hx => f11 x ((List.takeWhile_sublist _).subset (List.filter_sublist.subset hx))
  refine w_body (rs := [.tmp 6]) (tm := [.ptr 0 0, .ptr 1 0, .agg [.int .u8 kind, .int .i64 xn, .int .i64 n, .int .i64 g, .bool on, .int .i64 x1, .int .i64 x2, .int .i64 x3, .ro .int args, .ro .byte data], .any, .any, .any, .any, .any, .any, .any, .any, .any, .any, .any, .any, .any, .any, .any, .any, .any, .any, .any, .any, .any, .any, .any, .any, .any, .any, .any, .any, .any, .any, .any, .any, .any, .any, .any, .any, .any, .any, .any, .any, .any, .any, .any, .any, .any, .any, .any, .any, .any, .any, .any, .any, .any, .any, .any, .any, .any, .any, .any, .any, .any, .any, .any, .any, .any, .any, .any, .any, .any, .any, .any, .any, .any, .any, .any, .any, .any, .any, .any, .any, .any, .any, .any, .any, .any, .any, .any, .any, .any, .any, .any, .any, .any, .any, .any, .any, .any, .any, .any, .any, .any, .any, .any, .any, .any]) fn_14 rfl rfl rfl rfl fun R hR => ?_
  (have zx1 := @d1; have zx2 := @d2; have zx3 := @d3; have zx4 := @d4; have zx5 := @hie; have zx6 := @hio; have zx7 := @hid; all_goals (try ((first | (with_reducible refine wp_id ?_) | (with_reducible refine does_id ?_) | (with_reducible refine ops_id ?_)); refine walk ?_; (repeat' (first | exact trivial | with_reducible refine And.intro ?_ ?_)); all_goals (repeat (first | (with_reducible refine ImpB.mk fun hb => ?_) | (with_reducible refine ImpK.mk fun hK => ?_) | (with_reducible refine ImpF.mk fun hF => ?_) | (with_reducible refine ImpQ.mk fun hp => ?_) | (with_reducible refine AllE.mk fun p => ?_) | (with_reducible refine AllR.mk fun rest => ?_) | (with_reducible refine AllK.mk fun K => ?_))))); repeat' (with_reducible refine And.intro ?_ ?_))
  all_goals first | omega | assumption | skip
  (focus (refine ⟨_, _, Gh.refl, [0, 1], rfl, ?_⟩; (refine ⟨?_, ?_, ?_⟩ <;> simp only [go_sem, List.range, List.range.loop, List.nodup_cons, List.nodup_nil, List.mem_cons, List.not_mem_nil, or_false, or_self, decide_true, decide_false, Int.reduceToNat, Nat.min_eq_left, Nat.min_eq_right, Int.reducePow, Nat.reducePow, Int.reduceLE, Int.reduceLT, Int.reduceMul, Int.reduceAdd, Int.reduceSub, Int.reduceNeg, Bool.not_true, Bool.not_false, Bool.not_not, ↓reduceIte, Nat.reduceAdd, Nat.reduceSub, Nat.reduceMul, Nat.reduceEqDiff, reduceCtorEq, Nat.reduceLT, Nat.reduceLeDiff, Nat.reduceGT]); (try any_goals (refine ⟨?_, ?_⟩)); (try any_goals (with_reducible rfl))))
theorem c_step {h : List Ch} {K : KT} {t u : Nat} {cap : Int} {s : S42} {x : Stp} (H : K (.bool true) ((h.set t (pC cap (stpS cap s x))).set u (rC cap (stpS cap s x)))) (o1 : hth h t = pC cap s) (o2 : hth h u = rC cap s) (s1 : ∃ i, i ≤ 1000 ∧ J42 cap i s) (s2 : x.c.args.length ≤ 40 ∧ x.c.data.length ≤ 1000) : Does Try.prog 14 [.ptr t 0, .ptr u 0, .agg [.int .u8 x.kind, .int .i64 x.now, .int .i64 x.n, .int .i64 x.group, .bool x.on, .int .i64 x.c.src, .int .i64 x.c.num, .int .i64 x.c.srv, .ro .int x.c.args, .ro .byte x.c.data]] h K := by
  obtain ⟨i, hi, hJ⟩ := s1
  have hne : t ≠ u := fun e => by subst e; rw [o1] at o2; cases o2
  exact frame_two0 (ret' := .bool true) (b_step cap i s x hJ hi s2) o1 o2 hne (by simp) (by simp [RS]) (fitC_pack _) (fun σ => fit_rs σ) (br_cons (br_ptr rfl) (br_cons (br_ptr rfl) (br_cons (br_agg (br_cons br_int (br_cons br_int (br_cons br_int (br_cons br_int (br_cons br_bool (br_cons br_int (br_cons br_int (br_cons br_int (br_cons br_ro (br_cons br_ro br_nil))))))))))) br_nil))) rfl (fun _ => rfl) (fun _ => rfl) rfl H
abbrev i_step := Ctr.mk (i := 0) (g := 14) @c_step
attribute [instance] i_step
end Go.V

set_option maxRecDepth 100000
set_option maxHeartbeats 8000000
namespace Go.V
open Go.Proofs
def smallB (x : Stp) : Bool := decide (x.c.args.length ≤ 40) && decide (x.c.data.length ≤ 1000)
abbrev sAt (l : List Stp) (k : Nat) : Stp := l.getD k Stp.zero
theorem sAt_eq {l : List Stp} {i : Nat} (h : i < l.length) : sAt l i = l[i] := by
  unfold sAt
  rw [List.getD_eq_getElem?_getD, List.getElem?_eq_getElem h]
  rfl
theorem b_small (l : List Stp) (hl : l.length ≤ 9223372036854775807) : DoesK Try.prog 0 11 [.ro .stp l] [] (EndF 0 (.bool (l.all smallB && decide ((l.length : Int) ≤ 60))) []) := by
  refine DoesK.close ?_
  refine w_body (rs := [.tmp 2]) (tm := [.ro .stp l, .any, .any, .any, .any, .any, .any, .any, .any, .any, .any, .any, .any, .any, .any, .any, .any, .any, .any, .any, .any, .any, .any, .any, .any, .any, .any, .any, .any, .any, .any]) fn_11 rfl rfl rfl rfl fun R hR => ?_
  (all_goals (try ((first | (with_reducible refine wp_id ?_) | (with_reducible refine does_id ?_) | (with_reducible refine ops_id ?_)); refine walk ?_; (repeat' (first | exact trivial | with_reducible refine And.intro ?_ ?_)); all_goals (repeat (first | (with_reducible refine ImpB.mk fun hb => ?_) | (with_reducible refine ImpK.mk fun hK => ?_) | (with_reducible refine ImpF.mk fun hF => ?_) | (with_reducible refine ImpQ.mk fun hp => ?_) | (with_reducible refine AllE.mk fun p => ?_) | (with_reducible refine AllR.mk fun rest => ?_) | (with_reducible refine AllK.mk fun K => ?_))))); repeat' (with_reducible refine And.intro ?_ ?_))
  any_goals ((try (refine w_seq fun K hK => ?_)); (try (refine w_block ?_)); refine w_loop (A := Nat) (fun k => k ≤ l.length ∧ (l.take k).all smallB = true) (fun k => l.length - k) (fun k => [(3, .int .i64 k)]) (fun _ => []) (0) (ws := ?ws1) (tk := ?tk1) ?hw1 ?ht1 ?hi ?h0 ?LH1; (case hw1 => simp only [go_sem, decide_true, decide_false, Int.reduceToNat, Nat.min_eq_left, Nat.min_eq_right, Int.reducePow, Nat.reducePow, Int.reduceLE, Int.reduceLT, Int.reduceMul, Int.reduceAdd, Int.reduceSub, Int.reduceNeg, Bool.not_true, Bool.not_false, Bool.not_not, ↓reduceIte, Nat.reduceAdd, Nat.reduceSub, Nat.reduceMul, Nat.reduceEqDiff, reduceCtorEq, Nat.reduceLT, Nat.reduceLeDiff, Nat.reduceGT]; exact rfl); (case ht1 => simp only [go_sem, decide_true, decide_false, Int.reduceToNat, Nat.min_eq_left, Nat.min_eq_right, Int.reducePow, Nat.reducePow, Int.reduceLE, Int.reduceLT, Int.reduceMul, Int.reduceAdd, Int.reduceSub, Int.reduceNeg, Bool.not_true, Bool.not_false, Bool.not_not, ↓reduceIte, Nat.reduceAdd, Nat.reduceSub, Nat.reduceMul, Nat.reduceEqDiff, reduceCtorEq, Nat.reduceLT, Nat.reduceLeDiff, Nat.reduceGT]; exact rfl); (case' LH1 => rintro k E t hx hE ht; simp only [go_sem] at ht; subst ht; simp only [go_sem]; try dsimp only at hx))
  case LH1 =>
    obtain ⟨hk, ha⟩ := hx
    by_cases c1 : k < l.length
    · have d1 : decide ((k : Int) < (l.length : Int)) = true := decide_eq_true (by omega)
      have hw : IntKind.i64.wrap ((k : Int) + 1) = ((k + 1 : Nat) : Int) := wrap_i64 _ (by omega) (by omega)
      have hmem : sAt l k ∈ l := by rw [sAt_eq c1]; exact List.getElem_mem c1
      have hno : smallB (sAt l k) = false → (l.all smallB && decide ((l.length : Int) ≤ 60)) = false := fun q => by
        have : l.all smallB = false := List.all_eq_false.2 ⟨_, hmem, by rw [q]; simp⟩
        rw [this]; rfl
      (have zx1 := @d1; have zx2 := @hw; all_goals (try ((first | (with_reducible refine wp_id ?_) | (with_reducible refine does_id ?_) | (with_reducible refine ops_id ?_)); refine walk ?_; (repeat' (first | exact trivial | with_reducible refine And.intro ?_ ?_)); all_goals (repeat (first | (with_reducible refine ImpB.mk fun hb => ?_) | (with_reducible refine ImpK.mk fun hK => ?_) | (with_reducible refine ImpF.mk fun hF => ?_) | (with_reducible refine ImpQ.mk fun hp => ?_) | (with_reducible refine AllE.mk fun p => ?_) | (with_reducible refine AllR.mk fun rest => ?_) | (with_reducible refine AllK.mk fun K => ?_))))); repeat' (with_reducible refine And.intro ?_ ?_))
      any_goals first | omega | exact Int.natCast_nonneg _
      · have q : smallB (sAt l k) = false := by
          have : (40 : Int) < ((sAt l k).c.args.length : Int) := of_decide_eq_true hb
          unfold smallB
          rw [decide_eq_false (by omega)]; rfl
        rw [hno q]
        (focus (refine ⟨_, _, Gh.refl, [], rfl, ?_⟩; (refine ⟨?_, ?_, ?_⟩ <;> simp only [go_sem, List.range, List.range.loop, List.nodup_cons, List.nodup_nil, List.mem_cons, List.not_mem_nil, or_false, or_self, decide_true, decide_false, Int.reduceToNat, Nat.min_eq_left, Nat.min_eq_right, Int.reducePow, Nat.reducePow, Int.reduceLE, Int.reduceLT, Int.reduceMul, Int.reduceAdd, Int.reduceSub, Int.reduceNeg, Bool.not_true, Bool.not_false, Bool.not_not, ↓reduceIte, Nat.reduceAdd, Nat.reduceSub, Nat.reduceMul, Nat.reduceEqDiff, reduceCtorEq, Nat.reduceLT, Nat.reduceLeDiff, Nat.reduceGT]); (try any_goals (refine ⟨?_, ?_⟩)); (try any_goals (with_reducible rfl))))
      · have q : smallB (sAt l k) = false := by
          have : (1000 : Int) < ((sAt l k).c.data.length : Int) := of_decide_eq_true hb
          unfold smallB
          rw [Bool.and_eq_false_iff]; right
          exact decide_eq_false (by omega)
        rw [hno q]
        (focus (refine ⟨_, _, Gh.refl, [], rfl, ?_⟩; (refine ⟨?_, ?_, ?_⟩ <;> simp only [go_sem, List.range, List.range.loop, List.nodup_cons, List.nodup_nil, List.mem_cons, List.not_mem_nil, or_false, or_self, decide_true, decide_false, Int.reduceToNat, Nat.min_eq_left, Nat.min_eq_right, Int.reducePow, Nat.reducePow, Int.reduceLE, Int.reduceLT, Int.reduceMul, Int.reduceAdd, Int.reduceSub, Int.reduceNeg, Bool.not_true, Bool.not_false, Bool.not_not, ↓reduceIte, Nat.reduceAdd, Nat.reduceSub, Nat.reduceMul, Nat.reduceEqDiff, reduceCtorEq, Nat.reduceLT, Nat.reduceLeDiff, Nat.reduceGT]); (try any_goals (refine ⟨?_, ?_⟩)); (try any_goals (with_reducible rfl))))
      · rename_i q1
        have q : smallB (sAt l k) = true := by
          have : ¬ ((1000 : Int) < ((sAt l k).c.data.length : Int)) := of_decide_eq_false hb
          have : ¬ ((40 : Int) < ((sAt l k).c.args.length : Int)) := of_decide_eq_false q1
          unfold smallB
          rw [Bool.and_eq_true]
          exact ⟨decide_eq_true (by omega), decide_eq_true (by omega)⟩
        refine ⟨k + 1, ⟨⟨c1, ?_⟩, by dsimp only; omega⟩, ?_⟩
        · rw [List.take_succ_eq_append_getElem c1, List.all_append, ha, ← sAt_eq c1, List.all_cons, q]; rfl
        · (focus (refine ⟨_, _, Gh.refl, [], rfl, ?_⟩; (refine ⟨?_, ?_, ?_⟩ <;> simp only [go_sem, List.range, List.range.loop, List.nodup_cons, List.nodup_nil, List.mem_cons, List.not_mem_nil, or_false, or_self, decide_true, decide_false, Int.reduceToNat, Nat.min_eq_left, Nat.min_eq_right, Int.reducePow, Nat.reducePow, Int.reduceLE, Int.reduceLT, Int.reduceMul, Int.reduceAdd, Int.reduceSub, Int.reduceNeg, Bool.not_true, Bool.not_false, Bool.not_not, ↓reduceIte, Nat.reduceAdd, Nat.reduceSub, Nat.reduceMul, Nat.reduceEqDiff, reduceCtorEq, Nat.reduceLT, Nat.reduceLeDiff, Nat.reduceGT]); (try any_goals (refine ⟨?_, ?_⟩)); (try any_goals (with_reducible rfl))))
    · have d1 : decide ((k : Int) < (l.length : Int)) = false := decide_eq_false (by omega)
      rw [List.take_of_length_le (by omega)] at ha
      (have zx1 := @d1; all_goals (try ((first | (with_reducible refine wp_id ?_) | (with_reducible refine does_id ?_) | (with_reducible refine ops_id ?_)); refine walk ?_; (repeat' (first | exact trivial | with_reducible refine And.intro ?_ ?_)); all_goals (repeat (first | (with_reducible refine ImpB.mk fun hb => ?_) | (with_reducible refine ImpK.mk fun hK => ?_) | (with_reducible refine ImpF.mk fun hF => ?_) | (with_reducible refine ImpQ.mk fun hp => ?_) | (with_reducible refine AllE.mk fun p => ?_) | (with_reducible refine AllR.mk fun rest => ?_) | (with_reducible refine AllK.mk fun K => ?_))))); repeat' (with_reducible refine And.intro ?_ ?_))
      rw [ha, Bool.true_and]
      (focus (refine ⟨_, _, Gh.refl, [], rfl, ?_⟩; (refine ⟨?_, ?_, ?_⟩ <;> simp only [go_sem, List.range, List.range.loop, List.nodup_cons, List.nodup_nil, List.mem_cons, List.not_mem_nil, or_false, or_self, decide_true, decide_false, Int.reduceToNat, Nat.min_eq_left, Nat.min_eq_right, Int.reducePow, Nat.reducePow, Int.reduceLE, Int.reduceLT, Int.reduceMul, Int.reduceAdd, Int.reduceSub, Int.reduceNeg, Bool.not_true, Bool.not_false, Bool.not_not, ↓reduceIte, Nat.reduceAdd, Nat.reduceSub, Nat.reduceMul, Nat.reduceEqDiff, reduceCtorEq, Nat.reduceLT, Nat.reduceLeDiff, Nat.reduceGT]); (try any_goals (refine ⟨?_, ?_⟩)); (try any_goals (with_reducible rfl))))
  · exact ⟨Nat.zero_le _, rfl⟩
  · (focus (refine ⟨_, _, Gh.refl, [], rfl, ?_⟩; (refine ⟨?_, ?_, ?_⟩ <;> simp only [go_sem, List.range, List.range.loop, List.nodup_cons, List.nodup_nil, List.mem_cons, List.not_mem_nil, or_false, or_self, decide_true, decide_false, Int.reduceToNat, Nat.min_eq_left, Nat.min_eq_right, Int.reducePow, Nat.reducePow, Int.reduceLE, Int.reduceLT, Int.reduceMul, Int.reduceAdd, Int.reduceSub, Int.reduceNeg, Bool.not_true, Bool.not_false, Bool.not_not, ↓reduceIte, Nat.reduceAdd, Nat.reduceSub, Nat.reduceMul, Nat.reduceEqDiff, reduceCtorEq, Nat.reduceLT, Nat.reduceLeDiff, Nat.reduceGT]); (try any_goals (refine ⟨?_, ?_⟩)); (try any_goals (with_reducible rfl))))
theorem c_small {h : List Ch} {K : KT} {l : List Stp} {a : AV} (H : K (.bool (l.all smallB && decide ((l.length : Int) ≤ 60))) h) (b1 : brA [] h (.ro .stp l) a) (s1 : l.length ≤ 9223372036854775807) : Does Try.prog 11 [a] h K :=
  frame_pure (b_small l s1) (br_cons b1 br_nil) (.inr rfl) (fun _ => rfl) H
abbrev i_small := Ctr.mk (i := 0) (g := 11) @c_small
attribute [instance] i_small
end Go.V

set_option maxRecDepth 100000
set_option maxHeartbeats 8000000
namespace Go.V
open Go.Proofs
abbrev pg : Cmd := ⟨1, 9, 1, [], []⟩
abbrev e1L : Ent := ⟨1, 10, 0, pg⟩
abbrev e2L : Ent := ⟨2, 5, 1, pg⟩
theorem liv1 : insErr 3 0 1 0 10 0 pg = 0 := by decide +kernel
theorem liv2 : srtE ([] ++ [e1L]) = [e1L] := (srt_eq (List.Perm.refl _) (by decide) (by simp)).symm
theorem liv3 : insErr 3 0 2 1 5 1 pg = 0 := by decide +kernel
theorem liv4 : srtE ([e1L] ++ [e2L]) = [e2L, e1L] := (srt_eq (List.Perm.swap _ _ _) (by decide) (by simp [befE])).symm
theorem liv5 : insErr 3 3 3 2 3 0 pg = 10 := by decide +kernel
theorem liv6 : shE 3 0 (-10) [e2L, e1L] = 10 := by decide +kernel
theorem liv7 : dueO 4 off0 [e2L, e1L] = [] ∧ dueR 4 [e2L, e1L] = [e2L, e1L] := by decide +kernel
theorem liv8 : dueO 7 off0 [e2L, e1L] = [e2L] ∧ dueR 7 [e2L, e1L] = [e1L] := by decide +kernel
theorem liv9 : dueO 10 off0 [e1L] = [e1L] ∧ dueR 10 [e1L] = [] := by decide +kernel
theorem liv10 : encE [⟨1, 10, 0, pg⟩] = [2, 2, 20, 0, 8, 1, 0, 9, 1] := by decide +kernel
theorem liv11 : chkE [⟨1, 10, 0, pg⟩] 256 = 0 := by decide +kernel
theorem c_sinsN {h : List Ch} {K : KT} {u k : Nat} {most now next nw : Int} {off : List Bool} {l m : List Ent} {n t g x y z : Int} (H : K (.tup [.int .i64 next, .int .i64 0]) (h.set u (.pack (ScO most nw (next + 1) off m)))) (o : hth h u = .pack [.cells (scC most now next off 1 k), .rows .ent l]) (e1 : passT now n = nw) (e2 : insErr most nw next k t g ⟨x, y, z, [], []⟩ = 0) (e3 : srtE (l ++ [⟨next, t, g, ⟨x, y, z, [], []⟩⟩]) = m) (s0 : k = l.length) (s1 : l.length ≤ 1000000) (s2 : ((l ++ [(⟨next, t, g, ⟨x, y, z, [], []⟩⟩ : Ent)]).map (·.id)).Nodup) (s3 : 0 ≤ next ∧ next ≤ 9223372036854775806) : Does Try.prog 17 [.ptr u 0, .int .i64 n, .int .i64 t, .int .i64 g, .agg [.int .i64 x, .int .i64 y, .int .i64 z, .lit (.slice none 0 0), .lit (.slice none 0 0)]] h K := by
  subst s0 e1 e3
  refine c_sins0 (l := l) ?_ o s1 s2 s3
  rw [e2]
  exact H
abbrev i_sinsN := Ctr.mk (i := 2) (g := 17) @c_sinsN
attribute [instance] i_sinsN
theorem c_sinsE {h : List Ch} {K : KT} {u k : Nat} {most now next nw er : Int} {off : List Bool} {l : List Ent} {n t g x y z : Int} (H : K (.tup [.int .i64 0, .int .i64 er]) (h.set u (.pack (ScO most nw next off l)))) (o : hth h u = .pack [.cells (scC most now next off 1 k), .rows .ent l]) (e1 : passT now n = nw) (e2 : insErr most nw next k t g ⟨x, y, z, [], []⟩ = er) (s0 : k = l.length) (s1 : l.length ≤ 1000000) (s2 : ((l ++ [(⟨next, t, g, ⟨x, y, z, [], []⟩⟩ : Ent)]).map (·.id)).Nodup) (s3 : 0 ≤ next ∧ next ≤ 9223372036854775806) (s4 : er ≠ 0) : Does Try.prog 17 [.ptr u 0, .int .i64 n, .int .i64 t, .int .i64 g, .agg [.int .i64 x, .int .i64 y, .int .i64 z, .lit (.slice none 0 0), .lit (.slice none 0 0)]] h K := by
  subst s0 e1
  refine c_sins0 (l := l) ?_ o s1 s2 s3
  have hb := ins_bad (l := l) (x := ⟨next, t, g, ⟨x, y, z, [], []⟩⟩) e2 s4
  rw [e2, hb.1, hb.2.1, hb.2.2]
  exact H
abbrev i_sinsE := Ctr.mk (i := 3) (g := 17) @c_sinsE
attribute [instance] i_sinsE
theorem c_sentsN {h : List Ch} {K : KT} {u k : Nat} {most now next : Int} {off : List Bool} {l : List Ent} (H : K (.sl h.length .ent 0 l.length) (h ++ [.rows .ent l])) (o : hth h u = .pack [.cells (scC most now next off 1 k), .rows .ent l]) (s0 : k = l.length) (s1 : l.length ≤ 1000000) (s2 : smallE l) : Does Try.prog 16 [.ptr u 0] h K := by
  subst s0
  exact c_sents H o s1 s2
abbrev i_sentsN := Ctr.mk (i := 1) (g := 16) @c_sentsN
attribute [instance] i_sentsN
theorem c_sshiftN {h : List Ch} {K : KT} {u k : Nat} {most now next n g by' nw er : Int} {off : List Bool} {l : List Ent} (H : K (.int .i64 er) (h.set u (.pack (ScO most nw next off l)))) (o : hth h u = .pack [.cells (scC most now next off 1 k), .rows .ent l]) (e1 : passT now n = nw) (e2 : shE nw g by' l = er) (s0 : k = l.length) (s1 : l.length ≤ 1000000) (s2 : (l.map (·.id)).Nodup) (s3 : timeE l) (s4 : 0 ≤ now ∧ now ≤ 1099511627776) (s5 : er ≠ 0) : Does Try.prog 20 [.ptr u 0, .int .i64 n, .int .i64 g, .int .i64 by'] h K := by
  subst s0 e1
  refine c_sshift (l := l) ?_ o s1 s2 s3 s4
  have hb : shL (passT now n) g by' l = l := by unfold shL; rw [e2, if_neg s5]
  rw [e2, hb]
  exact H
abbrev i_sshiftN := Ctr.mk (i := 1) (g := 20) @c_sshiftN
attribute [instance] i_sshiftN
theorem c_sdueN {h : List Ch} {K : KT} {u k : Nat} {most now next n nw : Int} {off : List Bool} {l a b : List Ent} (H : K (.sl h.length .ent 0 a.length) (h.set u (.pack (ScO most nw next off b)) ++ [.rows .ent a])) (o : hth h u = .pack [.cells (scC most now next off 1 k), .rows .ent l]) (e1 : passT now n = nw) (e2 : dueO nw off l = a) (e3 : dueR nw l = b) (s0 : k = l.length) (s1 : l.length ≤ 1000000) (s2 : smallE l) (s3 : grpE l) : Does Try.prog 18 [.ptr u 0, .int .i64 n] h K := by
  subst s0 e1 e2 e3
  exact c_sdue H o s1 s2 s3
abbrev i_sdueN := Ctr.mk (i := 1) (g := 18) @c_sdueN
attribute [instance] i_sdueN
theorem c_senaN {h : List Ch} {K : KT} {u k : Nat} {most now next g : Int} {off : List Bool} {b : Bool} {l : List Ent} (H : K (.int .i64 1) (h.set u (.pack (ScO most now next off l)))) (o : hth h u = .pack [.cells (scC most now next off 1 k), .rows .ent l]) (s0 : k = l.length) (s1 : off.length = 16) (s2 : 16 ≤ g) : Does Try.prog 21 [.ptr u 0, .int .i64 g, .bool b] h K := by
  subst s0
  refine c_sena (l := l) ?_ o s1
  have h1 : enaE g = 1 := if_neg (by omega)
  have h2 : enaO off g b = off := if_neg (by omega)
  rw [h1, h2]
  exact H
abbrev i_senaN := Ctr.mk (i := 1) (g := 21) @c_senaN
attribute [instance] i_senaN
theorem c_sdelN {h : List Ch} {K : KT} {u k : Nat} {most now next n : Int} {off : List Bool} {l : List Ent} (H : K (.int .i64 8) (h.set u (.pack (ScO most now next off l)))) (o : hth h u = .pack [.cells (scC most now next off 1 k), .rows .ent l]) (e1 : l = []) (s0 : k = l.length) : Does Try.prog 19 [.ptr u 0, .int .i64 n] h K := by
  subst s0 e1
  exact c_sdelete (l := []) H o (by simp) (by simp)
abbrev i_sdelN := Ctr.mk (i := 1) (g := 19) @c_sdelN
attribute [instance] i_sdelN
theorem b_lives : DoesK Try.prog 0 12 [] [] (EndF 0 (.bool true) []) := by
  refine DoesK.close ?_
  have hcap : min (max (3 : Int) 0) 256 = 3 := by decide
  have p1 : passT 0 0 = 0 := by decide
  have p3 : passT 0 3 = 3 := by decide
  have p4 : passT 3 0 = 3 := by decide
  have p5 : passT 3 4 = 4 := by decide
  have p6 : passT 4 7 = 7 := by decide
  have p7 : passT 7 10 = 10 := by decide
  have l1 := liv1
  have l2 := liv2
  have l3 := liv3
  have l4 := liv4
  have l5 := liv5
  have l6 := liv6
  have l71 := liv7.1
  have l72 := liv7.2
  have l81 := liv8.1
  have l82 := liv8.2
  have l91 := liv9.1
  have l92 := liv9.2
  have l10 := liv10
  have l11 := liv11
  refine w_body (rs := [.tmp 0]) (tm := [.any, .any, .any, .any, .any, .any, .any, .any, .any, .any, .any, .any, .any, .any, .any, .any, .any, .any, .any, .any, .any, .any, .any, .any, .any, .any, .any, .any, .any, .any, .any, .any, .any, .any, .any, .any, .any, .any, .any, .any, .any, .any, .any, .any, .any, .any, .any, .any, .any, .any, .any, .any, .any, .any, .any, .any, .any, .any, .any, .any, .any, .any, .any, .any, .any, .any, .any, .any, .any, .any, .any, .any, .any, .any, .any, .any, .any, .any, .any, .any, .any, .any, .any, .any, .any, .any, .any, .any, .any, .any, .any, .any, .any, .any, .any, .any, .any, .any, .any, .any, .any, .any, .any, .any, .any, .any, .any, .any, .any, .any, .any, .any, .any, .any, .any, .any, .any, .any, .any, .any, .any, .any, .any, .any, .any, .any, .any, .any, .any, .any, .any, .any, .any, .any, .any, .any, .any]) fn_12 rfl rfl rfl rfl fun R hR => ?_
  (have zx1 := @hcap; all_goals (try ((first | (with_reducible refine wp_id ?_) | (with_reducible refine does_id ?_) | (with_reducible refine ops_id ?_)); refine walk ?_; (repeat' (first | exact trivial | with_reducible refine And.intro ?_ ?_)); all_goals (repeat (first | (with_reducible refine ImpB.mk fun hb => ?_) | (with_reducible refine ImpK.mk fun hK => ?_) | (with_reducible refine ImpF.mk fun hF => ?_) | (with_reducible refine ImpQ.mk fun hp => ?_) | (with_reducible refine AllE.mk fun p => ?_) | (with_reducible refine AllR.mk fun rest => ?_) | (with_reducible refine AllK.mk fun K => ?_))))); repeat' (with_reducible refine And.intro ?_ ?_))
  all_goals first | rfl | decide | (simp only [List.append]) | skip
  have v0 : decide (((2 : Nat) : Int) = 2) = true := rfl
  have v1 : decide (([e2L, e1L].getD 0 Ent.zero).id = 2) = true := rfl
  have v2 : decide (([e2L].getD 0 Ent.zero).id = 2) = true := rfl
  have v3 : decide (([e1L].getD 0 Ent.zero).id = 1) = true := rfl
  (have zx1 := @hcap; have zx2 := @l10; have zx3 := @v0; have zx4 := @v1; have zx5 := @v2; have zx6 := @v3; all_goals (try ((first | (with_reducible refine wp_id ?_) | (with_reducible refine does_id ?_) | (with_reducible refine ops_id ?_)); refine walk ?_; (repeat' (first | exact trivial | with_reducible refine And.intro ?_ ?_)); all_goals (repeat (first | (with_reducible refine ImpB.mk fun hb => ?_) | (with_reducible refine ImpK.mk fun hK => ?_) | (with_reducible refine ImpF.mk fun hF => ?_) | (with_reducible refine ImpQ.mk fun hp => ?_) | (with_reducible refine AllE.mk fun p => ?_) | (with_reducible refine AllR.mk fun rest => ?_) | (with_reducible refine AllK.mk fun K => ?_))))); repeat' (with_reducible refine And.intro ?_ ?_))
  all_goals first | rfl | decide | (intro x hx; simp only [List.mem_cons, List.not_mem_nil, or_false] at hx; rcases hx with rfl | rfl <;> decide) | (intro x hx; simp only [List.mem_cons, List.not_mem_nil, or_false] at hx; subst hx; decide) | skip
  (focus (refine ⟨_, _, Gh.refl, [], rfl, ?_⟩; (refine ⟨?_, ?_, ?_⟩ <;> simp only [go_sem, List.range, List.range.loop, List.nodup_cons, List.nodup_nil, List.mem_cons, List.not_mem_nil, or_false, or_self, decide_true, decide_false, Int.reduceToNat, Nat.min_eq_left, Nat.min_eq_right, Int.reducePow, Nat.reducePow, Int.reduceLE, Int.reduceLT, Int.reduceMul, Int.reduceAdd, Int.reduceSub, Int.reduceNeg, Bool.not_true, Bool.not_false, Bool.not_not, ↓reduceIte, Nat.reduceAdd, Nat.reduceSub, Nat.reduceMul, Nat.reduceEqDiff, reduceCtorEq, Nat.reduceLT, Nat.reduceLeDiff, Nat.reduceGT]); (try any_goals (refine ⟨?_, ?_⟩)); (try any_goals (with_reducible rfl))))
theorem c_lives {h : List Ch} {K : KT} (H : K (.bool true) h) : Does Try.prog 12 [] h K :=
  frame_pure b_lives br_nil (.inl rfl) (fun _ => rfl) H
abbrev i_lives := Ctr.mk (i := 0) (g := 12) @c_lives
attribute [instance] i_lives
end Go.V

set_option maxRecDepth 100000
set_option maxHeartbeats 8000000
namespace Go.V
open Go.Proofs
def s0S : S42 := ⟨0, 1, off0, [], []⟩
theorem J42.zero (most : Int) : J42 (capS most) 0 s0S where
  srt := List.Pairwise.nil
  nd := by simp [s0S]
  ids := by simp [s0S]
  nx := by simp [s0S]
  val := by simp [s0S]
  now := by simp [s0S]
  sm := by simp [s0S]
  len := by show ((0 : Nat) : Int) ≤ min (max most 0) 256; omega
  cp := by show 0 ≤ min (max most 0) 256 ∧ min (max most 0) 256 ≤ 256; omega
  ol := rfl
  oo := fun k hk => by
    have : ∀ k : Nat, off0.getD k false = false := fun k => by
      unfold off0
      rw [List.getD_eq_getElem?_getD, List.getElem?_replicate]
      split <;> rfl
    show off0.getD k false = offG [] k
    rw [this]; simp [offG]
  fl := by simp [s0S]
theorem b_plays (most : Int) (l : List Stp) (hl : l.length ≤ 9223372036854775807) : DoesK Try.prog 0 3 [.int .i64 most, .ro .stp l] [] (EndF 0 (.bool true) []) := by
  refine DoesK.close ?_
  cases hs : (l.all smallB && decide ((l.length : Int) ≤ 60))
  · refine w_body (rs := [.tmp 4]) (tm := [.int .i64 most, .ro .stp l, .any, .any, .any, .any, .any, .any, .any, .any, .any, .any, .any, .any, .any, .any, .any, .any, .any, .any, .any, .any, .any, .any, .any, .any, .any, .any, .any, .any, .any, .any, .any, .any, .any, .any, .any, .any, .any, .any, .any, .any, .any, .any, .any, .any]) fn_3 rfl rfl rfl rfl fun R hR => ?_
    (have zx1 := @hs; all_goals (try ((first | (with_reducible refine wp_id ?_) | (with_reducible refine does_id ?_) | (with_reducible refine ops_id ?_)); refine walk ?_; (repeat' (first | exact trivial | with_reducible refine And.intro ?_ ?_)); all_goals (repeat (first | (with_reducible refine ImpB.mk fun hb => ?_) | (with_reducible refine ImpK.mk fun hK => ?_) | (with_reducible refine ImpF.mk fun hF => ?_) | (with_reducible refine ImpQ.mk fun hp => ?_) | (with_reducible refine AllE.mk fun p => ?_) | (with_reducible refine AllR.mk fun rest => ?_) | (with_reducible refine AllK.mk fun K => ?_))))); repeat' (with_reducible refine And.intro ?_ ?_))
    (focus (refine ⟨_, _, Gh.refl, [], rfl, ?_⟩; (refine ⟨?_, ?_, ?_⟩ <;> simp only [go_sem, List.range, List.range.loop, List.nodup_cons, List.nodup_nil, List.mem_cons, List.not_mem_nil, or_false, or_self, decide_true, decide_false, Int.reduceToNat, Nat.min_eq_left, Nat.min_eq_right, Int.reducePow, Nat.reducePow, Int.reduceLE, Int.reduceLT, Int.reduceMul, Int.reduceAdd, Int.reduceSub, Int.reduceNeg, Bool.not_true, Bool.not_false, Bool.not_not, ↓reduceIte, Nat.reduceAdd, Nat.reduceSub, Nat.reduceMul, Nat.reduceEqDiff, reduceCtorEq, Nat.reduceLT, Nat.reduceLeDiff, Nat.reduceGT]); (try any_goals (refine ⟨?_, ?_⟩)); (try any_goals (with_reducible rfl))))
  · refine w_body (rs := [.tmp 4]) (tm := [.int .i64 most, .ro .stp l, .any, .any, .any, .any, .any, .any, .any, .any, .any, .any, .any, .any, .any, .any, .any, .any, .any, .any, .any, .any, .any, .any, .any, .any, .any, .any, .any, .any, .any, .any, .any, .any, .any, .any, .any, .any, .any, .any, .any, .any, .any, .any, .any, .any]) fn_3 rfl rfl rfl rfl fun R hR => ?_
    have hsm : l.all smallB = true ∧ l.length ≤ 60 := by
      rw [Bool.and_eq_true] at hs
      exact ⟨hs.1, by have := of_decide_eq_true hs.2; omega⟩
    (have zx1 := @hs; all_goals (try ((first | (with_reducible refine wp_id ?_) | (with_reducible refine does_id ?_) | (with_reducible refine ops_id ?_)); refine walk ?_; (repeat' (first | exact trivial | with_reducible refine And.intro ?_ ?_)); all_goals (repeat (first | (with_reducible refine ImpB.mk fun hb => ?_) | (with_reducible refine ImpK.mk fun hK => ?_) | (with_reducible refine ImpF.mk fun hF => ?_) | (with_reducible refine ImpQ.mk fun hp => ?_) | (with_reducible refine AllE.mk fun p => ?_) | (with_reducible refine AllR.mk fun rest => ?_) | (with_reducible refine AllK.mk fun K => ?_))))); repeat' (with_reducible refine And.intro ?_ ?_))
    any_goals ((try (refine w_seq fun K hK => ?_)); (try (refine w_block ?_)); refine w_loop (A := Nat × S42) (fun p => J42 (capS most) p.1 p.2 ∧ p.1 ≤ l.length) (fun p => l.length - p.1) (fun p => [(7, .int .i64 p.1)]) (fun p => [(0, pC (capS most) p.2), (1, rC (capS most) p.2)]) ((0, s0S)) (ws := ?ws1) (tk := ?tk1) ?hw1 ?ht1 ?hi ?h0 ?LH1; (case hw1 => simp only [go_sem, decide_true, decide_false, Int.reduceToNat, Nat.min_eq_left, Nat.min_eq_right, Int.reducePow, Nat.reducePow, Int.reduceLE, Int.reduceLT, Int.reduceMul, Int.reduceAdd, Int.reduceSub, Int.reduceNeg, Bool.not_true, Bool.not_false, Bool.not_not, ↓reduceIte, Nat.reduceAdd, Nat.reduceSub, Nat.reduceMul, Nat.reduceEqDiff, reduceCtorEq, Nat.reduceLT, Nat.reduceLeDiff, Nat.reduceGT]; exact rfl); (case ht1 => simp only [go_sem, decide_true, decide_false, Int.reduceToNat, Nat.min_eq_left, Nat.min_eq_right, Int.reducePow, Nat.reducePow, Int.reduceLE, Int.reduceLT, Int.reduceMul, Int.reduceAdd, Int.reduceSub, Int.reduceNeg, Bool.not_true, Bool.not_false, Bool.not_not, ↓reduceIte, Nat.reduceAdd, Nat.reduceSub, Nat.reduceMul, Nat.reduceEqDiff, reduceCtorEq, Nat.reduceLT, Nat.reduceLeDiff, Nat.reduceGT]; exact rfl); (case' LH1 => rintro ⟨k, s⟩ E t hx hE ht; simp only [go_sem] at ht; subst ht; simp only [go_sem]; try dsimp only at hx))
    case LH1 =>
      obtain ⟨hJ, hk⟩ := hx
      by_cases c1 : k < l.length
      · have d1 : decide ((k : Int) < (l.length : Int)) = true := decide_eq_true (by omega)
        have hw : IntKind.i64.wrap ((k : Int) + 1) = ((k + 1 : Nat) : Int) := wrap_i64 _ (by omega) (by omega)
        have hmem : sAt l k ∈ l := by rw [sAt_eq c1]; exact List.getElem_mem c1
        have hsb : (sAt l k).c.args.length ≤ 40 ∧ (sAt l k).c.data.length ≤ 1000 := by
          have := List.all_eq_true.1 hsm.1 _ hmem
          unfold smallB at this
          rw [Bool.and_eq_true] at this
          exact ⟨of_decide_eq_true this.1, of_decide_eq_true this.2⟩
        have hJ' := hJ.step (sAt l k) hsb
        have q1 := hJ'.len'
        have q2 := hJ'.small
        have q3 := hJ'.lit
        have hid : ∀ m : List Ent, decide (m = m) = true := fun m => decide_eq_true rfl
        (have zx1 := @d1; have zx2 := @hw; have zx3 := @hid; all_goals (try ((first | (with_reducible refine wp_id ?_) | (with_reducible refine does_id ?_) | (with_reducible refine ops_id ?_)); refine walk ?_; (repeat' (first | exact trivial | with_reducible refine And.intro ?_ ?_)); all_goals (repeat (first | (with_reducible refine ImpB.mk fun hb => ?_) | (with_reducible refine ImpK.mk fun hK => ?_) | (with_reducible refine ImpF.mk fun hF => ?_) | (with_reducible refine ImpQ.mk fun hp => ?_) | (with_reducible refine AllE.mk fun p => ?_) | (with_reducible refine AllR.mk fun rest => ?_) | (with_reducible refine AllK.mk fun K => ?_))))); repeat' (with_reducible refine And.intro ?_ ?_))
        any_goals first | omega | exact Int.natCast_nonneg _ | exact hsb | exact ⟨k, by omega, hJ⟩ | assumption
        · refine ⟨(k + 1, stpS (capS most) s (sAt l k)), ⟨⟨hJ', c1⟩, by dsimp only; omega⟩, ?_⟩
          (focus (refine ⟨_, _, Gh.refl, [0, 1], rfl, ?_⟩; (refine ⟨?_, ?_, ?_⟩ <;> simp only [go_sem, List.range, List.range.loop, List.nodup_cons, List.nodup_nil, List.mem_cons, List.not_mem_nil, or_false, or_self, decide_true, decide_false, Int.reduceToNat, Nat.min_eq_left, Nat.min_eq_right, Int.reducePow, Nat.reducePow, Int.reduceLE, Int.reduceLT, Int.reduceMul, Int.reduceAdd, Int.reduceSub, Int.reduceNeg, Bool.not_true, Bool.not_false, Bool.not_not, ↓reduceIte, Nat.reduceAdd, Nat.reduceSub, Nat.reduceMul, Nat.reduceEqDiff, reduceCtorEq, Nat.reduceLT, Nat.reduceLeDiff, Nat.reduceGT]); (try any_goals (refine ⟨?_, ?_⟩)); (try any_goals (with_reducible rfl))))
        · exact Nat.le_trans q1 (by decide)
      · have d1 : decide ((k : Int) < (l.length : Int)) = false := decide_eq_false (by omega)
        (have zx1 := @d1; all_goals (try ((first | (with_reducible refine wp_id ?_) | (with_reducible refine does_id ?_) | (with_reducible refine ops_id ?_)); refine walk ?_; (repeat' (first | exact trivial | with_reducible refine And.intro ?_ ?_)); all_goals (repeat (first | (with_reducible refine ImpB.mk fun hb => ?_) | (with_reducible refine ImpK.mk fun hK => ?_) | (with_reducible refine ImpF.mk fun hF => ?_) | (with_reducible refine ImpQ.mk fun hp => ?_) | (with_reducible refine AllE.mk fun p => ?_) | (with_reducible refine AllR.mk fun rest => ?_) | (with_reducible refine AllK.mk fun K => ?_))))); repeat' (with_reducible refine And.intro ?_ ?_))
        (focus (refine ⟨_, _, Gh.refl, [], rfl, ?_⟩; (refine ⟨?_, ?_, ?_⟩ <;> simp only [go_sem, List.range, List.range.loop, List.nodup_cons, List.nodup_nil, List.mem_cons, List.not_mem_nil, or_false, or_self, decide_true, decide_false, Int.reduceToNat, Nat.min_eq_left, Nat.min_eq_right, Int.reducePow, Nat.reducePow, Int.reduceLE, Int.reduceLT, Int.reduceMul, Int.reduceAdd, Int.reduceSub, Int.reduceNeg, Bool.not_true, Bool.not_false, Bool.not_not, ↓reduceIte, Nat.reduceAdd, Nat.reduceSub, Nat.reduceMul, Nat.reduceEqDiff, reduceCtorEq, Nat.reduceLT, Nat.reduceLeDiff, Nat.reduceGT]); (try any_goals (refine ⟨?_, ?_⟩)); (try any_goals (with_reducible rfl))))
    · exact ⟨J42.zero most, Nat.zero_le _⟩
    · (focus (refine ⟨_, _, Gh.refl, [0, 1], rfl, ?_⟩; (refine ⟨?_, ?_, ?_⟩ <;> simp only [go_sem, List.range, List.range.loop, List.nodup_cons, List.nodup_nil, List.mem_cons, List.not_mem_nil, or_false, or_self, decide_true, decide_false, Int.reduceToNat, Nat.min_eq_left, Nat.min_eq_right, Int.reducePow, Nat.reducePow, Int.reduceLE, Int.reduceLT, Int.reduceMul, Int.reduceAdd, Int.reduceSub, Int.reduceNeg, Bool.not_true, Bool.not_false, Bool.not_not, ↓reduceIte, Nat.reduceAdd, Nat.reduceSub, Nat.reduceMul, Nat.reduceEqDiff, reduceCtorEq, Nat.reduceLT, Nat.reduceLeDiff, Nat.reduceGT]); (try any_goals (refine ⟨?_, ?_⟩)); (try any_goals (with_reducible rfl))))
      · rfl
      · exact ⟨rfl, rfl, rfl, rfl⟩
end Go.V

set_option maxRecDepth 100000
set_option maxHeartbeats 8000000
namespace Go.V
open Go.Proofs
theorem J42.chk {most : Int} {i : Nat} {s : S42} (h : J42 (capS most) i s) : chkE s.l (capS most) = 0 := by
  have hd : dupE s.l = false := by
    unfold dupE
    rw [decide_eq_true (show (idsE s.l).Nodup from h.nd)]; rfl
  unfold chkE
  rw [if_pos (List.all_eq_true.2 h.val), hd]
  have := h.len
  simp only [Bool.false_eq_true, if_false]
  rw [if_neg (by omega)]
theorem J42.srtd {cap : Int} {i : Nat} {s : S42} (h : J42 cap i s) : V.srtE s.l = s.l :=
  (srt_eq (List.Perm.refl _) h.nd h.srt).symm
theorem b_again (most : Int) (l : List Stp) (hl : l.length ≤ 9223372036854775807) : DoesK Try.prog 0 7 [.int .i64 most, .ro .stp l] [] (EndF 0 (.bool true) []) := by
  refine DoesK.close ?_
  cases hs : (l.all smallB && decide ((l.length : Int) ≤ 60))
  · refine w_body (rs := [.tmp 4]) (tm := [.int .i64 most, .ro .stp l, .any, .any, .any, .any, .any, .any, .any, .any, .any, .any, .any, .any, .any, .any, .any, .any, .any, .any, .any, .any, .any, .any, .any, .any, .any, .any, .any, .any, .any, .any, .any, .any, .any, .any, .any, .any, .any, .any, .any, .any, .any, .any, .any, .any, .any, .any, .any, .any, .any, .any, .any, .any, .any, .any, .any, .any]) fn_7 rfl rfl rfl rfl fun R hR => ?_
    (have zx1 := @hs; all_goals (try ((first | (with_reducible refine wp_id ?_) | (with_reducible refine does_id ?_) | (with_reducible refine ops_id ?_)); refine walk ?_; (repeat' (first | exact trivial | with_reducible refine And.intro ?_ ?_)); all_goals (repeat (first | (with_reducible refine ImpB.mk fun hb => ?_) | (with_reducible refine ImpK.mk fun hK => ?_) | (with_reducible refine ImpF.mk fun hF => ?_) | (with_reducible refine ImpQ.mk fun hp => ?_) | (with_reducible refine AllE.mk fun p => ?_) | (with_reducible refine AllR.mk fun rest => ?_) | (with_reducible refine AllK.mk fun K => ?_))))); repeat' (with_reducible refine And.intro ?_ ?_))
    (focus (refine ⟨_, _, Gh.refl, [], rfl, ?_⟩; (refine ⟨?_, ?_, ?_⟩ <;> simp only [go_sem, List.range, List.range.loop, List.nodup_cons, List.nodup_nil, List.mem_cons, List.not_mem_nil, or_false, or_self, decide_true, decide_false, Int.reduceToNat, Nat.min_eq_left, Nat.min_eq_right, Int.reducePow, Nat.reducePow, Int.reduceLE, Int.reduceLT, Int.reduceMul, Int.reduceAdd, Int.reduceSub, Int.reduceNeg, Bool.not_true, Bool.not_false, Bool.not_not, ↓reduceIte, Nat.reduceAdd, Nat.reduceSub, Nat.reduceMul, Nat.reduceEqDiff, reduceCtorEq, Nat.reduceLT, Nat.reduceLeDiff, Nat.reduceGT]); (try any_goals (refine ⟨?_, ?_⟩)); (try any_goals (with_reducible rfl))))
  · refine w_body (rs := [.tmp 4]) (tm := [.int .i64 most, .ro .stp l, .any, .any, .any, .any, .any, .any, .any, .any, .any, .any, .any, .any, .any, .any, .any, .any, .any, .any, .any, .any, .any, .any, .any, .any, .any, .any, .any, .any, .any, .any, .any, .any, .any, .any, .any, .any, .any, .any, .any, .any, .any, .any, .any, .any, .any, .any, .any, .any, .any, .any, .any, .any, .any, .any, .any, .any]) fn_7 rfl rfl rfl rfl fun R hR => ?_
    have hsm : l.all smallB = true ∧ l.length ≤ 60 := by
      rw [Bool.and_eq_true] at hs
      exact ⟨hs.1, by have := of_decide_eq_true hs.2; omega⟩
    (have zx1 := @hs; all_goals (try ((first | (with_reducible refine wp_id ?_) | (with_reducible refine does_id ?_) | (with_reducible refine ops_id ?_)); refine walk ?_; (repeat' (first | exact trivial | with_reducible refine And.intro ?_ ?_)); all_goals (repeat (first | (with_reducible refine ImpB.mk fun hb => ?_) | (with_reducible refine ImpK.mk fun hK => ?_) | (with_reducible refine ImpF.mk fun hF => ?_) | (with_reducible refine ImpQ.mk fun hp => ?_) | (with_reducible refine AllE.mk fun p => ?_) | (with_reducible refine AllR.mk fun rest => ?_) | (with_reducible refine AllK.mk fun K => ?_))))); repeat' (with_reducible refine And.intro ?_ ?_))
    any_goals ((try (refine w_seq fun K hK => ?_)); (try (refine w_block ?_)); refine w_loop (A := Nat × S42) (fun p => J42 (capS most) p.1 p.2 ∧ p.1 ≤ l.length) (fun p => l.length - p.1) (fun p => [(7, .int .i64 p.1)]) (fun p => [(0, pC (capS most) p.2), (1, rC (capS most) p.2)]) ((0, s0S)) (ws := ?ws1) (tk := ?tk1) ?hw1 ?ht1 ?hi ?h0 ?LH1; (case hw1 => simp only [go_sem, decide_true, decide_false, Int.reduceToNat, Nat.min_eq_left, Nat.min_eq_right, Int.reducePow, Nat.reducePow, Int.reduceLE, Int.reduceLT, Int.reduceMul, Int.reduceAdd, Int.reduceSub, Int.reduceNeg, Bool.not_true, Bool.not_false, Bool.not_not, ↓reduceIte, Nat.reduceAdd, Nat.reduceSub, Nat.reduceMul, Nat.reduceEqDiff, reduceCtorEq, Nat.reduceLT, Nat.reduceLeDiff, Nat.reduceGT]; exact rfl); (case ht1 => simp only [go_sem, decide_true, decide_false, Int.reduceToNat, Nat.min_eq_left, Nat.min_eq_right, Int.reducePow, Nat.reducePow, Int.reduceLE, Int.reduceLT, Int.reduceMul, Int.reduceAdd, Int.reduceSub, Int.reduceNeg, Bool.not_true, Bool.not_false, Bool.not_not, ↓reduceIte, Nat.reduceAdd, Nat.reduceSub, Nat.reduceMul, Nat.reduceEqDiff, reduceCtorEq, Nat.reduceLT, Nat.reduceLeDiff, Nat.reduceGT]; exact rfl); (case' LH1 => rintro ⟨k, s⟩ E t hx hE ht; simp only [go_sem] at ht; subst ht; simp only [go_sem]; try dsimp only at hx))
    case LH1 =>
      obtain ⟨hJ, hk⟩ := hx
      by_cases c1 : k < l.length
      · have d1 : decide ((k : Int) < (l.length : Int)) = true := decide_eq_true (by omega)
        have hw : IntKind.i64.wrap ((k : Int) + 1) = ((k + 1 : Nat) : Int) := wrap_i64 _ (by omega) (by omega)
        have hmem : sAt l k ∈ l := by rw [sAt_eq c1]; exact List.getElem_mem c1
        have hsb : (sAt l k).c.args.length ≤ 40 ∧ (sAt l k).c.data.length ≤ 1000 := by
          have := List.all_eq_true.1 hsm.1 _ hmem
          unfold smallB at this
          rw [Bool.and_eq_true] at this
          exact ⟨of_decide_eq_true this.1, of_decide_eq_true this.2⟩
        have hJ' := hJ.step (sAt l k) hsb
        (have zx1 := @d1; have zx2 := @hw; all_goals (try ((first | (with_reducible refine wp_id ?_) | (with_reducible refine does_id ?_) | (with_reducible refine ops_id ?_)); refine walk ?_; (repeat' (first | exact trivial | with_reducible refine And.intro ?_ ?_)); all_goals (repeat (first | (with_reducible refine ImpB.mk fun hb => ?_) | (with_reducible refine ImpK.mk fun hK => ?_) | (with_reducible refine ImpF.mk fun hF => ?_) | (with_reducible refine ImpQ.mk fun hp => ?_) | (with_reducible refine AllE.mk fun p => ?_) | (with_reducible refine AllR.mk fun rest => ?_) | (with_reducible refine AllK.mk fun K => ?_))))); repeat' (with_reducible refine And.intro ?_ ?_))
        any_goals first | omega | exact Int.natCast_nonneg _ | exact hsb | exact ⟨k, by omega, hJ⟩ | assumption
        · refine ⟨(k + 1, stpS (capS most) s (sAt l k)), ⟨⟨hJ', c1⟩, by dsimp only; omega⟩, ?_⟩
          (focus (refine ⟨_, _, Gh.refl, [0, 1], rfl, ?_⟩; (refine ⟨?_, ?_, ?_⟩ <;> simp only [go_sem, List.range, List.range.loop, List.nodup_cons, List.nodup_nil, List.mem_cons, List.not_mem_nil, or_false, or_self, decide_true, decide_false, Int.reduceToNat, Nat.min_eq_left, Nat.min_eq_right, Int.reducePow, Nat.reducePow, Int.reduceLE, Int.reduceLT, Int.reduceMul, Int.reduceAdd, Int.reduceSub, Int.reduceNeg, Bool.not_true, Bool.not_false, Bool.not_not, ↓reduceIte, Nat.reduceAdd, Nat.reduceSub, Nat.reduceMul, Nat.reduceEqDiff, reduceCtorEq, Nat.reduceLT, Nat.reduceLeDiff, Nat.reduceGT]); (try any_goals (refine ⟨?_, ?_⟩)); (try any_goals (with_reducible rfl))))
      · have d1 : decide ((k : Int) < (l.length : Int)) = false := decide_eq_false (by omega)
        have q1 := hJ.chk
        have q2 := hJ.srtd
        have q3 := hJ.len'
        have q4 := hJ.small
        have q5 := hJ.lit
        have q6 := hJ.nd
        have hid : ∀ m : List Ent, decide (m = m) = true := fun m => decide_eq_true rfl
        (have zx1 := @d1; have zx2 := @q2; have zx3 := @hid; all_goals (try ((first | (with_reducible refine wp_id ?_) | (with_reducible refine does_id ?_) | (with_reducible refine ops_id ?_)); refine walk ?_; (repeat' (first | exact trivial | with_reducible refine And.intro ?_ ?_)); all_goals (repeat (first | (with_reducible refine ImpB.mk fun hb => ?_) | (with_reducible refine ImpK.mk fun hK => ?_) | (with_reducible refine ImpF.mk fun hF => ?_) | (with_reducible refine ImpQ.mk fun hp => ?_) | (with_reducible refine AllE.mk fun p => ?_) | (with_reducible refine AllR.mk fun rest => ?_) | (with_reducible refine AllK.mk fun K => ?_))))); repeat' (with_reducible refine And.intro ?_ ?_))
        · (focus (refine ⟨_, _, Gh.refl, [], rfl, ?_⟩; (refine ⟨?_, ?_, ?_⟩ <;> simp only [go_sem, List.range, List.range.loop, List.nodup_cons, List.nodup_nil, List.mem_cons, List.not_mem_nil, or_false, or_self, decide_true, decide_false, Int.reduceToNat, Nat.min_eq_left, Nat.min_eq_right, Int.reducePow, Nat.reducePow, Int.reduceLE, Int.reduceLT, Int.reduceMul, Int.reduceAdd, Int.reduceSub, Int.reduceNeg, Bool.not_true, Bool.not_false, Bool.not_not, ↓reduceIte, Nat.reduceAdd, Nat.reduceSub, Nat.reduceMul, Nat.reduceEqDiff, reduceCtorEq, Nat.reduceLT, Nat.reduceLeDiff, Nat.reduceGT]); (try any_goals (refine ⟨?_, ?_⟩)); (try any_goals (with_reducible rfl))))
        · exact fun x hx => ((entV_if4 x).1 (hJ.val x hx)).1
        · simp [frObH, frObC, frOb, frObL]
    · exact ⟨J42.zero most, Nat.zero_le _⟩
    · (focus (refine ⟨_, _, Gh.refl, [0, 1], rfl, ?_⟩; (refine ⟨?_, ?_, ?_⟩ <;> simp only [go_sem, List.range, List.range.loop, List.nodup_cons, List.nodup_nil, List.mem_cons, List.not_mem_nil, or_false, or_self, decide_true, decide_false, Int.reduceToNat, Nat.min_eq_left, Nat.min_eq_right, Int.reducePow, Nat.reducePow, Int.reduceLE, Int.reduceLT, Int.reduceMul, Int.reduceAdd, Int.reduceSub, Int.reduceNeg, Bool.not_true, Bool.not_false, Bool.not_not, ↓reduceIte, Nat.reduceAdd, Nat.reduceSub, Nat.reduceMul, Nat.reduceEqDiff, reduceCtorEq, Nat.reduceLT, Nat.reduceLeDiff, Nat.reduceGT]); (try any_goals (refine ⟨?_, ?_⟩)); (try any_goals (with_reducible rfl))))
      · rfl
      · exact ⟨rfl, rfl, rfl, rfl⟩
end Go.V

set_option maxRecDepth 100000
set_option maxHeartbeats 8000000
namespace Go.V
open Go.Proofs
theorem b_okN : DoesK Try.prog 0 36 [.lit (.pointer none)] [] (EndF 0 (.bool false) []) := by
  refine DoesK.close ?_
  refine w_body (rs := [.tmp 2]) (tm := [.lit (.pointer none), .any, .any, .any, .any, .any, .any, .any, .any, .any, .any]) fn_36 rfl rfl rfl rfl fun R hR => ?_
  (all_goals (try ((first | (with_reducible refine wp_id ?_) | (with_reducible refine does_id ?_) | (with_reducible refine ops_id ?_)); refine walk ?_; (repeat' (first | exact trivial | with_reducible refine And.intro ?_ ?_)); all_goals (repeat (first | (with_reducible refine ImpB.mk fun hb => ?_) | (with_reducible refine ImpK.mk fun hK => ?_) | (with_reducible refine ImpF.mk fun hF => ?_) | (with_reducible refine ImpQ.mk fun hp => ?_) | (with_reducible refine AllE.mk fun p => ?_) | (with_reducible refine AllR.mk fun rest => ?_) | (with_reducible refine AllK.mk fun K => ?_))))); repeat' (with_reducible refine And.intro ?_ ?_))
  (focus (refine ⟨_, _, Gh.refl, [], rfl, ?_⟩; (refine ⟨?_, ?_, ?_⟩ <;> simp only [go_sem, List.range, List.range.loop, List.nodup_cons, List.nodup_nil, List.mem_cons, List.not_mem_nil, or_false, or_self, decide_true, decide_false, Int.reduceToNat, Nat.min_eq_left, Nat.min_eq_right, Int.reducePow, Nat.reducePow, Int.reduceLE, Int.reduceLT, Int.reduceMul, Int.reduceAdd, Int.reduceSub, Int.reduceNeg, Bool.not_true, Bool.not_false, Bool.not_not, ↓reduceIte, Nat.reduceAdd, Nat.reduceSub, Nat.reduceMul, Nat.reduceEqDiff, reduceCtorEq, Nat.reduceLT, Nat.reduceLeDiff, Nat.reduceGT]); (try any_goals (refine ⟨?_, ?_⟩)); (try any_goals (with_reducible rfl))))
theorem c_okN {h : List Ch} {K : KT} (H : K (.bool false) h) : Does Try.prog 36 [.lit (.pointer none)] h K :=
  frame_pure b_okN (br_cons br_lit br_nil) (.inl rfl) (fun _ => rfl) H
abbrev i_okN := Ctr.mk (i := 1) (g := 36) @c_okN
attribute [instance] i_okN
theorem b_entsN : DoesK Try.prog 0 16 [.lit (.pointer none)] [] (EndF 0 (.lit (.slice none 0 0)) []) := by
  refine DoesK.close ?_
  refine w_body (rs := [.tmp 2]) (tm := [.lit (.pointer none), .any, .any, .any, .any, .any, .any, .any, .any, .any, .any, .any, .any, .any, .any, .any, .any, .any, .any, .any, .any, .any, .any, .any, .any, .any, .any, .any]) fn_16 rfl rfl rfl rfl fun R hR => ?_
  (all_goals (try ((first | (with_reducible refine wp_id ?_) | (with_reducible refine does_id ?_) | (with_reducible refine ops_id ?_)); refine walk ?_; (repeat' (first | exact trivial | with_reducible refine And.intro ?_ ?_)); all_goals (repeat (first | (with_reducible refine ImpB.mk fun hb => ?_) | (with_reducible refine ImpK.mk fun hK => ?_) | (with_reducible refine ImpF.mk fun hF => ?_) | (with_reducible refine ImpQ.mk fun hp => ?_) | (with_reducible refine AllE.mk fun p => ?_) | (with_reducible refine AllR.mk fun rest => ?_) | (with_reducible refine AllK.mk fun K => ?_))))); repeat' (with_reducible refine And.intro ?_ ?_))
  (focus (refine ⟨_, _, Gh.refl, [], rfl, ?_⟩; (refine ⟨?_, ?_, ?_⟩ <;> simp only [go_sem, List.range, List.range.loop, List.nodup_cons, List.nodup_nil, List.mem_cons, List.not_mem_nil, or_false, or_self, decide_true, decide_false, Int.reduceToNat, Nat.min_eq_left, Nat.min_eq_right, Int.reducePow, Nat.reducePow, Int.reduceLE, Int.reduceLT, Int.reduceMul, Int.reduceAdd, Int.reduceSub, Int.reduceNeg, Bool.not_true, Bool.not_false, Bool.not_not, ↓reduceIte, Nat.reduceAdd, Nat.reduceSub, Nat.reduceMul, Nat.reduceEqDiff, reduceCtorEq, Nat.reduceLT, Nat.reduceLeDiff, Nat.reduceGT]); (try any_goals (refine ⟨?_, ?_⟩)); (try any_goals (with_reducible rfl))))
theorem c_entsN {h : List Ch} {K : KT} (H : K (.lit (.slice none 0 0)) h) : Does Try.prog 16 [.lit (.pointer none)] h K :=
  frame_pure b_entsN (br_cons br_lit br_nil) (.inl rfl) (fun _ => rfl) H
abbrev i_entsN := Ctr.mk (i := 2) (g := 16) @c_entsN
attribute [instance] i_entsN
end Go.V
