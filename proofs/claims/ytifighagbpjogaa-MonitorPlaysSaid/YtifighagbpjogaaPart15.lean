/-
  monitor: find and State of a service with one limit; ref36.Same.
  What holds of the example of chapter 36.
  monitor: the delta.
  monitor.New of one delta.
  Memories of symbolic size: loops and ends (out of chapter 52's texts).
  monitor: a service of any number of monitors, as it lies.
  monitor: what Check and Enable do, and the chain of transitions (plain).
-/
import Derived.Test.YtifighagbpjogaaPart14
set_option linter.unusedVariables false
set_option linter.unusedSimpArgs false
set_option maxRecDepth 100000
set_option maxHeartbeats 8000000
namespace Go.V
open Go.Proofs
theorem k_eqId {n0 : Nat} {h : List Ch} {K : KT} {e q : Nat} {id pa kd lo hi rep ev sev st res run i : Int} (o : hth h e = .cells (enL id pa kd lo hi rep ev sev st res run)) (o1 : hth h q = .cells [.int .i64 i]) (H : K (.bool (decide (id = i))) h) : DoesK Try.prog n0 44 [.ptr e 0, .ptr q 0] h K := by
  refine w_body (rs := [.tmp 3]) (tm := [.ptr e 0, .ptr q 0, .any, .any, .any, .any, .any, .any, .any, .any, .any]) fn_44 rfl rfl rfl rfl fun R hR => ?_
  (have zx1 := @o; have zx2 := @o1; all_goals (try ((with_reducible first | refine wp_id ?_ | refine does_id ?_ | refine ops_id ?_); refine walk ?_; (repeat' (first | exact trivial | with_reducible refine And.intro ?_ ?_)); all_goals (repeat with_reducible first | refine ImpB.mk fun hb => ?_ | refine ImpK.mk fun hK => ?_ | refine ImpF.mk fun hF => ?_ | refine ImpQ.mk fun hp => ?_ | refine AllE.mk fun p => ?_ | refine AllR.mk fun rest => ?_ | refine AllK.mk fun K => ?_))); repeat' (with_reducible refine And.intro ?_ ?_))
  exact H
theorem c_eqId {h : List Ch} {K : KT} {e q : Nat} {id pa kd lo hi rep ev sev st res run i : Int} (H : K (.bool (decide (id = i))) h) (o : hth h e = .cells (enL id pa kd lo hi rep ev sev st res run)) (o1 : hth h q = .cells [.int .i64 i]) : Does Try.prog 44 [.ptr e 0, .ptr q 0] h K := Does.of_K (k_eqId o o1 H)
abbrev i_eqId := Ctr.mk (i := 0) (g := 44) @c_eqId
attribute [instance] i_eqId
theorem k_ixf1 {n0 : Nat} {h : List Ch} {K : KT} {v e q : Nat} {id pa kd lo hi rep ev sev st res run i : Int} (o : hth h v = .crow [.ptr e 0]) (o1 : hth h e = .cells (enL id pa kd lo hi rep ev sev st res run)) (o2 : hth h q = .cells [.int .i64 i]) (H : K (.int .i64 (if id = i then 0 else -1)) h) : DoesK Try.prog n0 43 [.csl v 1 1, .fn 44 [.ptr q 0]] h K := by
  refine w_body (rs := [.tmp 4]) (tm := [.csl v 1 1, .fn 44 [.ptr q 0], .any, .any, .any, .any, .any, .any, .any, .any, .any, .any, .any, .any, .any, .any, .any, .any, .any]) fn_43 rfl rfl rfl rfl fun R hR => ?_
  (all_goals (try ((with_reducible first | refine wp_id ?_ | refine does_id ?_ | refine ops_id ?_); refine walk ?_; (repeat' (first | exact trivial | with_reducible refine And.intro ?_ ?_)); all_goals (repeat with_reducible first | refine ImpB.mk fun hb => ?_ | refine ImpK.mk fun hK => ?_ | refine ImpF.mk fun hF => ?_ | refine ImpQ.mk fun hp => ?_ | refine AllE.mk fun p => ?_ | refine AllR.mk fun rest => ?_ | refine AllK.mk fun K => ?_))); repeat' (with_reducible refine And.intro ?_ ?_))
  any_goals ((try (refine w_seq fun K hK => ?_)); (try (refine w_block ?_)); refine w_loopS (A := Nat) (fun k => k ≤ 1 ∧ (k = 1 → ¬ id = i)) (fun k => 1 - k) (fun k => [(8, .int .i64 k)]) (0) (ws := ?ws2) (tk := ?tk2) ?hw2 ?ht2 ?hi ?h0 ?LH2; (case hw2 => simp only [go_sem, decide_true, decide_false, Int.reduceToNat, Nat.min_eq_left, Nat.min_eq_right, Int.reducePow, Nat.reducePow, Int.reduceLE, Int.reduceLT, Int.reduceMul, Int.reduceAdd, Int.reduceSub, Int.reduceNeg, Bool.not_true, Bool.not_false, Bool.not_not, ↓reduceIte, Nat.reduceAdd, Nat.reduceSub, Nat.reduceMul, Nat.reduceEqDiff, reduceCtorEq, Nat.reduceLT, Nat.reduceLeDiff, Nat.reduceGT]; exact rfl); (case ht2 => simp only [go_sem, decide_true, decide_false, Int.reduceToNat, Nat.min_eq_left, Nat.min_eq_right, Int.reducePow, Nat.reducePow, Int.reduceLE, Int.reduceLT, Int.reduceMul, Int.reduceAdd, Int.reduceSub, Int.reduceNeg, Bool.not_true, Bool.not_false, Bool.not_not, ↓reduceIte, Nat.reduceAdd, Nat.reduceSub, Nat.reduceMul, Nat.reduceEqDiff, reduceCtorEq, Nat.reduceLT, Nat.reduceLeDiff, Nat.reduceGT]; exact rfl); (case' LH2 => rintro k E t hx hE ht; simp only [go_sem] at ht; subst ht; simp only [go_sem]; try dsimp only at hx))
  case hi => exact ⟨Nat.zero_le _, fun q => by cases q⟩
  case h0 => (focus (simp only [go_sem]; (repeat' (first | exact sub_nil | refine sub_cons ?_ ?_)); (any_goals (first | exact .inl rfl | exact .inr rfl)); (try any_goals (refine .inr ?_)); (try any_goals (refine congrArg _ ?_))))
  case LH2 =>
    obtain ⟨hk0, hne⟩ := hx
    by_cases hk : k = 0
    · subst hk
      have hkd : decide (((0 : Nat) : Int) < 1) = true := by decide
      have hw : IntKind.i64.wrap 1 = ((1 : Nat) : Int) := by decide
      (have zx1 := @hkd; have zx2 := @hw; have zx3 := @o; have zx4 := @o1; have zx5 := @o2; all_goals (try ((with_reducible first | refine wp_id ?_ | refine does_id ?_ | refine ops_id ?_); refine walk ?_; (repeat' (first | exact trivial | with_reducible refine And.intro ?_ ?_)); all_goals (repeat with_reducible first | refine ImpB.mk fun hb => ?_ | refine ImpK.mk fun hK => ?_ | refine ImpF.mk fun hF => ?_ | refine ImpQ.mk fun hp => ?_ | refine AllE.mk fun p => ?_ | refine AllR.mk fun rest => ?_ | refine AllK.mk fun K => ?_))); repeat' (with_reducible refine And.intro ?_ ?_))
      · rw [if_pos (of_decide_eq_true hb)] at H
        exact H
      · refine ⟨1, ⟨⟨by first | omega | (dsimp only; omega), fun _ => of_decide_eq_false hb⟩, by first | omega | (dsimp only; omega)⟩, ?_, rfl⟩
        (focus (simp only [go_sem]; (repeat' (first | exact sub_nil | refine sub_cons ?_ ?_)); (any_goals (first | exact .inl rfl | exact .inr rfl)); (try any_goals (refine .inr ?_)); (try any_goals (refine congrArg _ ?_))))
    · obtain rfl : k = 1 := by omega
      have hkd : decide (((1 : Nat) : Int) < 1) = false := by decide
      rw [if_neg (hne rfl)] at H
      (have zx1 := @hkd; all_goals (try ((with_reducible first | refine wp_id ?_ | refine does_id ?_ | refine ops_id ?_); refine walk ?_; (repeat' (first | exact trivial | with_reducible refine And.intro ?_ ?_)); all_goals (repeat with_reducible first | refine ImpB.mk fun hb => ?_ | refine ImpK.mk fun hK => ?_ | refine ImpF.mk fun hF => ?_ | refine ImpQ.mk fun hp => ?_ | refine AllE.mk fun p => ?_ | refine AllR.mk fun rest => ?_ | refine AllK.mk fun K => ?_))); repeat' (with_reducible refine And.intro ?_ ?_))
      exact H
theorem c_ixf1 {h : List Ch} {K : KT} {v e q : Nat} {id pa kd lo hi rep ev sev st res run i : Int} (H : K (.int .i64 (if id = i then 0 else -1)) h) (o : hth h v = .crow [.ptr e 0]) (o1 : hth h e = .cells (enL id pa kd lo hi rep ev sev st res run)) (o2 : hth h q = .cells [.int .i64 i]) : Does Try.prog 43 [.csl v 1 1, .fn 44 [.ptr q 0]] h K := Does.of_K (k_ixf1 o o1 o2 H)
abbrev i_ixf1 := Ctr.mk (i := 0) (g := 43) @c_ixf1
attribute [instance] i_ixf1
theorem k_findL {n0 : Nat} {K : KT} {id pa kd lo hi rep ev sev st res run now i : Int} (H1 : id = i → K (.ptr 2 0) [.cells [.bool true, .int .i64 now, .csl 1 1 1], .crow [.ptr 2 0], .cells (enL id pa kd lo hi rep ev sev st res run), .cells [.int .i64 i]]) (H2 : ¬ id = i → K (.lit (.pointer none)) [.cells [.bool true, .int .i64 now, .csl 1 1 1], .crow [.ptr 2 0], .cells (enL id pa kd lo hi rep ev sev st res run), .cells [.int .i64 i]]) :
    DoesK Try.prog n0 31 [.ptr 0 0, .int .i64 i] [.cells [.bool true, .int .i64 now, .csl 1 1 1], .crow [.ptr 2 0], .cells (enL id pa kd lo hi rep ev sev st res run)] K := by
  by_cases c : id = i
  · have H := H1 c
    have hi : (if id = i then (0 : Int) else -1) = 0 := if_pos c
    refine w_body (rs := [.tmp 4]) (tm := [.ptr 0 0, .int .i64 i, .any, .any, .any, .any, .any, .any, .any, .any, .any, .any, .any, .any, .any, .any, .any, .any, .any, .any, .any, .any, .any, .any, .any, .any, .any, .any, .any, .any]) fn_31 rfl rfl rfl rfl fun R hR => ?_
    (have zx1 := @hi; all_goals (try ((with_reducible first | refine wp_id ?_ | refine does_id ?_ | refine ops_id ?_); refine walk ?_; (repeat' (first | exact trivial | with_reducible refine And.intro ?_ ?_)); all_goals (repeat with_reducible first | refine ImpB.mk fun hb => ?_ | refine ImpK.mk fun hK => ?_ | refine ImpF.mk fun hF => ?_ | refine ImpQ.mk fun hp => ?_ | refine AllE.mk fun p => ?_ | refine AllR.mk fun rest => ?_ | refine AllK.mk fun K => ?_))); repeat' (with_reducible refine And.intro ?_ ?_))
    exact H
  · have H := H2 c
    have hi : (if id = i then (0 : Int) else -1) = -1 := if_neg c
    refine w_body (rs := [.tmp 4]) (tm := [.ptr 0 0, .int .i64 i, .any, .any, .any, .any, .any, .any, .any, .any, .any, .any, .any, .any, .any, .any, .any, .any, .any, .any, .any, .any, .any, .any, .any, .any, .any, .any, .any, .any]) fn_31 rfl rfl rfl rfl fun R hR => ?_
    (have zx1 := @hi; all_goals (try ((with_reducible first | refine wp_id ?_ | refine does_id ?_ | refine ops_id ?_); refine walk ?_; (repeat' (first | exact trivial | with_reducible refine And.intro ?_ ?_)); all_goals (repeat with_reducible first | refine ImpB.mk fun hb => ?_ | refine ImpK.mk fun hK => ?_ | refine ImpF.mk fun hF => ?_ | refine ImpQ.mk fun hp => ?_ | refine AllE.mk fun p => ?_ | refine AllR.mk fun rest => ?_ | refine AllK.mk fun K => ?_))); repeat' (with_reducible refine And.intro ?_ ?_))
    exact H
theorem c_findL {K : KT} {id pa kd lo hi rep ev sev st res run now i : Int} (H : (id = i → K (.ptr 2 0) [.cells [.bool true, .int .i64 now, .csl 1 1 1], .crow [.ptr 2 0], .cells (enL id pa kd lo hi rep ev sev st res run), .cells [.int .i64 i]]) ∧ (¬ id = i → K (.lit (.pointer none)) [.cells [.bool true, .int .i64 now, .csl 1 1 1], .crow [.ptr 2 0], .cells (enL id pa kd lo hi rep ev sev st res run), .cells [.int .i64 i]])) : Does Try.prog 31 [.ptr 0 0, .int .i64 i] [.cells [.bool true, .int .i64 now, .csl 1 1 1], .crow [.ptr 2 0], .cells (enL id pa kd lo hi rep ev sev st res run)] K := -- nocall
  Does.of_K (k_findL H.1 H.2)
theorem c_findT {K : KT} {id pa kd lo hi rep ev sev st res run now i : Int} (H : K (.ptr 2 0) [.cells [.bool true, .int .i64 now, .csl 1 1 1], .crow [.ptr 2 0], .cells (enL id pa kd lo hi rep ev sev st res run), .cells [.int .i64 i]]) (e1 : id = i) : Does Try.prog 31 [.ptr 0 0, .int .i64 i] [.cells [.bool true, .int .i64 now, .csl 1 1 1], .crow [.ptr 2 0], .cells (enL id pa kd lo hi rep ev sev st res run)] K := c_findL ⟨fun _ => H, fun q => absurd e1 q⟩
abbrev i_findT := Ctr.mk (i := 0) (g := 31) @c_findT
attribute [instance] i_findT
theorem c_findF {K : KT} {id pa kd lo hi rep ev sev st res run now i : Int} (H : K (.lit (.pointer none)) [.cells [.bool true, .int .i64 now, .csl 1 1 1], .crow [.ptr 2 0], .cells (enL id pa kd lo hi rep ev sev st res run), .cells [.int .i64 i]]) (e1 : ¬ id = i) : Does Try.prog 31 [.ptr 0 0, .int .i64 i] [.cells [.bool true, .int .i64 now, .csl 1 1 1], .crow [.ptr 2 0], .cells (enL id pa kd lo hi rep ev sev st res run)] K := c_findL ⟨fun q => absurd q e1, fun _ => H⟩
abbrev i_findF := Ctr.mk (i := 1) (g := 31) @c_findF
attribute [instance] i_findF
theorem b_stateL (now id pa kd lo hi rep ev sev st res run i : Int) : DoesK Try.prog 1 13 [.ptr 0 0, .int .i64 i] [.pack (SL now ⟨id, pa, kd, lo, hi, rep, ev, sev⟩ false st res run)] (EndF 1 (.int .i64 (if id = i then st else 0)) ([.pack (SL now ⟨id, pa, kd, lo, hi, rep, ev, sev⟩ false st res run)] ++ [])) := by
  refine DoesK.close ?_
  by_cases c : id = i
  · rw [if_pos c]
    refine w_body (rs := [.tmp 4]) (tm := [.ptr 0 0, .int .i64 i, .any, .any, .any, .any, .any, .any, .any, .any, .any, .any, .any, .any, .any]) fn_13 rfl rfl rfl rfl fun R hR => ?_
    refine w_open 0 rfl rfl ?_
    simp only [go_sem, decide_true, decide_false, Int.reduceToNat, Nat.min_eq_left, Nat.min_eq_right, Int.reducePow, Nat.reducePow, Int.reduceLE, Int.reduceLT, Int.reduceMul, Int.reduceAdd, Int.reduceSub, Int.reduceNeg, Bool.not_true, Bool.not_false, Bool.not_not, ↓reduceIte, Nat.reduceAdd, Nat.reduceSub, Nat.reduceMul, Nat.reduceEqDiff, reduceCtorEq, Nat.reduceLT, Nat.reduceLeDiff, Nat.reduceGT]
    (all_goals (try ((with_reducible first | refine wp_id ?_ | refine does_id ?_ | refine ops_id ?_); refine walk ?_; (repeat' (first | exact trivial | with_reducible refine And.intro ?_ ?_)); all_goals (repeat with_reducible first | refine ImpB.mk fun hb => ?_ | refine ImpK.mk fun hK => ?_ | refine ImpF.mk fun hF => ?_ | refine ImpQ.mk fun hp => ?_ | refine AllE.mk fun p => ?_ | refine AllR.mk fun rest => ?_ | refine AllK.mk fun K => ?_))); repeat' (with_reducible refine And.intro ?_ ?_))
    (focus (refine ⟨_, _, gh_close (t := 0) (ts := [1, 2]) (l := SL now ⟨id, pa, kd, lo, hi, rep, ev, sev⟩ false st res run) ⟨⟨_, _, rfl⟩, ?_, by simp⟩, [0], rfl, ?_⟩; all_goals (refine fitq ?_ ?_ ?_ <;> try exact trivial); (try any_goals (refine ⟨?_, ?_⟩)); (try any_goals (with_reducible rfl))))
    all_goals (repeat' (first | (refine And.intro ?_ ?_) | rfl))
  · rw [if_neg c]
    refine w_body (rs := [.tmp 4]) (tm := [.ptr 0 0, .int .i64 i, .any, .any, .any, .any, .any, .any, .any, .any, .any, .any, .any, .any, .any]) fn_13 rfl rfl rfl rfl fun R hR => ?_
    refine w_open 0 rfl rfl ?_
    simp only [go_sem, decide_true, decide_false, Int.reduceToNat, Nat.min_eq_left, Nat.min_eq_right, Int.reducePow, Nat.reducePow, Int.reduceLE, Int.reduceLT, Int.reduceMul, Int.reduceAdd, Int.reduceSub, Int.reduceNeg, Bool.not_true, Bool.not_false, Bool.not_not, ↓reduceIte, Nat.reduceAdd, Nat.reduceSub, Nat.reduceMul, Nat.reduceEqDiff, reduceCtorEq, Nat.reduceLT, Nat.reduceLeDiff, Nat.reduceGT]
    (all_goals (try ((with_reducible first | refine wp_id ?_ | refine does_id ?_ | refine ops_id ?_); refine walk ?_; (repeat' (first | exact trivial | with_reducible refine And.intro ?_ ?_)); all_goals (repeat with_reducible first | refine ImpB.mk fun hb => ?_ | refine ImpK.mk fun hK => ?_ | refine ImpF.mk fun hF => ?_ | refine ImpQ.mk fun hp => ?_ | refine AllE.mk fun p => ?_ | refine AllR.mk fun rest => ?_ | refine AllK.mk fun K => ?_))); repeat' (with_reducible refine And.intro ?_ ?_))
    (focus (refine ⟨_, _, gh_close (t := 0) (ts := [1, 2]) (l := SL now ⟨id, pa, kd, lo, hi, rep, ev, sev⟩ false st res run) ⟨⟨_, _, rfl⟩, ?_, by simp⟩, [0], rfl, ?_⟩; all_goals (refine fitq ?_ ?_ ?_ <;> try exact trivial); (try any_goals (refine ⟨?_, ?_⟩)); (try any_goals (with_reducible rfl))))
    all_goals (repeat' (first | (refine And.intro ?_ ?_) | rfl))
theorem c_stateL {h : List Ch} {K : KT} {u : Nat} {now id pa kd lo hi rep ev sev st res run i : Int} (H : K (.int .i64 (if id = i then st else 0)) h) (o : hth h u = .pack (SL now ⟨id, pa, kd, lo, hi, rep, ev, sev⟩ false st res run)) : Does Try.prog 13 [.ptr u 0, .int .i64 i] h K :=
  frame_look (b_stateL now id pa kd lo hi rep ev sev st res run i) o (by simp) (fitC_pack _) (br_cons (br_ptr rfl) (br_cons br_int br_nil)) (.inl rfl) (fun _ => rfl) rfl H
abbrev i_stateL := Ctr.mk (i := 0) (g := 13) @c_stateL
attribute [instance] i_stateL
theorem tra_ext {x y : Tra} : x = y ↔ (x.time = y.time ∧ x.mon = y.mon ∧ x.fr = y.fr ∧ x.tt = y.tt ∧ x.val = y.val) := by
  constructor
  · rintro rfl; exact ⟨rfl, rfl, rfl, rfl, rfl⟩
  · rintro ⟨h1, h2, h3, h4, h5⟩
    cases x; cases y
    simp only at h1 h2 h3 h4 h5
    subst h1; subst h2; subst h3; subst h4; subst h5
    rfl
theorem tra_dec (x y : Tra) : (decide (x.time = y.time) && (decide (x.mon = y.mon) && (decide (x.fr = y.fr) && (decide (x.tt = y.tt) && (decide (x.val = y.val) && true))))) = decide (x = y) := by
  rw [Bool.eq_iff_iff]
  simp only [Bool.and_eq_true, decide_eq_true_eq, Bool.and_true]
  rw [tra_ext]
theorem tral_ext {a b : List Tra} (hl : a.length = b.length) (h : ∀ j, j < a.length → a.getD j Tra.zero = b.getD j Tra.zero) : a = b := by
  apply List.ext_getElem hl
  intro j h1 h2
  have := h j h1
  rw [List.getD_eq_getElem?_getD, List.getD_eq_getElem?_getD, List.getElem?_eq_getElem h1, List.getElem?_eq_getElem h2] at this
  exact this
theorem b_tsame (a b : List Tra) (ha : a.length ≤ 9223372036854775807) : DoesK Try.prog 0 17 [.ro .tra a, .ro .tra b] [] (EndF 0 (.bool (decide (a = b))) []) := by
  refine DoesK.close ?_
  by_cases hl : a.length = b.length
  · have d1 : decide (¬ (a.length : Int) = b.length) = false := decide_eq_false (by omega)
    refine w_body (rs := [.tmp 4]) (tm := [.ro .tra a, .ro .tra b, .any, .any, .any, .any, .any, .any, .any, .any, .any, .any, .any, .any, .any, .any, .any, .any, .any, .any, .any, .any, .any, .any, .any, .any]) fn_17 rfl rfl rfl rfl fun R hR => ?_
    (have zx1 := @d1; all_goals (try ((with_reducible first | refine wp_id ?_ | refine does_id ?_ | refine ops_id ?_); refine walk ?_; (repeat' (first | exact trivial | with_reducible refine And.intro ?_ ?_)); all_goals (repeat with_reducible first | refine ImpB.mk fun hb => ?_ | refine ImpK.mk fun hK => ?_ | refine ImpF.mk fun hF => ?_ | refine ImpQ.mk fun hp => ?_ | refine AllE.mk fun p => ?_ | refine AllR.mk fun rest => ?_ | refine AllK.mk fun K => ?_))); repeat' (with_reducible refine And.intro ?_ ?_))
    any_goals ((try (refine w_seq fun K hK => ?_)); (try (refine w_block ?_)); refine w_loop (A := Nat) (fun k => k ≤ a.length ∧ (∀ j, j < k → a.getD j Tra.zero = b.getD j Tra.zero)) (fun k => a.length - k) (fun k => [(5, .int .i64 k)]) (fun _ => []) (0) (ws := ?ws1) (tk := ?tk1) ?hw1 ?ht1 ?hi ?h0 ?LH1; (case hw1 => simp only [go_sem, decide_true, decide_false, Int.reduceToNat, Nat.min_eq_left, Nat.min_eq_right, Int.reducePow, Nat.reducePow, Int.reduceLE, Int.reduceLT, Int.reduceMul, Int.reduceAdd, Int.reduceSub, Int.reduceNeg, Bool.not_true, Bool.not_false, Bool.not_not, ↓reduceIte, Nat.reduceAdd, Nat.reduceSub, Nat.reduceMul, Nat.reduceEqDiff, reduceCtorEq, Nat.reduceLT, Nat.reduceLeDiff, Nat.reduceGT]; exact rfl); (case ht1 => simp only [go_sem, decide_true, decide_false, Int.reduceToNat, Nat.min_eq_left, Nat.min_eq_right, Int.reducePow, Nat.reducePow, Int.reduceLE, Int.reduceLT, Int.reduceMul, Int.reduceAdd, Int.reduceSub, Int.reduceNeg, Bool.not_true, Bool.not_false, Bool.not_not, ↓reduceIte, Nat.reduceAdd, Nat.reduceSub, Nat.reduceMul, Nat.reduceEqDiff, reduceCtorEq, Nat.reduceLT, Nat.reduceLeDiff, Nat.reduceGT]; exact rfl); (case' LH1 => rintro k E t hx hE ht; simp only [go_sem] at ht; subst ht; simp only [go_sem]; try dsimp only at hx))
    case hi => exact ⟨Nat.zero_le _, fun j hj => by omega⟩
    case h0 => (focus (refine ⟨_, _, Gh.refl, [], rfl, ?_⟩; (refine fitq ?_ ?_ ?_ <;> try exact trivial); (try any_goals (refine ⟨?_, ?_⟩)); (try any_goals (with_reducible rfl))))
    case LH1 =>
      obtain ⟨hk0, hal⟩ := hx
      by_cases hk : k < a.length
      · have hkd : decide ((k : Int) < a.length) = true := decide_eq_true (by omega)
        have hw : IntKind.i64.wrap ((k : Int) + 1) = ((k + 1 : Nat) : Int) := by rw [wrap_i64 _ (by omega) (by omega)]; omega
        have hkb : (k : Int) < b.length := by omega
        obtain ⟨x, hxe⟩ : ∃ x, a.getD k Tra.zero = x := ⟨_, rfl⟩
        obtain ⟨y, hye⟩ : ∃ y, b.getD k Tra.zero = y := ⟨_, rfl⟩
        have hxy := tra_dec x y
        by_cases he : x = y
        · have hed : decide (x = y) = true := decide_eq_true he
          (have zx1 := @hkd; have zx2 := @hw; have zx3 := @hxe; have zx4 := @hye; have zx5 := @hxy; have zx6 := @hed; all_goals (try ((with_reducible first | refine wp_id ?_ | refine does_id ?_ | refine ops_id ?_); refine walk ?_; (repeat' (first | exact trivial | with_reducible refine And.intro ?_ ?_)); all_goals (repeat with_reducible first | refine ImpB.mk fun hb => ?_ | refine ImpK.mk fun hK => ?_ | refine ImpF.mk fun hF => ?_ | refine ImpQ.mk fun hp => ?_ | refine AllE.mk fun p => ?_ | refine AllR.mk fun rest => ?_ | refine AllK.mk fun K => ?_))); repeat' (with_reducible refine And.intro ?_ ?_))
          all_goals first | (show _ ≤ (_ : Int); omega) | (show _ < (_ : Int); omega) | skip
          refine ⟨k + 1, ⟨⟨by first | omega | (dsimp only; omega), fun j hj => ?_⟩, by first | omega | (dsimp only; omega)⟩, ?_⟩
          · by_cases hjk : j < k
            · exact hal j hjk
            · obtain rfl : j = k := by omega
              rw [hxe, hye]; exact he
          (focus (refine ⟨_, _, Gh.refl, [], rfl, ?_⟩; (refine fitq ?_ ?_ ?_ <;> try exact trivial); (try any_goals (refine ⟨?_, ?_⟩)); (try any_goals (with_reducible rfl))))
          all_goals (repeat' (first | (refine And.intro ?_ ?_) | rfl))
        · have hed : decide (x = y) = false := decide_eq_false he
          (have zx1 := @hkd; have zx2 := @hw; have zx3 := @hxe; have zx4 := @hye; have zx5 := @hxy; have zx6 := @hed; all_goals (try ((with_reducible first | refine wp_id ?_ | refine does_id ?_ | refine ops_id ?_); refine walk ?_; (repeat' (first | exact trivial | with_reducible refine And.intro ?_ ?_)); all_goals (repeat with_reducible first | refine ImpB.mk fun hb => ?_ | refine ImpK.mk fun hK => ?_ | refine ImpF.mk fun hF => ?_ | refine ImpQ.mk fun hp => ?_ | refine AllE.mk fun p => ?_ | refine AllR.mk fun rest => ?_ | refine AllK.mk fun K => ?_))); repeat' (with_reducible refine And.intro ?_ ?_))
          all_goals first | (show _ ≤ (_ : Int); omega) | (show _ < (_ : Int); omega) | skip
          rw [decide_eq_false (p := a = b) (fun q => he (by rw [← hxe, ← hye, q]))]
          (focus (refine ⟨_, _, Gh.refl, [], rfl, ?_⟩; (refine fitq ?_ ?_ ?_ <;> try exact trivial); (try any_goals (refine ⟨?_, ?_⟩)); (try any_goals (with_reducible rfl))))
      · have hkd : decide ((k : Int) < a.length) = false := decide_eq_false (by omega)
        (have zx1 := @hkd; all_goals (try ((with_reducible first | refine wp_id ?_ | refine does_id ?_ | refine ops_id ?_); refine walk ?_; (repeat' (first | exact trivial | with_reducible refine And.intro ?_ ?_)); all_goals (repeat with_reducible first | refine ImpB.mk fun hb => ?_ | refine ImpK.mk fun hK => ?_ | refine ImpF.mk fun hF => ?_ | refine ImpQ.mk fun hp => ?_ | refine AllE.mk fun p => ?_ | refine AllR.mk fun rest => ?_ | refine AllK.mk fun K => ?_))); repeat' (with_reducible refine And.intro ?_ ?_))
        rw [decide_eq_true (tral_ext hl fun j hj => hal j (by omega))]
        (focus (refine ⟨_, _, Gh.refl, [], rfl, ?_⟩; (refine fitq ?_ ?_ ?_ <;> try exact trivial); (try any_goals (refine ⟨?_, ?_⟩)); (try any_goals (with_reducible rfl))))
  · have d1 : decide (¬ (a.length : Int) = b.length) = true := decide_eq_true (by omega)
    refine w_body (rs := [.tmp 4]) (tm := [.ro .tra a, .ro .tra b, .any, .any, .any, .any, .any, .any, .any, .any, .any, .any, .any, .any, .any, .any, .any, .any, .any, .any, .any, .any, .any, .any, .any, .any]) fn_17 rfl rfl rfl rfl fun R hR => ?_
    (have zx1 := @d1; all_goals (try ((with_reducible first | refine wp_id ?_ | refine does_id ?_ | refine ops_id ?_); refine walk ?_; (repeat' (first | exact trivial | with_reducible refine And.intro ?_ ?_)); all_goals (repeat with_reducible first | refine ImpB.mk fun hb => ?_ | refine ImpK.mk fun hK => ?_ | refine ImpF.mk fun hF => ?_ | refine ImpQ.mk fun hp => ?_ | refine AllE.mk fun p => ?_ | refine AllR.mk fun rest => ?_ | refine AllK.mk fun K => ?_))); repeat' (with_reducible refine And.intro ?_ ?_))
    rw [decide_eq_false (p := a = b) (fun q => hl (by rw [q]))]
    (focus (refine ⟨_, _, Gh.refl, [], rfl, ?_⟩; (refine fitq ?_ ?_ ?_ <;> try exact trivial); (try any_goals (refine ⟨?_, ?_⟩)); (try any_goals (with_reducible rfl))))
theorem c_tsame {h : List Ch} {K : KT} {a b : List Tra} {x y : AV} (H : K (.bool (decide (a = b))) h) (b1 : brA [] h (.ro .tra a) x) (b2 : brA [] h (.ro .tra b) y) (s1 : a.length ≤ 9223372036854775807) : Does Try.prog 17 [x, y] h K :=
  frame_pure (b_tsame a b s1) (br_cons b1 (br_cons b2 br_nil)) (.inr rfl) (fun _ => rfl) H
abbrev i_tsame := Ctr.mk (i := 0) (g := 17) @c_tsame
attribute [instance] i_tsame
end Go.V

set_option maxRecDepth 100000
set_option maxHeartbeats 8000000
namespace Go.V
open Go.Proofs
attribute [-go_sem] SL PL
abbrev aM : Mon := ⟨5, 1, 1, 10, 20, 2, 0, 1⟩
theorem aM_lim : isLim aM := ⟨by decide, by decide, by decide, by decide⟩
theorem aM_mon : isMon aM := ⟨by decide, by decide, by decide, by decide, by decide⟩
def aVs : List Int := [15, 15, 25, 15, 25, 25]
def aSt (k : Nat) : Int := [0, 0, 1, 1, 1, 1, 3].getD k 0
def aRs (k : Nat) : Int := [0, 1, 1, 3, 1, 3, 3].getD k 0
def aRn (k : Nat) : Int := [0, 1, 2, 1, 1, 1, 2].getD k 0
def aNw (k : Nat) : Int := [0, 0, 1, 2, 3, 4, 5].getD k 0
def aPv (k : Nat) : Int := [0, 15, 15, 25, 15, 25, 25].getD k 0
def aT (k : Nat) : Bool := [false, true, false, false, false, true].getD k false
def aO (k : Nat) : List Tra := if k < 2 then [] else if k < 6 then [⟨1, 5, 0, 1, 15⟩] else [⟨1, 5, 0, 1, 15⟩, ⟨5, 5, 1, 3, 25⟩]
theorem a_feed {k : Nat} (h : k < 6) : fdR 2 (aSt k) (aRs k) (aRn k) (rsL 10 20 (aPv (k + 1))) = (aT k, aSt (k + 1), aRs (k + 1), aRn (k + 1)) := by
  match k, h with
  | 0, _ => decide
  | 1, _ => decide
  | 2, _ => decide
  | 3, _ => decide
  | 4, _ => decide
  | 5, _ => decide
theorem a_now {k : Nat} (h : k < 6) : nowQ (aNw k) (k : Int) = aNw (k + 1) := by
  match k, h with
  | 0, _ => decide
  | 1, _ => decide
  | 2, _ => decide
  | 3, _ => decide
  | 4, _ => decide
  | 5, _ => decide
theorem a_out {k : Nat} (h : k < 6) : aO k ++ (if aT k then [(⟨aNw (k + 1), 5, aSt k, aSt (k + 1), aPv (k + 1)⟩ : Tra)] else []) = aO (k + 1) := by
  match k, h with
  | 0, _ => decide
  | 1, _ => decide
  | 2, _ => decide
  | 3, _ => decide
  | 4, _ => decide
  | 5, _ => decide
theorem a_val {k : Nat} (h : k < 6) : aVs.getD k 0 = aPv (k + 1) ∧ inS (aPv (k + 1)) = true ∧ 0 ≤ aRn k ∧ aRn k ≤ 1000000 ∧ (aO k).length ≤ 2 := by
  match k, h with
  | 0, _ => decide
  | 1, _ => decide
  | 2, _ => decide
  | 3, _ => decide
  | 4, _ => decide
  | 5, _ => decide
theorem b_alive : DoesK Try.prog 0 8 [] [] (EndF 0 (.bool true) []) := by
  refine DoesK.close ?_
  have hro : RoLit := .mk
  have hz : decide (¬ (0 : Int) = 0) = false := by decide
  have e1 := aM_lim
  have e2 := aM_mon
  refine w_body (rs := [.tmp 0]) (tm := [.any, .any, .any, .any, .any, .any, .any, .any, .any, .any, .any, .any, .any, .any, .any, .any, .any, .any, .any, .any, .any, .any, .any, .any, .any, .any, .any, .any, .any, .any, .any, .any, .any, .any, .any, .any, .any, .any, .any, .any, .any, .any, .any, .any, .any, .any, .any, .any, .any, .any, .any, .any, .any, .any]) fn_8 rfl rfl rfl rfl fun R hR => ?_
  (have zx1 := @hz; all_goals (try ((with_reducible first | refine wp_id ?_ | refine does_id ?_ | refine ops_id ?_); refine walk ?_; (repeat' (first | exact trivial | with_reducible refine And.intro ?_ ?_)); all_goals (repeat with_reducible first | refine ImpB.mk fun hb => ?_ | refine ImpK.mk fun hK => ?_ | refine ImpF.mk fun hF => ?_ | refine ImpQ.mk fun hp => ?_ | refine AllE.mk fun p => ?_ | refine AllR.mk fun rest => ?_ | refine AllK.mk fun K => ?_))); repeat' (with_reducible refine And.intro ?_ ?_))
  refine Wp.ghost (gh_adopt (s := 5) .tra trivial) ?_
  simp only [go_sem, decide_true, decide_false, Int.reduceToNat, Nat.min_eq_left, Nat.min_eq_right, Int.reducePow, Nat.reducePow, Int.reduceLE, Int.reduceLT, Int.reduceMul, Int.reduceAdd, Int.reduceSub, Int.reduceNeg, Bool.not_true, Bool.not_false, Bool.not_not, ↓reduceIte, Nat.reduceAdd, Nat.reduceSub, Nat.reduceMul, Nat.reduceEqDiff, reduceCtorEq, Nat.reduceLT, Nat.reduceLeDiff, Nat.reduceGT]
  any_goals ((try (refine w_seq fun K hK => ?_)); (try (refine w_block ?_)); refine w_loop (A := Nat) (fun k => k ≤ 6) (fun k => 6 - k) (fun k => [(7, .int .i64 k), (5, .sl 3 .tra 0 (aO k).length)]) (fun k => [(0, .pack (PO 0 (aPv k))), (2, .pack (SL (aNw k) aM false (aSt k) (aRs k) (aRn k))), (3, .rows .tra (aO k))]) (0) (ws := ?ws1) (tk := ?tk1) ?hw1 ?ht1 ?hi ?h0 ?LH1; (case hw1 => simp only [go_sem, decide_true, decide_false, Int.reduceToNat, Nat.min_eq_left, Nat.min_eq_right, Int.reducePow, Nat.reducePow, Int.reduceLE, Int.reduceLT, Int.reduceMul, Int.reduceAdd, Int.reduceSub, Int.reduceNeg, Bool.not_true, Bool.not_false, Bool.not_not, ↓reduceIte, Nat.reduceAdd, Nat.reduceSub, Nat.reduceMul, Nat.reduceEqDiff, reduceCtorEq, Nat.reduceLT, Nat.reduceLeDiff, Nat.reduceGT]; exact rfl); (case ht1 => simp only [go_sem, decide_true, decide_false, Int.reduceToNat, Nat.min_eq_left, Nat.min_eq_right, Int.reducePow, Nat.reducePow, Int.reduceLE, Int.reduceLT, Int.reduceMul, Int.reduceAdd, Int.reduceSub, Int.reduceNeg, Bool.not_true, Bool.not_false, Bool.not_not, ↓reduceIte, Nat.reduceAdd, Nat.reduceSub, Nat.reduceMul, Nat.reduceEqDiff, reduceCtorEq, Nat.reduceLT, Nat.reduceLeDiff, Nat.reduceGT]; exact rfl); (case' LH1 => rintro k E t hx hE ht; simp only [go_sem] at ht; subst ht; simp only [go_sem]; try dsimp only at hx))
  case hi => exact Nat.zero_le _
  case h0 =>
    (focus (refine ⟨_, _, Gh.refl, [0, 1, 2, 3], rfl, ?_⟩; (refine fitq ?_ ?_ ?_ <;> try exact trivial); (try any_goals (refine ⟨?_, ?_⟩)); (try any_goals (with_reducible rfl))))
    all_goals (repeat' (first | (refine And.intro ?_ ?_) | rfl))
  case LH1 =>
    have hk0 : k ≤ 6 := hx
    by_cases hk : k < 6
    · have hkd : decide ((k : Int) < ((6 : Nat) : Int)) = true := decide_eq_true (by omega)
      have hw : IntKind.i64.wrap ((k : Int) + 1) = ((k + 1 : Nat) : Int) := by rw [wrap_i64 _ (by omega) (by omega)]; omega
      obtain ⟨v1, v2, v3, v4, v5⟩ := a_val hk
      have f1 := a_feed hk
      have f2 := a_now hk
      have f3 := a_out hk
      obtain ⟨D, hD⟩ : ∃ D : List Tra, (if aT k then [(⟨aNw (k + 1), 5, aSt k, aSt (k + 1), aPv (k + 1)⟩ : Tra)] else []) = D := ⟨_, rfl⟩
      rw [hD] at f3
      have hDl : D.length ≤ 1 := by rw [← hD]; cases aT k <;> simp
      have hrn : 0 ≤ aRn k ∧ aRn k ≤ 1000000 := ⟨v3, v4⟩
      have hvv : ([15, 15, 25, 15, 25, 25] : List Int).getD k 0 = aPv (k + 1) := v1
      (have zx1 := @hkd; have zx2 := @hw; have zx3 := @hvv; have zx4 := @f2; have zx5 := @hD; all_goals (try ((with_reducible first | refine wp_id ?_ | refine does_id ?_ | refine ops_id ?_); refine walk ?_; (repeat' (first | exact trivial | with_reducible refine And.intro ?_ ?_)); all_goals (repeat with_reducible first | refine ImpB.mk fun hb => ?_ | refine ImpK.mk fun hK => ?_ | refine ImpF.mk fun hF => ?_ | refine ImpQ.mk fun hp => ?_ | refine AllE.mk fun p => ?_ | refine AllR.mk fun rest => ?_ | refine AllK.mk fun K => ?_))); repeat' (with_reducible refine And.intro ?_ ?_))
      all_goals try omega
      refine ⟨k + 1, ⟨(by omega : k + 1 ≤ 6), (by omega : 6 - (k + 1) < 6 - k)⟩, ?_⟩
      dsimp only
      rw [← f3, List.length_append]
      (focus (refine ⟨_, _, Gh.refl, [0, 1, 2, 4], rfl, ?_⟩; (refine fitq ?_ ?_ ?_ <;> try exact trivial); (try any_goals (refine ⟨?_, ?_⟩)); (try any_goals (with_reducible rfl))))
      all_goals trace_state
    · obtain rfl : k = 6 := by omega
      have hkd : decide (((6 : Nat) : Int) < ((6 : Nat) : Int)) = false := by decide
      have g1 : aSt 6 = 3 := rfl
      have g2 : aO 6 = [⟨1, 5, 0, 1, 15⟩, ⟨5, 5, 1, 3, 25⟩] := rfl
      have g3 : decide (aO 6 = [⟨1, 5, 0, 1, 15⟩, ⟨5, 5, 1, 3, 25⟩]) = true := by decide
      have g4 : decide (aSt 6 = 3) = true := by decide
      have g5 : decide ((if (5 : Int) = 6 then aSt 6 else 0) = 0) = true := by decide
      have g6 : (aO 6).length ≤ 9223372036854775807 := by decide
      (have zx1 := @hkd; have zx2 := @g3; have zx3 := @g4; have zx4 := @g5; all_goals (try ((with_reducible first | refine wp_id ?_ | refine does_id ?_ | refine ops_id ?_); refine walk ?_; (repeat' (first | exact trivial | with_reducible refine And.intro ?_ ?_)); all_goals (repeat with_reducible first | refine ImpB.mk fun hb => ?_ | refine ImpK.mk fun hK => ?_ | refine ImpF.mk fun hF => ?_ | refine ImpQ.mk fun hp => ?_ | refine AllE.mk fun p => ?_ | refine AllR.mk fun rest => ?_ | refine AllK.mk fun K => ?_))); repeat' (with_reducible refine And.intro ?_ ?_))
      all_goals first | exact g6 | skip
      (focus (refine ⟨_, _, Gh.refl, [], rfl, ?_⟩; (refine fitq ?_ ?_ ?_ <;> try exact trivial); (try any_goals (refine ⟨?_, ?_⟩)); (try any_goals (with_reducible rfl))))
      all_goals (repeat' (first | (refine And.intro ?_ ?_) | rfl))
theorem c_alive {h : List Ch} {K : KT} (H : K (.bool true) h) : Does Try.prog 8 [] h K :=
  frame_pure b_alive br_nil (.inl rfl) (fun _ => rfl) H
abbrev i_alive := Ctr.mk (i := 0) (g := 8) @c_alive
attribute [instance] i_alive
end Go.V

set_option maxRecDepth 100000
set_option maxHeartbeats 8000000
namespace Go.V
open Go.Proofs
attribute [-go_sem] SL PL
/-- the result of a delta -/
def rsD (most : Int) (bg : Bool) (last v : Int) : Int := if bg = true ∧ most < max v last - min v last then 4 else 1
abbrev enD (id pa kd lo hi rep ev sev : Int) (d : Nat) (st res run : Int) : List AV := [.int .i64 id, .int .i64 pa, .int .i64 kd, .int .i64 lo, .int .i64 hi, .int .i64 rep, .int .i64 ev, .int .i64 sev, .ifc 98 (.ptr d 0), .bool false, .int .i64 st, .int .i64 res, .int .i64 run]
abbrev dlL (most : Int) (bg : Bool) (last : Int) : List AV := [.int .i64 most, .bool bg, .int .i64 last]
/-- a delta that is right -/
structure isDel (m : Mon) : Prop where
  kind : m.kind = 3
  lo : m.low = 0
  hi : 0 ≤ m.high ∧ m.high ≤ 4294967296
theorem b_newD (m : Mon) (hm : isDel m) : DoesK Try.prog 0 23 [.agg (monL m)] [] (EndF 0 (.ifc 98 (.ptr 0 0)) [.cells (dlL m.high false 0)]) := by
  refine DoesK.close ?_
  obtain ⟨h1, h2, h3, h4⟩ := hm
  have d1 : decide (m.kind = 1) = false := decide_eq_false (by omega)
  have d2 : decide (m.kind = 2) = false := decide_eq_false (by omega)
  have d3 : decide (m.kind = 3) = true := decide_eq_true h1
  have d4 : decide (m.low = 0) = true := decide_eq_true h2
  have d5 : decide (0 ≤ m.high) = true := decide_eq_true h3
  have d6 : decide (m.high ≤ 4294967296) = true := decide_eq_true h4
  refine w_body (rs := [.tmp 2]) (tm := [.agg (monL m), .any, .any, .any, .any, .any, .any, .any, .any, .any, .any, .any, .any, .any, .any, .any, .any, .any, .any, .any, .any, .any, .any, .any, .any, .any, .any, .any, .any, .any, .any, .any, .any, .any, .any, .any, .any, .any, .any, .any, .any, .any, .any, .any, .any, .any, .any, .any, .any, .any, .any, .any, .any, .any, .any, .any, .any, .any, .any, .any, .any, .any, .any, .any, .any, .any, .any, .any, .any, .any, .any, .any, .any, .any, .any, .any]) fn_23 rfl rfl rfl rfl fun R hR => ?_
  (have zx1 := @d1; have zx2 := @d2; have zx3 := @d3; have zx4 := @d4; have zx5 := @d5; have zx6 := @d6; all_goals (try ((with_reducible first | refine wp_id ?_ | refine does_id ?_ | refine ops_id ?_); refine walk ?_; (repeat' (first | exact trivial | with_reducible refine And.intro ?_ ?_)); all_goals (repeat with_reducible first | refine ImpB.mk fun hb => ?_ | refine ImpK.mk fun hK => ?_ | refine ImpF.mk fun hF => ?_ | refine ImpQ.mk fun hp => ?_ | refine AllE.mk fun p => ?_ | refine AllR.mk fun rest => ?_ | refine AllK.mk fun K => ?_))); repeat' (with_reducible refine And.intro ?_ ?_))
  (focus (refine ⟨_, _, Gh.refl, [1], rfl, ?_⟩; (refine fitq ?_ ?_ ?_ <;> try exact trivial); (try any_goals (refine ⟨?_, ?_⟩)); (try any_goals (with_reducible rfl))))
  all_goals (repeat' (first | (refine And.intro ?_ ?_) | rfl))
theorem c_newD {h : List Ch} {K : KT} {a b c lo hi d e f : Int} (H : K (.ifc 98 (.ptr h.length 0)) (h ++ [.cells (dlL hi false 0)])) (e1 : isDel ⟨a, b, c, lo, hi, d, e, f⟩) : Does Try.prog 23 [.agg [.int .i64 a, .int .i64 b, .int .i64 c, .int .i64 lo, .int .i64 hi, .int .i64 d, .int .i64 e, .int .i64 f]] h K :=
  frame_new (b_newD ⟨a, b, c, lo, hi, d, e, f⟩ e1) (br_cons (br_agg (br_cons br_int (br_cons br_int (br_cons br_int (br_cons br_int (br_cons br_int (br_cons br_int (br_cons br_int (br_cons br_int br_nil))))))))) br_nil) (.inl rfl) (fun _ => rfl) (by simp [renA, renL, rhoC]) H
abbrev i_newD := Ctr.mk (i := 1) (g := 23) @c_newD
attribute [instance] i_newD
end Go.V

set_option maxRecDepth 100000
set_option maxHeartbeats 8000000
namespace Go.V
open Go.Proofs
attribute [-go_sem] SL PL
/-- a service with one delta on parameter 0, as it lies -/
def SD (now : Int) (m : Mon) (st res run : Int) (bg : Bool) (last : Int) : List Ch := [.cells [.bool true, .int .i64 now, .csl 1 1 1], .crow [.ptr 2 0], .cells (enD m.id m.param m.kind m.low m.high m.rep m.ev m.sev 3 st res run), .cells (dlL m.high bg last)]
attribute [go_sem] SD
end Go.V

set_option maxRecDepth 100000
set_option maxHeartbeats 8000000
namespace Go.V
open Go.Proofs
/-- a memory whose pointers stay in it -/
def SelfFit (h : List Ch) : Prop := ∀ σ : List Nat, (∀ i, i < h.length → σ[i]? = some i) → ∀ i, i < h.length → fitC σ (hth h i) (hth h i)
theorem fitHs_of {σ : List Nat} {h : List Ch} : ∀ {gs : List Ch} {ts : List Nat}, gs.length = ts.length → (∀ i, i < gs.length → ts.getD i 0 < h.length ∧ fitC σ (hth gs i) (hth h (ts.getD i 0))) → fitHs σ h gs ts
  | [], [], _, _ => trivial
  | g :: gs, t :: ts, h1, h2 => by
    have h0 := h2 0 (by simp)
    exact ⟨h0.1, h0.2, fitHs_of (by simpa using h1) fun i hi => by
      have h3 := h2 (i + 1) (by simpa using hi)
      exact h3⟩
  | [], _ :: _, h, _ => by simp at h
  | _ :: _, [], h, _ => by simp at h
theorem rng_at {n t : Nat} (h : t < n) : (List.range n)[t]? = some t := by rw [List.getElem?_range h]
theorem rng_at2 {n t : Nat} {l : List Nat} (h : t < n) : (List.range n ++ l)[t]? = some t := by
  rw [List.getElem?_append_left (by simpa using h)]; exact rng_at h
theorem rng_at3 {n j : Nat} {l : List Nat} : (List.range n ++ l)[n + j]? = l[j]? := by
  rw [List.getElem?_append_right (by simp)]
  simp
theorem rng_at0 {n x : Nat} {l : List Nat} : (List.range n ++ (x :: l))[n]? = some x := rng_at3 (j := 0)
theorem rng_D {n i : Nat} {l : List Nat} (h : i < n) : (List.range n ++ l).getD i 0 = i := by
  rw [List.getD_eq_getElem?_getD, rng_at2 h]; rfl
theorem at_drop {k : Nat} {gt tm : List AV} {h l : List Ch} (hk : k ≤ h.length) (hs : SelfFit h) (ht : fitL (List.range h.length ++ []) gt tm) : At k gt h tm (h ++ l) := by
  refine ⟨_, _, Gh.refl, List.range h.length ++ [], ?_, ht, fitHs_of (by simp) fun i hi => ?_, by simp [List.nodup_range]⟩
  · rw [List.append_nil, List.take_range, Nat.min_eq_left hk]
  · rw [rng_D hi, hth_app hi]
    exact ⟨by rw [List.length_append]; omega, hs _ (fun j hj => rng_at2 hj) i hi⟩
theorem at_same {k : Nat} {gt tm : List AV} {h : List Ch} (hk : k ≤ h.length) (hs : SelfFit h) (ht : fitL (List.range h.length ++ []) gt tm) : At k gt h tm h := by
  have := at_drop (l := []) hk hs ht
  rwa [List.append_nil] at this
theorem at_drop1 {k j : Nat} {gt tm : List AV} {h l : List Ch} {e : Ety} {xs : List e.T} (hk : k ≤ h.length) (hs : SelfFit h) (hj : hth l j = .rows e xs) (ht : fitL (List.range h.length ++ [h.length + j]) gt tm) : At k gt (h ++ [.rows e xs]) tm (h ++ l) := by
  have hjl : j < l.length := hth_lt (by rw [hj]; simp)
  refine ⟨_, _, Gh.refl, List.range h.length ++ [h.length + j], ?_, ht, fitHs_of (by simp) fun i hi => ?_, ?_⟩
  · rw [List.take_append_of_le_length (by simpa using hk), List.take_range, Nat.min_eq_left hk]
  · rw [List.length_append] at hi
    by_cases c : i < h.length
    · rw [rng_D c, hth_app c, hth_app c]
      exact ⟨by rw [List.length_append]; omega, hs _ (fun j hj => rng_at2 hj) i c⟩
    · have : i = h.length + 0 := by simp at hi; omega
      subst this
      have e1 : (List.range h.length ++ [h.length + j]).getD (h.length + 0) 0 = h.length + j := by
        rw [List.getD_eq_getElem?_getD, rng_at3]; rfl
      rw [e1, hth_app_r, hth_app_r, hj]
      exact ⟨by rw [List.length_append]; omega, by show (match asE e e xs with | some ys => xs = ys | none => False); rw [asE_self]⟩
  · refine List.nodup_append.2 ⟨List.nodup_range, by simp, fun a ha b hb => ?_⟩
    have := List.mem_range.1 ha
    rw [List.mem_singleton.1 hb]
    omega
theorem SelfFit.app {h l : List Ch} (hs : SelfFit h) (hl : ∀ c ∈ l, ∀ σ, fitC σ c c) : SelfFit (h ++ l) := by
  intro σ hσ i hi
  rw [List.length_append] at hi hσ
  by_cases c : i < h.length
  · rw [hth_app c]
    exact hs σ (fun j hj => hσ j (by omega)) i c
  · obtain ⟨j, rfl⟩ : ∃ j, i = h.length + j := ⟨i - h.length, by omega⟩
    rw [hth_app_r]
    have hj : j < l.length := by omega
    have e : hth l j = l[j] := by
      have := hth_some hj
      rw [List.getElem?_eq_getElem hj] at this
      exact (Option.some.inj this).symm
    rw [e]
    exact hl _ (List.getElem_mem hj) σ
theorem symH (h : List Ch) : ((∀ l, hth (h ++ l) h.length = hth l 0) ∧ ∀ l j, hth (h ++ l) (h.length + j) = hth l j) ∧ ((∀ l c, (h ++ l).set h.length c = h ++ l.set 0 c) ∧ ∀ l j c, (h ++ l).set (h.length + j) c = h ++ l.set j c) ∧ ∀ l l', h ++ l ++ l' = h ++ (l ++ l') := by
  refine ⟨⟨fun l => hth_app_r (j := 0), fun l j => hth_app_r⟩, ⟨fun l c => ?_, fun l j c => ?_⟩, fun l l' => List.append_assoc _ _ _⟩
  · rw [List.set_append_right _ _ (Nat.le_refl _), Nat.sub_self]
  · rw [List.set_append_right _ _ (Nat.le_add_right _ _), Nat.add_sub_cancel_left]
theorem frHs_app {t : Nat} {e : Ety} {xs : List e.T} : ∀ (h l : List Ch), frHs t e xs (h ++ l) = frHs t e xs h ++ frHs t e xs l
  | [], _ => rfl
  | c :: h, l => by
    show frC t e xs c :: frHs t e xs (h ++ l) = frC t e xs c :: (frHs t e xs h ++ frHs t e xs l)
    rw [frHs_app h l]
theorem frObH_app {t : Nat} {e : Ety} {m : Nat} : ∀ {h l : List Ch}, frObH t e m h → frObH t e m l → frObH t e m (h ++ l)
  | [], _, _, b => b
  | _ :: _, _, a, b => ⟨a.1, frObH_app a.2 b⟩
theorem fit_ro (σ : List Nat) (e : Ety) (xs : List e.T) : fitA σ (.ro e xs) (.ro e xs) := by
  show (match asE e e xs with | some ys => xs = ys | none => False)
  rw [asE_self]
theorem at_sameS {k : Nat} {gt tm : List AV} {h : List Ch} (hk : k ≤ h.length) (hs : SelfFit h) (ht : ∀ σ : List Nat, (∀ t, t < h.length → σ[t]? = some t) → fitL σ gt tm) : At k gt h tm h :=
  at_same hk hs (ht _ fun _ h => rng_at2 h)
theorem closeH_ne {h : List Ch} {u t : Nat} {vs : List Nat} {l : List Ch} (h1 : t ≠ u) (h2 : t ∉ vs) : hth (closeH h u vs l) t = hth h t := by
  unfold closeH
  rw [hth_set_ne (Ne.symm h1), goneH_hth h2]
theorem closeH_len (h : List Ch) (u : Nat) (vs : List Nat) (l : List Ch) : (closeH h u vs l).length = h.length := by
  unfold closeH
  rw [List.length_set, goneH_len]
theorem w_loopG {P : Program} {k : Nat} {tm : List AV} {h : List Ch} {q : Post} {c : Code} {A : Type} (inv : A → Prop) (mu : A → Nat) (live : A → List (Nat × AV)) (heap : A → List Ch) (x0 : A) {ws : List Nat} {tk : List AV} (hw : writes c = ws) (ht : killT tm ws = tk) (hi : inv x0)
    (h0 : At k (liveT tk (live x0)) (heap x0) tm h)
    (H : ∀ (x : A) (E : List AV → List Ch → Prop) t, inv x → (∀ tm' h', Back k inv mu (fun x => liveT tk (live x)) heap x tm' h' → E tm' h') → liveT tk (live x) = t →
      Wp P k c t (heap x) ⟨E, q.x, q.r⟩) : Wp P k (.loop c) tm h q :=
  w_loop_at inv mu (fun x => liveT tk (live x)) heap x0 hi h0 fun x E hx hE => H x E _ hx hE rfl
end Go.V

set_option maxRecDepth 100000
set_option maxHeartbeats 8000000
namespace Go.V
open Go.Proofs
/-- a monitor with its state -/
structure Sm where
  m : Mon
  off : Bool
  st : Int
  res : Int
  run : Int
  bg : Bool
  last : Int
def Sm.zero : Sm := ⟨⟨0, 0, 0, 0, 0, 0, 0, 0⟩, false, 0, 0, 0, false, 0⟩
abbrev eAtS (es : List Sm) (i : Nat) : Sm := es.getD i Sm.zero
def ckA (m : Mon) (d : Nat) : AV := if m.kind = 3 then .ifc 98 (.ptr d 0) else if m.kind = 2 then .ifc 105 (.agg [.int .i64 m.low]) else .ifc 103 (.agg [.int .i64 m.low, .int .i64 m.high])
def enC (e : Sm) (d : Nat) : List AV := [.int .i64 e.m.id, .int .i64 e.m.param, .int .i64 e.m.kind, .int .i64 e.m.low, .int .i64 e.m.high, .int .i64 e.m.rep, .int .i64 e.m.ev, .int .i64 e.m.sev, ckA e.m d, .bool e.off, .int .i64 e.st, .int .i64 e.res, .int .i64 e.run]
def dlV (e : Sm) : List AV := [.int .i64 e.m.high, .bool e.bg, .int .i64 e.last]
def dlC (e : Sm) : Ch := if e.m.kind = 3 then .cells (dlV e) else .gone
def ptA : List (Nat × Nat) → List AV
  | [] => []
  | t :: ts => .ptr t.1 0 :: ptA ts
def ilv : List (Nat × Nat) → List Nat
  | [] => []
  | t :: ts => t.1 :: t.2 :: ilv ts
/-- the places of n entries from k on -/
def plc : Nat → Nat → List (Nat × Nat)
  | _, 0 => []
  | k, n + 1 => (k, k + 1) :: plc (k + 2) n
theorem plc_len : ∀ (k n : Nat), (plc k n).length = n
  | _, 0 => rfl
  | k, n + 1 => by rw [plc, List.length_cons, plc_len]
theorem ptA_len : ∀ (l : List (Nat × Nat)), (ptA l).length = l.length
  | [] => rfl
  | t :: ts => by rw [ptA, List.length_cons, List.length_cons, ptA_len]
theorem ptA_at : ∀ {l : List (Nat × Nat)} {i : Nat}, i < l.length → nthA (ptA l) i = .ptr (l.getD i (0, 0)).1 0
  | [], _, h => by simp at h
  | t :: ts, 0, _ => rfl
  | t :: ts, i + 1, h => ptA_at (l := ts) (i := i) (by simpa using h)
theorem ptA_app (l m : List (Nat × Nat)) : ptA (l ++ m) = ptA l ++ ptA m := by
  induction l with
  | nil => rfl
  | cons t ts ih => show AV.ptr t.1 0 :: ptA (ts ++ m) = AV.ptr t.1 0 :: (ptA ts ++ ptA m); rw [ih]
theorem ptA_cells : ∀ (l : List (Nat × Nat)), okCells (ptA l)
  | [] => trivial
  | _ :: ts => ⟨rfl, ptA_cells ts⟩
def SVr : Nat → List Sm → List Ch
  | _, [] => []
  | k, e :: es => .cells (enC e (k + 1)) :: dlC e :: SVr (k + 2) es
def SV (now : Int) (es : List Sm) : List Ch := if es.length = 0 then [.cells [.bool true, .int .i64 now, .lit (.slice none 0 0)]] else .cells [.bool true, .int .i64 now, .csl 1 es.length 1] :: .crow (ptA (plc 2 es.length)) :: SVr 2 es
/-- it lies open -/
structure Srv (h : List Ch) (u v : Nat) (ts : List (Nat × Nat)) (now : Int) (es : List Sm) : Prop where
  pos : 0 < es.length
  o : hth h u = .cells [.bool true, .int .i64 now, .csl v es.length 1]
  o1 : hth h v = .crow (ptA ts)
  len : ts.length = es.length
  ent : ∀ i, i < es.length → hth h (ts.getD i (0, 0)).1 = .cells (enC (eAtS es i) (ts.getD i (0, 0)).2)
  dl : ∀ i, i < es.length → (ts.getD i (0, 0)).2 < h.length ∧ ((eAtS es i).m.kind = 3 → hth h (ts.getD i (0, 0)).2 = .cells (dlV (eAtS es i)))
  nd : (u :: v :: ilv ts).Nodup
theorem ckA_fit {σ : List Nat} {m : Mon} {d d' : Nat} (h : σ[d]? = some d') : fitA σ (ckA m d) (ckA m d') := by
  unfold ckA
  split
  · exact ⟨rfl, h, rfl⟩
  · split
    · exact ⟨rfl, ⟨rfl, rfl⟩, trivial⟩
    · exact ⟨rfl, ⟨rfl, rfl⟩, ⟨rfl, rfl⟩, trivial⟩
theorem enC_fit {σ : List Nat} {e : Sm} {d d' : Nat} (h : σ[d]? = some d') : fitL σ (enC e d) (enC e d') :=
  ⟨⟨rfl, rfl⟩, ⟨rfl, rfl⟩, ⟨rfl, rfl⟩, ⟨rfl, rfl⟩, ⟨rfl, rfl⟩, ⟨rfl, rfl⟩, ⟨rfl, rfl⟩, ⟨rfl, rfl⟩, ckA_fit h, rfl, ⟨rfl, rfl⟩, ⟨rfl, rfl⟩, ⟨rfl, rfl⟩, trivial⟩
theorem dlV_fit (σ : List Nat) (e : Sm) : fitL σ (dlV e) (dlV e) := ⟨⟨rfl, rfl⟩, rfl, ⟨rfl, rfl⟩, trivial⟩
theorem ptA_fit {σ : List Nat} : ∀ {ts : List (Nat × Nat)} {k : Nat}, (∀ i, i < ts.length → σ[k + 2 * i]? = some (ts.getD i (0, 0)).1) → fitL σ (ptA (plc k ts.length)) (ptA ts)
  | [], _, _ => trivial
  | t :: ts, k, h => by
    refine ⟨⟨h 0 (by simp), rfl⟩, ptA_fit (ts := ts) (k := k + 2) fun i hi => ?_⟩
    have := h (i + 1) (by simpa using hi)
    rw [show k + 2 + 2 * i = k + 2 * (i + 1) by omega]
    exact this
theorem SVr_fit {σ : List Nat} {h : List Ch} : ∀ {ts : List (Nat × Nat)} {es : List Sm} {k : Nat}, ts.length = es.length → (∀ i, i < ts.length → σ[k + 2 * i]? = some (ts.getD i (0, 0)).1 ∧ σ[k + 2 * i + 1]? = some (ts.getD i (0, 0)).2) →
    (∀ i, i < es.length → hth h (ts.getD i (0, 0)).1 = .cells (enC (eAtS es i) (ts.getD i (0, 0)).2)) →
    (∀ i, i < es.length → (ts.getD i (0, 0)).2 < h.length ∧ ((eAtS es i).m.kind = 3 → hth h (ts.getD i (0, 0)).2 = .cells (dlV (eAtS es i)))) → fitHs σ h (SVr k es) (ilv ts)
  | [], [], _, _, _, _, _ => trivial
  | t :: ts, e :: es, k, hl, hs, h1, h2 => by
    have a1 : hth h t.1 = .cells (enC e t.2) := h1 0 (by simp)
    have a2 : t.2 < h.length ∧ (e.m.kind = 3 → hth h t.2 = .cells (dlV e)) := h2 0 (by simp)
    have a3 : σ[k]? = some t.1 ∧ σ[k + 1]? = some t.2 := hs 0 (by simp)
    refine ⟨hth_lt (by rw [a1]; simp), by rw [a1]; exact enC_fit a3.2, a2.1, ?_, SVr_fit (ts := ts) (es := es) (k := k + 2) (by simpa using hl) (fun i hi => ?_) (fun i hi => h1 (i + 1) (by simpa using hi)) fun i hi => h2 (i + 1) (by simpa using hi)⟩
    · unfold dlC
      split
      · rename_i c
        rw [a2.2 c]
        exact dlV_fit σ e
      · exact trivial
    · have := hs (i + 1) (by simpa using hi)
      rw [show k + 2 + 2 * i = k + 2 * (i + 1) by omega]
      exact this
  | [], _ :: _, _, h, _, _, _ => by simp at h
  | _ :: _, [], _, h, _, _, _ => by simp at h
theorem ilv_at : ∀ {ts : List (Nat × Nat)} {i : Nat}, i < ts.length → (ilv ts)[2 * i]? = some (ts.getD i (0, 0)).1 ∧ (ilv ts)[2 * i + 1]? = some (ts.getD i (0, 0)).2
  | [], _, h => by simp at h
  | t :: ts, 0, _ => ⟨rfl, rfl⟩
  | t :: ts, i + 1, h => by
    have := ilv_at (ts := ts) (i := i) (by simpa using h)
    rw [show 2 * (i + 1) = 2 * i + 1 + 1 by omega]
    exact this
theorem Srv.shut {h : List Ch} {u v : Nat} {ts : List (Nat × Nat)} {now : Int} {es : List Sm} (a : Srv h u v ts now es) : Shut h u (v :: ilv ts) (SV now es) := by
  have e : SV now es = .cells [.bool true, .int .i64 now, .csl 1 es.length 1] :: .crow (ptA (plc 2 es.length)) :: SVr 2 es := if_neg (by have := a.pos; omega)
  rw [e]
  have hs : ∀ i, i < ts.length → (u :: v :: ilv ts)[2 + 2 * i]? = some (ts.getD i (0, 0)).1 ∧ (u :: v :: ilv ts)[2 + 2 * i + 1]? = some (ts.getD i (0, 0)).2 := fun i hi => by
    have := ilv_at hi
    rw [show 2 + 2 * i = 2 * i + 1 + 1 by omega]
    exact this
  refine ⟨⟨_, _, rfl⟩, ⟨hth_lt (by rw [a.o]; simp), ?_, hth_lt (by rw [a.o1]; simp), ?_, SVr_fit a.len hs a.ent a.dl⟩, a.nd⟩
  · rw [a.o]
    exact ⟨rfl, ⟨rfl, rfl⟩, ⟨rfl, rfl, rfl⟩, trivial⟩
  · rw [a.o1]
    refine ⟨?_, ?_⟩
    · rw [ptA_len, ptA_len, plc_len, a.len]
    · rw [← a.len]
      exact ptA_fit fun i hi => (hs i hi).1
theorem Srv.app {h : List Ch} {u v : Nat} {ts : List (Nat × Nat)} {now : Int} {es : List Sm} (a : Srv h u v ts now es) (l : List Ch) : Srv (h ++ l) u v ts now es :=
  ⟨a.pos, by rw [hth_app (hth_lt (by rw [a.o]; simp)), a.o], by rw [hth_app (hth_lt (by rw [a.o1]; simp)), a.o1], a.len, fun i hi => by rw [hth_app (hth_lt (by rw [a.ent i hi]; simp)), a.ent i hi],
    fun i hi => ⟨by have := (a.dl i hi).1; rw [List.length_append]; omega, fun c => by rw [hth_app (a.dl i hi).1, (a.dl i hi).2 c]⟩, a.nd⟩
theorem end_srv {h : List Ch} {v : Nat} {ts : List (Nat × Nat)} {now : Int} {es : List Sm} {r r' : AV} (a : Srv h 0 v ts now es) (hr : fitA [0] r r') : ∃ v' h2, Gh [r'] h [v'] h2 ∧ EndF 1 r ([.pack (SV now es)] ++ []) v' h2 := by
  have hc : hth (closeH h 0 (v :: ilv ts) (SV now es)) 0 = .pack (SV now es) := by
    unfold closeH
    exact hth_set_eq (by rw [goneH_len]; exact hth_lt (by rw [a.o]; simp))
  refine ⟨_, _, gh_close a.shut, [0], rfl, ⟨hr, trivial⟩, ⟨hth_lt (by rw [hc]; simp), by rw [hc]; exact rfl, trivial⟩, by simp⟩
theorem ckA_ren (m : Mon) {d : Nat} (h : 0 < d) : renA (rhoO 0 1) (ckA m d) = ckA m d := by
  have e : rhoO 0 1 d = d := by
    cases d with
    | zero => omega
    | succ n => show 1 + n = n + 1; omega
  unfold ckA
  split
  · show AV.ifc _ (AV.ptr (rhoO 0 1 d) 0) = _
    rw [e]
  · split <;> rfl
theorem SVr_ren : ∀ {k : Nat} {es : List Sm}, 0 < k → renCs (rhoO 0 1) (SVr k es) = SVr k es
  | _, [], _ => rfl
  | k, e :: es, h => by
    show Ch.cells (renL (rhoO 0 1) (enC e (k + 1))) :: renC (rhoO 0 1) (dlC e) :: renCs (rhoO 0 1) (SVr (k + 2) es) = _
    rw [SVr_ren (by omega)]
    have e1 : renL (rhoO 0 1) (enC e (k + 1)) = enC e (k + 1) := by
      show [_, _, _, _, _, _, _, _, renA (rhoO 0 1) (ckA e.m (k + 1)), _, _, _, _] = _
      rw [ckA_ren _ (by omega)]; rfl
    have e2 : renC (rhoO 0 1) (dlC e) = dlC e := by
      unfold dlC
      split <;> rfl
    rw [e1, e2]; rfl
theorem ptA_ren : ∀ {k n : Nat}, 0 < k → renL (rhoO 0 1) (ptA (plc k n)) = ptA (plc k n)
  | _, 0, _ => rfl
  | k, n + 1, h => by
    have e : rhoO 0 1 k = k := by
      cases k with
      | zero => omega
      | succ n => show 1 + n = n + 1; omega
    show AV.ptr (rhoO 0 1 k) 0 :: renL (rhoO 0 1) (ptA (plc (k + 2) n)) = _
    rw [e, ptA_ren (by omega)]; rfl
theorem w_openS {P : Program} {k : Nat} {c : Code} {tm : List AV} {now : Int} {es : List Sm} {q : Post} (hp : 0 < es.length) (H : Wp P k c tm (SV now es) q) : Wp P k c tm [.pack (SV now es)] q := by
  have e : SV now es = .cells [.bool true, .int .i64 now, .csl 1 es.length 1] :: (.crow (ptA (plc 2 es.length)) :: SVr 2 es) := if_neg (by omega)
  refine w_open (h' := SV now es) (vs := [.bool true, .int .i64 now, .csl 1 es.length 1]) (rest := .crow (ptA (plc 2 es.length)) :: SVr 2 es) 0 (by rw [e]; rfl) ?_ H
  rw [e]
  show Ch.cells (renL (rhoO 0 1) [.bool true, .int .i64 now, .csl 1 es.length 1]) :: Ch.crow (renL (rhoO 0 1) (ptA (plc 2 es.length))) :: renCs (rhoO 0 1) (SVr 2 es) = _
  rw [SVr_ren (by omega), ptA_ren (by omega)]
  rfl
theorem plc_at : ∀ {k n i : Nat}, i < n → (plc k n).getD i (0, 0) = (k + 2 * i, k + 2 * i + 1)
  | _, 0, _, h => absurd h (by omega)
  | k, n + 1, 0, _ => rfl
  | k, n + 1, i + 1, h => by
    have := plc_at (k := k + 2) (n := n) (i := i) (by omega)
    rw [show k + 2 * (i + 1) = k + 2 + 2 * i by omega]
    exact this
theorem SVr_len : ∀ (k : Nat) (es : List Sm), (SVr k es).length = 2 * es.length
  | _, [] => rfl
  | k, e :: es => by rw [SVr, List.length_cons, List.length_cons, SVr_len, List.length_cons]; omega
theorem SV_len {now : Int} {es : List Sm} (hp : 0 < es.length) : (SV now es).length = 2 * es.length + 2 := by
  have e : SV now es = .cells [.bool true, .int .i64 now, .csl 1 es.length 1] :: .crow (ptA (plc 2 es.length)) :: SVr 2 es := if_neg (by omega)
  rw [e, List.length_cons, List.length_cons, SVr_len]
theorem SVr_at : ∀ {k : Nat} {es : List Sm} {i : Nat}, i < es.length → hth (SVr k es) (2 * i) = .cells (enC (eAtS es i) (k + 2 * i + 1)) ∧ hth (SVr k es) (2 * i + 1) = dlC (eAtS es i)
  | _, [], _, h => by simp at h
  | k, e :: es, 0, _ => ⟨rfl, rfl⟩
  | k, e :: es, i + 1, h => by
    have := SVr_at (k := k + 2) (es := es) (i := i) (by simpa using h)
    rw [show 2 * (i + 1) = 2 * i + 1 + 1 by omega, show k + (2 * i + 1 + 1) + 1 = k + 2 + 2 * i + 1 by omega]
    exact this
theorem ilv_plc : ∀ (k n : Nat), ilv (plc k n) = List.range' k (2 * n)
  | _, 0 => rfl
  | k, n + 1 => by
    rw [show 2 * (n + 1) = 2 * n + 1 + 1 by omega, List.range'_succ, List.range'_succ]
    show k :: (k + 1) :: ilv (plc (k + 2) n) = _
    rw [ilv_plc]
theorem srv_open {now : Int} {es : List Sm} (hp : 0 < es.length) : Srv (SV now es) 0 1 (plc 2 es.length) now es := by
  have hl := SV_len (now := now) hp
  have e : SV now es = .cells [.bool true, .int .i64 now, .csl 1 es.length 1] :: .crow (ptA (plc 2 es.length)) :: SVr 2 es := if_neg (by omega)
  refine ⟨hp, by rw [e]; rfl, by rw [e]; rfl, plc_len _ _, fun i hi => ?_, fun i hi => ?_, ?_⟩
  · rw [plc_at hi, e]
    show hth _ (2 + 2 * i) = _
    rw [show 2 + 2 * i = 2 * i + 1 + 1 by omega]
    have := (SVr_at (k := 2) hi).1
    rw [show 2 + 2 * i + 1 = 2 * i + 1 + 1 + 1 by omega] at this
    exact this
  · rw [plc_at hi]
    refine ⟨by show 2 + 2 * i + 1 < (SV now es).length; rw [hl]; omega, fun c => ?_⟩
    rw [e]
    show hth _ (2 + 2 * i + 1) = _
    rw [show 2 + 2 * i + 1 = 2 * i + 1 + 1 + 1 by omega]
    have := (SVr_at (k := 2) hi).2
    unfold dlC at this
    rw [if_pos c] at this
    exact this
  · rw [ilv_plc]
    refine List.nodup_cons.2 ⟨fun q => ?_, List.nodup_cons.2 ⟨fun q => ?_, List.nodup_range'⟩⟩
    · rcases List.mem_cons.1 q with q | q
      · omega
      · have := List.mem_range'_1.1 q; omega
    · have := List.mem_range'_1.1 q; omega
end Go.V

set_option maxRecDepth 100000
set_option maxHeartbeats 8000000
namespace Go.V
open Go.Proofs
/-- the result of a checker -/
def resE (m : Mon) (bg : Bool) (last v : Int) : Int := if m.kind = 3 then rsD m.high bg last v else if m.kind = 2 then (if v = m.low then 1 else 4) else rsL m.low m.high v
/-- one entry is checked: pv is the value of its parameter, if there is one -/
def chkS (now : Int) (pv : Int → Option Int) (e : Sm) : Sm × List Tra :=
  match pv e.m.param with
  | none => (e, [])
  | some v => if e.off = true then (e, []) else
    (⟨e.m, e.off, (fdR e.m.rep e.st e.res e.run (resE e.m e.bg e.last v)).2.1, (fdR e.m.rep e.st e.res e.run (resE e.m e.bg e.last v)).2.2.1, (fdR e.m.rep e.st e.res e.run (resE e.m e.bg e.last v)).2.2.2, true, v⟩,
      if (fdR e.m.rep e.st e.res e.run (resE e.m e.bg e.last v)).1 = true then [⟨now, e.m.id, e.st, (fdR e.m.rep e.st e.res e.run (resE e.m e.bg e.last v)).2.1, v⟩] else [])
def chkL (now : Int) (pv : Int → Option Int) (es : List Sm) : List Sm := es.map fun e => (chkS now pv e).1
def chkO (now : Int) (pv : Int → Option Int) (es : List Sm) : List Tra := es.flatMap fun e => (chkS now pv e).2
/-- an entry is enabled or disabled -/
def enaS (on : Bool) (e : Sm) : Sm := if on = false ∧ e.off = false then ⟨e.m, true, 0, 0, 0, false, 0⟩ else ⟨e.m, !on, e.st, e.res, e.run, e.bg, e.last⟩
def enaL (id : Int) (on : Bool) (es : List Sm) : List Sm := es.map fun e => if e.m.id = id then enaS on e else e
theorem fdR_form (rep st res run r : Int) : ∃ n, fdR rep st res run r = if n < rep ∨ st = r then (false, st, r, n) else (true, r, r, n) := ⟨_, rfl⟩
theorem fdR_true {rep st res run r : Int} (h : (fdR rep st res run r).1 = true) : (fdR rep st res run r).2.1 = r ∧ st ≠ r := by
  obtain ⟨n, hn⟩ := fdR_form rep st res run r
  rw [hn] at h ⊢
  by_cases c : n < rep ∨ st = r
  · rw [if_pos c] at h; cases h
  · rw [if_neg c]; exact ⟨rfl, fun q => c (.inr q)⟩
theorem fdR_false {rep st res run r : Int} (h : (fdR rep st res run r).1 = false) : (fdR rep st res run r).2.1 = st := by
  obtain ⟨n, hn⟩ := fdR_form rep st res run r
  rw [hn] at h ⊢
  by_cases c : n < rep ∨ st = r
  · rw [if_pos c]
  · rw [if_neg c] at h; cases h
/-- one entry gives no transition, or one from its state to another -/
theorem chkS_cases (now : Int) (pv : Int → Option Int) (e : Sm) : ((chkS now pv e).2 = [] ∧ (chkS now pv e).1.st = e.st) ∨
    (∃ v, (chkS now pv e).2 = [⟨now, e.m.id, e.st, (chkS now pv e).1.st, v⟩] ∧ (chkS now pv e).1.st ≠ e.st ∧ e.off = false) := by
  unfold chkS
  cases pv e.m.param with
  | none => exact .inl ⟨rfl, rfl⟩
  | some v =>
    dsimp only
    cases ho : e.off with
    | true => exact .inl ⟨rfl, rfl⟩
    | false =>
      rw [if_neg (by decide)]
      dsimp only
      cases hf : (fdR e.m.rep e.st e.res e.run (resE e.m e.bg e.last v)).1 with
      | true =>
        obtain ⟨h1, h2⟩ := fdR_true hf
        right
        refine ⟨v, by rw [if_pos rfl], ?_, rfl⟩
        rw [h1]; exact Ne.symm h2
      | false =>
        left
        exact ⟨by rw [if_neg (by decide)], fdR_false hf⟩
theorem chkS_m (now : Int) (pv : Int → Option Int) (e : Sm) : (chkS now pv e).1.m = e.m ∧ (chkS now pv e).1.off = e.off := by
  unfold chkS
  cases pv e.m.param with
  | none => exact ⟨rfl, rfl⟩
  | some v =>
    dsimp only
    split <;> exact ⟨rfl, rfl⟩
/-- what MonitorChains keeps: the states and the switches are those of the entries -/
structure Chn (l : List Mon) (es : List Sm) (st : List Int) (off : List Bool) : Prop where
  ms : es.map (·.m) = l
  off_ : off = es.map (·.off)
  st_ : st = es.map (·.st)
  z : ∀ e ∈ es, e.off = true → e.st = 0
theorem Chn.check {l : List Mon} {es : List Sm} {st : List Int} {off : List Bool} (h : Chn l es st off) (now : Int) (pv : Int → Option Int) : Chn l (chkL now pv es) ((chkL now pv es).map (·.st)) off := by
  refine ⟨?_, ?_, rfl, fun e he ho => ?_⟩
  · rw [← h.ms]
    unfold chkL
    rw [List.map_map]
    exact List.map_congr_left fun e _ => (chkS_m now pv e).1
  · rw [h.off_]
    unfold chkL
    rw [List.map_map]
    exact List.map_congr_left fun e _ => (chkS_m now pv e).2.symm
  · obtain ⟨x, hx, rfl⟩ := List.mem_map.1 he
    have h1 := chkS_m now pv x
    rw [h1.2] at ho
    rcases chkS_cases now pv x with ⟨-, q⟩ | ⟨v, -, -, q⟩
    · rw [q]; exact h.z x hx ho
    · rw [ho] at q; cases q
/-- the transitions of the entries from place i on, with their places -/
def trK (now : Int) (pv : Int → Option Int) (es : List Sm) (k : Nat) : List Tra := chkO now pv (es.take k)
theorem trK_next {now : Int} {pv : Int → Option Int} {es : List Sm} {k : Nat} (h : k < es.length) : trK now pv es (k + 1) = trK now pv es k ++ (chkS now pv (eAtS es k)).2 := by
  unfold trK chkO
  have e : es.take (k + 1) = es.take k ++ [eAtS es k] := by
    rw [List.take_succ_eq_append_getElem h]
    congr 2
    show _ = es.getD k Sm.zero
    rw [List.getD_eq_getElem?_getD, List.getElem?_eq_getElem h]; rfl
  rw [e, List.flatMap_append]
  simp
end Go.V
