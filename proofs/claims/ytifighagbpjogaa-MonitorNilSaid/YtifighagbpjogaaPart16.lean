/-
  monitor: State of a service with one delta.
  MonitorDeltas.
  From the arguments of a given statement to abstract values: what is read as data lies for good.
  The arguments of the statements of chapter 36 as abstract values.
-/
import Derived.Test.YtifighagbpjogaaPart15
import Derived.ChangeArms
import Derived.ChangeShapes
import Derived.ChangeReads
import Derived.DataReads
import Derived.Below
import Derived.OpenShut
import Derived.RowKit
import Derived.Carry
set_option linter.unusedVariables false
set_option linter.unusedSimpArgs false
set_option maxRecDepth 100000
set_option maxHeartbeats 8000000
namespace Go.V
open Go.Proofs
attribute [-go_sem] SL PL
theorem k_eqIdD {n0 : Nat} {h : List Ch} {K : KT} {e q dd : Nat} {id pa kd lo hi rep ev sev st res run i : Int} (o : hth h e = .cells (enD id pa kd lo hi rep ev sev dd st res run)) (o1 : hth h q = .cells [.int .i64 i]) (H : K (.bool (decide (id = i))) h) : DoesK Try.prog n0 44 [.ptr e 0, .ptr q 0] h K := by
  refine w_body (rs := [.tmp 3]) (tm := [.ptr e 0, .ptr q 0, .any, .any, .any, .any, .any, .any, .any, .any, .any]) fn_44 rfl rfl rfl rfl fun R hR => ?_
  (have zx1 := @o; have zx2 := @o1; all_goals (try ((first | (with_reducible refine wp_id ?_) | (with_reducible refine does_id ?_) | (with_reducible refine ops_id ?_)); refine walk ?_; (repeat' (first | exact trivial | with_reducible refine And.intro ?_ ?_)); all_goals (repeat (first | (with_reducible refine ImpB.mk fun hb => ?_) | (with_reducible refine ImpK.mk fun hK => ?_) | (with_reducible refine ImpF.mk fun hF => ?_) | (with_reducible refine ImpQ.mk fun hp => ?_) | (with_reducible refine AllE.mk fun p => ?_) | (with_reducible refine AllR.mk fun rest => ?_) | (with_reducible refine AllK.mk fun K => ?_))))); repeat' (with_reducible refine And.intro ?_ ?_))
  exact H
theorem c_eqIdD {h : List Ch} {K : KT} {e q dd : Nat} {id pa kd lo hi rep ev sev st res run i : Int} (H : K (.bool (decide (id = i))) h) (o : hth h e = .cells (enD id pa kd lo hi rep ev sev dd st res run)) (o1 : hth h q = .cells [.int .i64 i]) : Does Try.prog 44 [.ptr e 0, .ptr q 0] h K := Does.of_K (k_eqIdD o o1 H)
abbrev i_eqIdD := Ctr.mk (i := 1) (g := 44) @c_eqIdD
attribute [instance] i_eqIdD
theorem k_ixf1D {n0 : Nat} {h : List Ch} {K : KT} {v e q dd : Nat} {id pa kd lo hi rep ev sev st res run i : Int} (o : hth h v = .crow [.ptr e 0]) (o1 : hth h e = .cells (enD id pa kd lo hi rep ev sev dd st res run)) (o2 : hth h q = .cells [.int .i64 i]) (H : K (.int .i64 (if id = i then 0 else -1)) h) : DoesK Try.prog n0 43 [.csl v 1 1, .fn 44 [.ptr q 0]] h K := by
  refine w_body (rs := [.tmp 4]) (tm := [.csl v 1 1, .fn 44 [.ptr q 0], .any, .any, .any, .any, .any, .any, .any, .any, .any, .any, .any, .any, .any, .any, .any, .any, .any]) fn_43 rfl rfl rfl rfl fun R hR => ?_
  (all_goals (try ((first | (with_reducible refine wp_id ?_) | (with_reducible refine does_id ?_) | (with_reducible refine ops_id ?_)); refine walk ?_; (repeat' (first | exact trivial | with_reducible refine And.intro ?_ ?_)); all_goals (repeat (first | (with_reducible refine ImpB.mk fun hb => ?_) | (with_reducible refine ImpK.mk fun hK => ?_) | (with_reducible refine ImpF.mk fun hF => ?_) | (with_reducible refine ImpQ.mk fun hp => ?_) | (with_reducible refine AllE.mk fun p => ?_) | (with_reducible refine AllR.mk fun rest => ?_) | (with_reducible refine AllK.mk fun K => ?_))))); repeat' (with_reducible refine And.intro ?_ ?_))
  any_goals ((try (refine w_seq fun K hK => ?_)); (try (refine w_block ?_)); refine w_loopS (A := Nat) (fun k => k ≤ 1 ∧ (k = 1 → ¬ id = i)) (fun k => 1 - k) (fun k => [(8, .int .i64 k)]) (0) (ws := ?ws1) (tk := ?tk1) ?hw1 ?ht1 ?hi ?h0 ?LH1; (case hw1 => simp only [go_sem, decide_true, decide_false, Int.reduceToNat, Nat.min_eq_left, Nat.min_eq_right, Int.reducePow, Nat.reducePow, Int.reduceLE, Int.reduceLT, Int.reduceMul, Int.reduceAdd, Int.reduceSub, Int.reduceNeg, Bool.not_true, Bool.not_false, Bool.not_not, ↓reduceIte, Nat.reduceAdd, Nat.reduceSub, Nat.reduceMul, Nat.reduceEqDiff, reduceCtorEq, Nat.reduceLT, Nat.reduceLeDiff, Nat.reduceGT]; exact rfl); (case ht1 => simp only [go_sem, decide_true, decide_false, Int.reduceToNat, Nat.min_eq_left, Nat.min_eq_right, Int.reducePow, Nat.reducePow, Int.reduceLE, Int.reduceLT, Int.reduceMul, Int.reduceAdd, Int.reduceSub, Int.reduceNeg, Bool.not_true, Bool.not_false, Bool.not_not, ↓reduceIte, Nat.reduceAdd, Nat.reduceSub, Nat.reduceMul, Nat.reduceEqDiff, reduceCtorEq, Nat.reduceLT, Nat.reduceLeDiff, Nat.reduceGT]; exact rfl); (case' LH1 => rintro k E t hx hE ht; simp only [go_sem] at ht; subst ht; simp only [go_sem]; try dsimp only at hx))
  case hi => exact ⟨Nat.zero_le _, fun q => by cases q⟩
  case h0 => (focus (simp only [go_sem]; (repeat' (first | exact sub_nil | refine sub_cons ?_ ?_)); (any_goals (first | exact .inl rfl | exact .inr rfl)); (try any_goals (refine .inr ?_)); (try any_goals (refine congrArg _ ?_))))
  case LH1 =>
    obtain ⟨hk0, hne⟩ := hx
    by_cases hk : k = 0
    · subst hk
      have hkd : decide (((0 : Nat) : Int) < 1) = true := by decide
      have hw : IntKind.i64.wrap 1 = ((1 : Nat) : Int) := by decide
      (have zx1 := @hkd; have zx2 := @hw; have zx3 := @o; have zx4 := @o1; have zx5 := @o2; all_goals (try ((first | (with_reducible refine wp_id ?_) | (with_reducible refine does_id ?_) | (with_reducible refine ops_id ?_)); refine walk ?_; (repeat' (first | exact trivial | with_reducible refine And.intro ?_ ?_)); all_goals (repeat (first | (with_reducible refine ImpB.mk fun hb => ?_) | (with_reducible refine ImpK.mk fun hK => ?_) | (with_reducible refine ImpF.mk fun hF => ?_) | (with_reducible refine ImpQ.mk fun hp => ?_) | (with_reducible refine AllE.mk fun p => ?_) | (with_reducible refine AllR.mk fun rest => ?_) | (with_reducible refine AllK.mk fun K => ?_))))); repeat' (with_reducible refine And.intro ?_ ?_))
      · rw [if_pos (of_decide_eq_true hb)] at H
        exact H
      · refine ⟨1, ⟨⟨by first | omega | (dsimp only; omega), fun _ => of_decide_eq_false hb⟩, by first | omega | (dsimp only; omega)⟩, ?_, rfl⟩
        (focus (simp only [go_sem]; (repeat' (first | exact sub_nil | refine sub_cons ?_ ?_)); (any_goals (first | exact .inl rfl | exact .inr rfl)); (try any_goals (refine .inr ?_)); (try any_goals (refine congrArg _ ?_))))
    · obtain rfl : k = 1 := by omega
      have hkd : decide (((1 : Nat) : Int) < 1) = false := by decide
      rw [if_neg (hne rfl)] at H
      (have zx1 := @hkd; all_goals (try ((first | (with_reducible refine wp_id ?_) | (with_reducible refine does_id ?_) | (with_reducible refine ops_id ?_)); refine walk ?_; (repeat' (first | exact trivial | with_reducible refine And.intro ?_ ?_)); all_goals (repeat (first | (with_reducible refine ImpB.mk fun hb => ?_) | (with_reducible refine ImpK.mk fun hK => ?_) | (with_reducible refine ImpF.mk fun hF => ?_) | (with_reducible refine ImpQ.mk fun hp => ?_) | (with_reducible refine AllE.mk fun p => ?_) | (with_reducible refine AllR.mk fun rest => ?_) | (with_reducible refine AllK.mk fun K => ?_))))); repeat' (with_reducible refine And.intro ?_ ?_))
      exact H
theorem c_ixf1D {h : List Ch} {K : KT} {v e q dd : Nat} {id pa kd lo hi rep ev sev st res run i : Int} (H : K (.int .i64 (if id = i then 0 else -1)) h) (o : hth h v = .crow [.ptr e 0]) (o1 : hth h e = .cells (enD id pa kd lo hi rep ev sev dd st res run)) (o2 : hth h q = .cells [.int .i64 i]) : Does Try.prog 43 [.csl v 1 1, .fn 44 [.ptr q 0]] h K := Does.of_K (k_ixf1D o o1 o2 H)
abbrev i_ixf1D := Ctr.mk (i := 1) (g := 43) @c_ixf1D
attribute [instance] i_ixf1D
theorem k_findLD {n0 : Nat} {K : KT} {id pa kd lo hi rep ev sev st res run now i last : Int} {bg : Bool} (H1 : id = i → K (.ptr 2 0) [.cells [.bool true, .int .i64 now, .csl 1 1 1], .crow [.ptr 2 0], .cells (enD id pa kd lo hi rep ev sev 3 st res run), .cells (dlL hi bg last), .cells [.int .i64 i]]) (H2 : ¬ id = i → K (.lit (.pointer none)) [.cells [.bool true, .int .i64 now, .csl 1 1 1], .crow [.ptr 2 0], .cells (enD id pa kd lo hi rep ev sev 3 st res run), .cells (dlL hi bg last), .cells [.int .i64 i]]) :
    DoesK Try.prog n0 31 [.ptr 0 0, .int .i64 i] [.cells [.bool true, .int .i64 now, .csl 1 1 1], .crow [.ptr 2 0], .cells (enD id pa kd lo hi rep ev sev 3 st res run), .cells (dlL hi bg last)] K := by
  by_cases c : id = i
  · have H := H1 c
    have hi : (if id = i then (0 : Int) else -1) = 0 := if_pos c
    refine w_body (rs := [.tmp 4]) (tm := [.ptr 0 0, .int .i64 i, .any, .any, .any, .any, .any, .any, .any, .any, .any, .any, .any, .any, .any, .any, .any, .any, .any, .any, .any, .any, .any, .any, .any, .any, .any, .any, .any, .any]) fn_31 rfl rfl rfl rfl fun R hR => ?_
    (have zx1 := @hi; all_goals (try ((first | (with_reducible refine wp_id ?_) | (with_reducible refine does_id ?_) | (with_reducible refine ops_id ?_)); refine walk ?_; (repeat' (first | exact trivial | with_reducible refine And.intro ?_ ?_)); all_goals (repeat (first | (with_reducible refine ImpB.mk fun hb => ?_) | (with_reducible refine ImpK.mk fun hK => ?_) | (with_reducible refine ImpF.mk fun hF => ?_) | (with_reducible refine ImpQ.mk fun hp => ?_) | (with_reducible refine AllE.mk fun p => ?_) | (with_reducible refine AllR.mk fun rest => ?_) | (with_reducible refine AllK.mk fun K => ?_))))); repeat' (with_reducible refine And.intro ?_ ?_))
    exact H
  · have H := H2 c
    have hi : (if id = i then (0 : Int) else -1) = -1 := if_neg c
    refine w_body (rs := [.tmp 4]) (tm := [.ptr 0 0, .int .i64 i, .any, .any, .any, .any, .any, .any, .any, .any, .any, .any, .any, .any, .any, .any, .any, .any, .any, .any, .any, .any, .any, .any, .any, .any, .any, .any, .any, .any]) fn_31 rfl rfl rfl rfl fun R hR => ?_
    (have zx1 := @hi; all_goals (try ((first | (with_reducible refine wp_id ?_) | (with_reducible refine does_id ?_) | (with_reducible refine ops_id ?_)); refine walk ?_; (repeat' (first | exact trivial | with_reducible refine And.intro ?_ ?_)); all_goals (repeat (first | (with_reducible refine ImpB.mk fun hb => ?_) | (with_reducible refine ImpK.mk fun hK => ?_) | (with_reducible refine ImpF.mk fun hF => ?_) | (with_reducible refine ImpQ.mk fun hp => ?_) | (with_reducible refine AllE.mk fun p => ?_) | (with_reducible refine AllR.mk fun rest => ?_) | (with_reducible refine AllK.mk fun K => ?_))))); repeat' (with_reducible refine And.intro ?_ ?_))
    exact H
theorem c_findLD {K : KT} {id pa kd lo hi rep ev sev st res run now i last : Int} {bg : Bool} (H : (id = i → K (.ptr 2 0) [.cells [.bool true, .int .i64 now, .csl 1 1 1], .crow [.ptr 2 0], .cells (enD id pa kd lo hi rep ev sev 3 st res run), .cells (dlL hi bg last), .cells [.int .i64 i]]) ∧ (¬ id = i → K (.lit (.pointer none)) [.cells [.bool true, .int .i64 now, .csl 1 1 1], .crow [.ptr 2 0], .cells (enD id pa kd lo hi rep ev sev 3 st res run), .cells (dlL hi bg last), .cells [.int .i64 i]])) : Does Try.prog 31 [.ptr 0 0, .int .i64 i] [.cells [.bool true, .int .i64 now, .csl 1 1 1], .crow [.ptr 2 0], .cells (enD id pa kd lo hi rep ev sev 3 st res run), .cells (dlL hi bg last)] K := -- nocall
  Does.of_K (k_findLD H.1 H.2)
theorem c_findTD {K : KT} {id pa kd lo hi rep ev sev st res run now i last : Int} {bg : Bool} (H : K (.ptr 2 0) [.cells [.bool true, .int .i64 now, .csl 1 1 1], .crow [.ptr 2 0], .cells (enD id pa kd lo hi rep ev sev 3 st res run), .cells (dlL hi bg last), .cells [.int .i64 i]]) (e1 : id = i) : Does Try.prog 31 [.ptr 0 0, .int .i64 i] [.cells [.bool true, .int .i64 now, .csl 1 1 1], .crow [.ptr 2 0], .cells (enD id pa kd lo hi rep ev sev 3 st res run), .cells (dlL hi bg last)] K := c_findLD ⟨fun _ => H, fun q => absurd e1 q⟩
abbrev i_findTD := Ctr.mk (i := 3) (g := 31) @c_findTD
attribute [instance] i_findTD
theorem c_findFD {K : KT} {id pa kd lo hi rep ev sev st res run now i last : Int} {bg : Bool} (H : K (.lit (.pointer none)) [.cells [.bool true, .int .i64 now, .csl 1 1 1], .crow [.ptr 2 0], .cells (enD id pa kd lo hi rep ev sev 3 st res run), .cells (dlL hi bg last), .cells [.int .i64 i]]) (e1 : ¬ id = i) : Does Try.prog 31 [.ptr 0 0, .int .i64 i] [.cells [.bool true, .int .i64 now, .csl 1 1 1], .crow [.ptr 2 0], .cells (enD id pa kd lo hi rep ev sev 3 st res run), .cells (dlL hi bg last)] K := c_findLD ⟨fun q => absurd q e1, fun _ => H⟩
abbrev i_findFD := Ctr.mk (i := 4) (g := 31) @c_findFD
attribute [instance] i_findFD
theorem b_stateLD (now id pa kd lo hi rep ev sev st res run i last : Int) (bg : Bool) : DoesK Try.prog 1 13 [.ptr 0 0, .int .i64 i] [.pack (SD now ⟨id, pa, kd, lo, hi, rep, ev, sev⟩ st res run bg last)] (EndF 1 (.int .i64 (if id = i then st else 0)) ([.pack (SD now ⟨id, pa, kd, lo, hi, rep, ev, sev⟩ st res run bg last)] ++ [])) := by
  refine DoesK.close ?_
  by_cases c : id = i
  · rw [if_pos c]
    refine w_body (rs := [.tmp 4]) (tm := [.ptr 0 0, .int .i64 i, .any, .any, .any, .any, .any, .any, .any, .any, .any, .any, .any, .any, .any]) fn_13 rfl rfl rfl rfl fun R hR => ?_
    refine w_open 0 rfl rfl ?_
    simp only [go_sem, decide_true, decide_false, Int.reduceToNat, Nat.min_eq_left, Nat.min_eq_right, Int.reducePow, Nat.reducePow, Int.reduceLE, Int.reduceLT, Int.reduceMul, Int.reduceAdd, Int.reduceSub, Int.reduceNeg, Bool.not_true, Bool.not_false, Bool.not_not, ↓reduceIte, Nat.reduceAdd, Nat.reduceSub, Nat.reduceMul, Nat.reduceEqDiff, reduceCtorEq, Nat.reduceLT, Nat.reduceLeDiff, Nat.reduceGT]
    (all_goals (try ((first | (with_reducible refine wp_id ?_) | (with_reducible refine does_id ?_) | (with_reducible refine ops_id ?_)); refine walk ?_; (repeat' (first | exact trivial | with_reducible refine And.intro ?_ ?_)); all_goals (repeat (first | (with_reducible refine ImpB.mk fun hb => ?_) | (with_reducible refine ImpK.mk fun hK => ?_) | (with_reducible refine ImpF.mk fun hF => ?_) | (with_reducible refine ImpQ.mk fun hp => ?_) | (with_reducible refine AllE.mk fun p => ?_) | (with_reducible refine AllR.mk fun rest => ?_) | (with_reducible refine AllK.mk fun K => ?_))))); repeat' (with_reducible refine And.intro ?_ ?_))
    (focus (refine ⟨_, _, gh_close (t := 0) (ts := [1, 2, 3]) (l := SD now ⟨id, pa, kd, lo, hi, rep, ev, sev⟩ st res run bg last) ⟨⟨_, _, rfl⟩, ?_, by simp⟩, [0], rfl, ?_⟩; all_goals (refine fitq ?_ ?_ ?_ <;> try exact trivial); (try any_goals (refine ⟨?_, ?_⟩)); (try any_goals (with_reducible rfl))))
    all_goals (repeat' (first | (refine And.intro ?_ ?_) | rfl))
  · rw [if_neg c]
    refine w_body (rs := [.tmp 4]) (tm := [.ptr 0 0, .int .i64 i, .any, .any, .any, .any, .any, .any, .any, .any, .any, .any, .any, .any, .any]) fn_13 rfl rfl rfl rfl fun R hR => ?_
    refine w_open 0 rfl rfl ?_
    simp only [go_sem, decide_true, decide_false, Int.reduceToNat, Nat.min_eq_left, Nat.min_eq_right, Int.reducePow, Nat.reducePow, Int.reduceLE, Int.reduceLT, Int.reduceMul, Int.reduceAdd, Int.reduceSub, Int.reduceNeg, Bool.not_true, Bool.not_false, Bool.not_not, ↓reduceIte, Nat.reduceAdd, Nat.reduceSub, Nat.reduceMul, Nat.reduceEqDiff, reduceCtorEq, Nat.reduceLT, Nat.reduceLeDiff, Nat.reduceGT]
    (all_goals (try ((first | (with_reducible refine wp_id ?_) | (with_reducible refine does_id ?_) | (with_reducible refine ops_id ?_)); refine walk ?_; (repeat' (first | exact trivial | with_reducible refine And.intro ?_ ?_)); all_goals (repeat (first | (with_reducible refine ImpB.mk fun hb => ?_) | (with_reducible refine ImpK.mk fun hK => ?_) | (with_reducible refine ImpF.mk fun hF => ?_) | (with_reducible refine ImpQ.mk fun hp => ?_) | (with_reducible refine AllE.mk fun p => ?_) | (with_reducible refine AllR.mk fun rest => ?_) | (with_reducible refine AllK.mk fun K => ?_))))); repeat' (with_reducible refine And.intro ?_ ?_))
    (focus (refine ⟨_, _, gh_close (t := 0) (ts := [1, 2, 3]) (l := SD now ⟨id, pa, kd, lo, hi, rep, ev, sev⟩ st res run bg last) ⟨⟨_, _, rfl⟩, ?_, by simp⟩, [0], rfl, ?_⟩; all_goals (refine fitq ?_ ?_ ?_ <;> try exact trivial); (try any_goals (refine ⟨?_, ?_⟩)); (try any_goals (with_reducible rfl))))
    all_goals (repeat' (first | (refine And.intro ?_ ?_) | rfl))
theorem c_stateLD {h : List Ch} {K : KT} {u : Nat} {now id pa kd lo hi rep ev sev st res run i last : Int} {bg : Bool} (H : K (.int .i64 (if id = i then st else 0)) h) (o : hth h u = .pack (SD now ⟨id, pa, kd, lo, hi, rep, ev, sev⟩ st res run bg last)) : Does Try.prog 13 [.ptr u 0, .int .i64 i] h K :=
  frame_look (b_stateLD now id pa kd lo hi rep ev sev st res run i last bg) o (by simp) (fitC_pack _) (br_cons (br_ptr rfl) (br_cons br_int br_nil)) (.inl rfl) (fun _ => rfl) rfl H
abbrev i_stateLD := Ctr.mk (i := 1) (g := 13) @c_stateLD
attribute [instance] i_stateLD
end Go.V

set_option maxRecDepth 100000
set_option maxHeartbeats 8000000
namespace Go.V
open Go.Proofs
attribute [-go_sem] SL PL SD
/-- what a delta's monitor keeps after k values -/
def dlK (H : Int) (l : List Int) : Nat → Int × Int × Int
  | 0 => (0, 0, 0)
  | k + 1 => (fdR 1 (dlK H l k).1 (dlK H l k).2.1 (dlK H l k).2.2 (rsD H (decide (0 < k)) (rpV l k) (l.getD k 0))).2
def dlS (H : Int) (l : List Int) (k : Nat) : Int := (dlK H l k).1
def dlR (H : Int) (l : List Int) (k : Nat) : Int := (dlK H l k).2.1
def dlU (H : Int) (l : List Int) (k : Nat) : Int := (dlK H l k).2.2
theorem dlU_le (H : Int) (l : List Int) (k : Nat) : 0 ≤ dlU H l k ∧ dlU H l k ≤ k := by
  induction k with
  | zero => simp [dlU, dlK]
  | succ k ih =>
    unfold dlU dlK
    unfold dlU at ih
    unfold fdR
    split <;> split <;> (dsimp only; omega)
theorem fd1 {st res run r : Int} (h : 0 ≤ run) : (fdR 1 st res run r).2.1 = r := by
  unfold fdR
  split
  · split
    · dsimp only; omega
    · rfl
  · split
    · dsimp only; omega
    · rfl
theorem b_deltas (H : Int) (l : List Int) (q1 : 0 ≤ H ∧ H ≤ 65535) (q4 : ∀ x ∈ l, -32768 ≤ x ∧ x ≤ 32767) (hln : l.length ≤ 9223372036854775807) :
    DoesK Try.prog 0 4 [.int .u16 H, .ro .i16 l] [] (EndF 0 (.bool true) []) := by
  refine DoesK.close ?_
  have hro : RoLit := .mk
  refine w_body (rs := [.tmp 4]) (tm := [.int .u16 H, .ro .i16 l, .any, .any, .any, .any, .any, .any, .any, .any, .any, .any, .any, .any, .any, .any, .any, .any, .any, .any, .any, .any, .any, .any, .any, .any, .any, .any, .any, .any, .any, .any, .any, .any, .any, .any, .any, .any, .any, .any, .any, .any, .any, .any, .any, .any, .any, .any, .any, .any, .any, .any, .any, .any, .any, .any, .any, .any, .any, .any, .any, .any, .any, .any, .any, .any, .any, .any, .any, .any, .any, .any, .any, .any, .any, .any, .any, .any, .any, .any, .any, .any, .any]) fn_4 rfl rfl rfl rfl fun R hR => ?_
  by_cases c1 : 100 < l.length
  · have d1 : decide ((100 : Int) < (l.length : Int)) = true := decide_eq_true (by omega)
    (have zx1 := @d1; all_goals (try ((first | (with_reducible refine wp_id ?_) | (with_reducible refine does_id ?_) | (with_reducible refine ops_id ?_)); refine walk ?_; (repeat' (first | exact trivial | with_reducible refine And.intro ?_ ?_)); all_goals (repeat (first | (with_reducible refine ImpB.mk fun hb => ?_) | (with_reducible refine ImpK.mk fun hK => ?_) | (with_reducible refine ImpF.mk fun hF => ?_) | (with_reducible refine ImpQ.mk fun hp => ?_) | (with_reducible refine AllE.mk fun p => ?_) | (with_reducible refine AllR.mk fun rest => ?_) | (with_reducible refine AllK.mk fun K => ?_))))); repeat' (with_reducible refine And.intro ?_ ?_))
    (focus (refine ⟨_, _, Gh.refl, [], rfl, ?_⟩; (refine fitq ?_ ?_ ?_ <;> try exact trivial); (try any_goals (refine ⟨?_, ?_⟩)); (try any_goals (with_reducible rfl))))
    all_goals (repeat' (first | (refine And.intro ?_ ?_) | rfl))
  have d1 : decide ((100 : Int) < (l.length : Int)) = false := decide_eq_false (by omega)
  have hwH : IntKind.i64.wrap H = H := wrap_i64 _ (by omega) (by omega)
  have e1 : isDel ⟨1, 0, 3, 0, H, 1, 0, 3⟩ := ⟨rfl, rfl, by show 0 ≤ H ∧ H ≤ 4294967296; omega⟩
  have e2 : isMon ⟨1, 0, 3, 0, H, 1, 0, 3⟩ := ⟨rfl, rfl, rfl, by show (1 : Int) ≤ 1 ∧ (1 : Int) ≤ 256; omega, by show (1 : Int) ≤ 3 ∧ (3 : Int) ≤ 4; omega⟩
  (have zx1 := @d1; have zx2 := @hwH; all_goals (try ((first | (with_reducible refine wp_id ?_) | (with_reducible refine does_id ?_) | (with_reducible refine ops_id ?_)); refine walk ?_; (repeat' (first | exact trivial | with_reducible refine And.intro ?_ ?_)); all_goals (repeat (first | (with_reducible refine ImpB.mk fun hb => ?_) | (with_reducible refine ImpK.mk fun hK => ?_) | (with_reducible refine ImpF.mk fun hF => ?_) | (with_reducible refine ImpQ.mk fun hp => ?_) | (with_reducible refine AllE.mk fun p => ?_) | (with_reducible refine AllR.mk fun rest => ?_) | (with_reducible refine AllK.mk fun K => ?_))))); repeat' (with_reducible refine And.intro ?_ ?_))
  all_goals first | (exfalso; omega) | skip
  any_goals ((try (refine w_seq fun K hK => ?_)); (try (refine w_block ?_)); refine w_loop (A := Nat) (fun k => k ≤ l.length) (fun k => l.length - k) (fun k => [(9, .int .i64 k)]) (fun k => [(0, .pack (SD (rpN k) ⟨1, 0, 3, 0, H, 1, 0, 3⟩ (dlS H l k) (dlR H l k) (dlU H l k) (decide (0 < k)) (rpV l k))), (1, .pack (PO (rpV l k) 0))]) (0) (ws := ?ws1) (tk := ?tk1) ?hw1 ?ht1 ?hi ?h0 ?LH1; (case hw1 => simp only [go_sem, decide_true, decide_false, Int.reduceToNat, Nat.min_eq_left, Nat.min_eq_right, Int.reducePow, Nat.reducePow, Int.reduceLE, Int.reduceLT, Int.reduceMul, Int.reduceAdd, Int.reduceSub, Int.reduceNeg, Bool.not_true, Bool.not_false, Bool.not_not, ↓reduceIte, Nat.reduceAdd, Nat.reduceSub, Nat.reduceMul, Nat.reduceEqDiff, reduceCtorEq, Nat.reduceLT, Nat.reduceLeDiff, Nat.reduceGT]; exact rfl); (case ht1 => simp only [go_sem, decide_true, decide_false, Int.reduceToNat, Nat.min_eq_left, Nat.min_eq_right, Int.reducePow, Nat.reducePow, Int.reduceLE, Int.reduceLT, Int.reduceMul, Int.reduceAdd, Int.reduceSub, Int.reduceNeg, Bool.not_true, Bool.not_false, Bool.not_not, ↓reduceIte, Nat.reduceAdd, Nat.reduceSub, Nat.reduceMul, Nat.reduceEqDiff, reduceCtorEq, Nat.reduceLT, Nat.reduceLeDiff, Nat.reduceGT]; exact rfl); (case' LH1 => rintro k E t hx hE ht; simp only [go_sem] at ht; subst ht; simp only [go_sem]; try dsimp only at hx))
  case hi => exact Nat.zero_le _
  case h0 =>
    (focus (refine ⟨_, _, Gh.refl, [0, 1, 2], rfl, ?_⟩; (refine fitq ?_ ?_ ?_ <;> try exact trivial); (try any_goals (refine ⟨?_, ?_⟩)); (try any_goals (with_reducible rfl))))
    all_goals (repeat' (first | (refine And.intro ?_ ?_) | rfl))
  case LH1 =>
    have hk0 : k ≤ l.length := hx
    by_cases hk : k < l.length
    · have hkd : decide ((k : Int) < (l.length : Int)) = true := decide_eq_true (by omega)
      have hkl : (k : Int) < (l.length : Int) := by omega
      have hw : IntKind.i64.wrap ((k : Int) + 1) = ((k + 1 : Nat) : Int) := by rw [wrap_i64 _ (by omega) (by omega)]; omega
      have hnw : nowQ (rpN k) (k : Int) = rpN (k + 1) := rp_now1 (by omega)
      have hpv : rpV l (k + 1) = l.getD k 0 := by unfold rpV; simp
      have hUl := dlU_le H l k
      have hat : ∀ j, j < l.length → -32768 ≤ l.getD j 0 ∧ l.getD j 0 ≤ 32767 := fun j hj => by
        rw [List.getD_eq_getElem?_getD, List.getElem?_eq_getElem hj]; exact q4 _ (List.getElem_mem hj)
      have hv1 := hat k hk
      have hS0 : dlS H l (k + 1) = (fdR 1 (dlS H l k) (dlR H l k) (dlU H l k) (rsD H (decide (0 < k)) (rpV l k) (l.getD k 0))).2.1 := rfl
      have hR0 : dlR H l (k + 1) = (fdR 1 (dlS H l k) (dlR H l k) (dlU H l k) (rsD H (decide (0 < k)) (rpV l k) (l.getD k 0))).2.2.1 := rfl
      have hU0 : dlU H l (k + 1) = (fdR 1 (dlS H l k) (dlR H l k) (dlU H l k) (rsD H (decide (0 < k)) (rpV l k) (l.getD k 0))).2.2.2 := rfl
      have hSr := fd1 (st := dlS H l k) (res := dlR H l k) (run := dlU H l k) (r := rsD H (decide (0 < k)) (rpV l k) (l.getD k 0)) hUl.1
      generalize dlS H l k = S at *
      generalize dlR H l k = R' at *
      generalize dlU H l k = U at *
      obtain ⟨v, hv⟩ : ∃ v : Int, l.getD k 0 = v := ⟨_, rfl⟩
      rw [hv] at hv1 hpv hS0 hR0 hU0 hSr
      have i1 : inS v = true := by unfold inS; simp; omega
      have hwv : IntKind.i64.wrap v = v := wrap_i64 _ (by omega) (by omega)
      have hrn : 0 ≤ U ∧ U ≤ 1000000 := by omega
      have hb1 : decide (0 < k + 1) = true := decide_eq_true (by omega)
      by_cases hz : k = 0
      · have hkm' : True := trivial
        have hb0 : decide (0 < k) = false := decide_eq_false (by omega)
        have hbi : decide ((0 : Int) < (k : Int)) = false := decide_eq_false (by omega)
        have hp0 : rpV l k = 0 := by unfold rpV; rw [if_pos hz]
        rw [hb0, hp0] at hS0 hR0 hU0 hSr ⊢
        have hrD : rsD H false 0 v = 1 := by unfold rsD; rw [if_neg (fun q => by cases q.1)]
        obtain ⟨⟨t, S', R2, U'⟩, hF⟩ : ∃ x, fdR 1 S R' U (rsD H false 0 v) = x := ⟨_, rfl⟩
        rw [hF] at hS0 hR0 hU0 hSr
        dsimp only at hS0 hR0 hU0 hSr
        rw [hrD] at hSr
        subst hSr
        have i0 : inS 0 = true := by decide
        (have zx1 := @hkd; have zx2 := @hw; have zx3 := @hv; have zx4 := @hwv; have zx5 := @hnw; have zx6 := @hbi; all_goals (try ((first | (with_reducible refine wp_id ?_) | (with_reducible refine does_id ?_) | (with_reducible refine ops_id ?_)); refine walk ?_; (repeat' (first | exact trivial | with_reducible refine And.intro ?_ ?_)); all_goals (repeat (first | (with_reducible refine ImpB.mk fun hb => ?_) | (with_reducible refine ImpK.mk fun hK => ?_) | (with_reducible refine ImpF.mk fun hF => ?_) | (with_reducible refine ImpQ.mk fun hp => ?_) | (with_reducible refine AllE.mk fun p => ?_) | (with_reducible refine AllR.mk fun rest => ?_) | (with_reducible refine AllK.mk fun K => ?_))))); repeat' (with_reducible refine And.intro ?_ ?_))
        any_goals first | exact Int.natCast_nonneg _ | exact hkl | exact hkm'
        refine ⟨k + 1, ⟨(by omega : k + 1 ≤ l.length), (by omega : l.length - (k + 1) < l.length - k)⟩, ?_⟩
        dsimp only
        rw [hS0, hR0, hU0, hpv, hb1]
        (focus (refine ⟨_, _, Gh.refl, [0, 1, 2], rfl, ?_⟩; (refine fitq ?_ ?_ ?_ <;> try exact trivial); (try any_goals (refine ⟨?_, ?_⟩)); (try any_goals (with_reducible rfl))))
        all_goals (repeat' (first | (refine And.intro ?_ ?_) | rfl))
      · have hb0 : decide (0 < k) = true := decide_eq_true (by omega)
        have hbi : decide ((0 : Int) < (k : Int)) = true := decide_eq_true (by omega)
        have hp0 : rpV l k = l.getD (k - 1) 0 := by unfold rpV; rw [if_neg hz]
        have hw1 : IntKind.i64.wrap ((k : Int) - 1) = ((k - 1 : Nat) : Int) := by rw [wrap_i64 _ (by omega) (by omega)]; omega
        have hu1 := hat (k - 1) (by omega)
        obtain ⟨u, hu⟩ : ∃ u : Int, l.getD (k - 1) 0 = u := ⟨_, rfl⟩
        rw [hu] at hu1 hp0
        rw [hb0, hp0] at hS0 hR0 hU0 hSr ⊢
        have i0 : inS u = true := by unfold inS; simp; omega
        have hwu : IntKind.i64.wrap u = u := wrap_i64 _ (by omega) (by omega)
        have hwd : IntKind.i64.wrap (v - u) = v - u := wrap_i64 _ (by omega) (by omega)
        have hwe : IntKind.i64.wrap (u - v) = u - v := wrap_i64 _ (by omega) (by omega)
        have hkm' : ((k - 1 : Nat) : Int) < (l.length : Int) := by omega
        obtain ⟨⟨t, S', R2, U'⟩, hF⟩ : ∃ x, fdR 1 S R' U (rsD H true u v) = x := ⟨_, rfl⟩
        rw [hF] at hS0 hR0 hU0 hSr
        dsimp only at hS0 hR0 hU0 hSr
        by_cases c : H < max (v - u) (u - v)
        · have hc : decide (H < max (v - u) (u - v)) = true := decide_eq_true c
          have hc' : decide (IntKind.i64.wrap H < max (v - u) (u - v)) = true := by rw [hwH]; exact hc
          have hrD : rsD H true u v = 4 := by unfold rsD; rw [if_pos ⟨rfl, by omega⟩]
          rw [hrD] at hSr
          subst hSr
          (have zx1 := @hkd; have zx2 := @hw; have zx3 := @hv; have zx4 := @hwv; have zx5 := @hnw; have zx6 := @hbi; have zx7 := @hw1; have zx8 := @hu; have zx9 := @hwu; have zx10 := @hwd; have zx11 := @hwe; have zx12 := @hc'; all_goals (try ((first | (with_reducible refine wp_id ?_) | (with_reducible refine does_id ?_) | (with_reducible refine ops_id ?_)); refine walk ?_; (repeat' (first | exact trivial | with_reducible refine And.intro ?_ ?_)); all_goals (repeat (first | (with_reducible refine ImpB.mk fun hb => ?_) | (with_reducible refine ImpK.mk fun hK => ?_) | (with_reducible refine ImpF.mk fun hF => ?_) | (with_reducible refine ImpQ.mk fun hp => ?_) | (with_reducible refine AllE.mk fun p => ?_) | (with_reducible refine AllR.mk fun rest => ?_) | (with_reducible refine AllK.mk fun K => ?_))))); repeat' (with_reducible refine And.intro ?_ ?_))
          any_goals first | exact Int.natCast_nonneg _ | exact hkl | exact hkm'
          refine ⟨k + 1, ⟨(by omega : k + 1 ≤ l.length), (by omega : l.length - (k + 1) < l.length - k)⟩, ?_⟩
          dsimp only
          rw [hS0, hR0, hU0, hpv, hb1]
          (focus (refine ⟨_, _, Gh.refl, [0, 1, 2], rfl, ?_⟩; (refine fitq ?_ ?_ ?_ <;> try exact trivial); (try any_goals (refine ⟨?_, ?_⟩)); (try any_goals (with_reducible rfl))))
          all_goals (repeat' (first | (refine And.intro ?_ ?_) | rfl))
        · have hc : decide (H < max (v - u) (u - v)) = false := decide_eq_false c
          have hc' : decide (IntKind.i64.wrap H < max (v - u) (u - v)) = false := by rw [hwH]; exact hc
          have hrD : rsD H true u v = 1 := by unfold rsD; rw [if_neg (fun q => c (by have := q.2; omega))]
          rw [hrD] at hSr
          subst hSr
          (have zx1 := @hkd; have zx2 := @hw; have zx3 := @hv; have zx4 := @hwv; have zx5 := @hnw; have zx6 := @hbi; have zx7 := @hw1; have zx8 := @hu; have zx9 := @hwu; have zx10 := @hwd; have zx11 := @hwe; have zx12 := @hc'; all_goals (try ((first | (with_reducible refine wp_id ?_) | (with_reducible refine does_id ?_) | (with_reducible refine ops_id ?_)); refine walk ?_; (repeat' (first | exact trivial | with_reducible refine And.intro ?_ ?_)); all_goals (repeat (first | (with_reducible refine ImpB.mk fun hb => ?_) | (with_reducible refine ImpK.mk fun hK => ?_) | (with_reducible refine ImpF.mk fun hF => ?_) | (with_reducible refine ImpQ.mk fun hp => ?_) | (with_reducible refine AllE.mk fun p => ?_) | (with_reducible refine AllR.mk fun rest => ?_) | (with_reducible refine AllK.mk fun K => ?_))))); repeat' (with_reducible refine And.intro ?_ ?_))
          any_goals first | exact Int.natCast_nonneg _ | exact hkl | exact hkm'
          refine ⟨k + 1, ⟨(by omega : k + 1 ≤ l.length), (by omega : l.length - (k + 1) < l.length - k)⟩, ?_⟩
          dsimp only
          rw [hS0, hR0, hU0, hpv, hb1]
          (focus (refine ⟨_, _, Gh.refl, [0, 1, 2], rfl, ?_⟩; (refine fitq ?_ ?_ ?_ <;> try exact trivial); (try any_goals (refine ⟨?_, ?_⟩)); (try any_goals (with_reducible rfl))))
          all_goals (repeat' (first | (refine And.intro ?_ ?_) | rfl))
    · obtain rfl : k = l.length := by omega
      have hkd : decide ((l.length : Int) < (l.length : Int)) = false := decide_eq_false (by omega)
      (have zx1 := @hkd; all_goals (try ((first | (with_reducible refine wp_id ?_) | (with_reducible refine does_id ?_) | (with_reducible refine ops_id ?_)); refine walk ?_; (repeat' (first | exact trivial | with_reducible refine And.intro ?_ ?_)); all_goals (repeat (first | (with_reducible refine ImpB.mk fun hb => ?_) | (with_reducible refine ImpK.mk fun hK => ?_) | (with_reducible refine ImpF.mk fun hF => ?_) | (with_reducible refine ImpQ.mk fun hp => ?_) | (with_reducible refine AllE.mk fun p => ?_) | (with_reducible refine AllR.mk fun rest => ?_) | (with_reducible refine AllK.mk fun K => ?_))))); repeat' (with_reducible refine And.intro ?_ ?_))
      (focus (refine ⟨_, _, Gh.refl, [], rfl, ?_⟩; (refine fitq ?_ ?_ ?_ <;> try exact trivial); (try any_goals (refine ⟨?_, ?_⟩)); (try any_goals (with_reducible rfl))))
      all_goals (repeat' (first | (refine And.intro ?_ ?_) | rfl))
end Go.V

namespace Go.V
/-- all that lies in the memory at the start lies for good -/
def oldR (w : World) : RO := fun b => w.heap[b]?
theorem old_ok (w : World) : HOk (oldR w) [] [] w := ⟨trivial, by simp [ownH], fun b hb => by simp [ownH] at hb, fun _ _ h => h⟩
theorem cell_of {w : World} {a : Addr} {v : Value} (h : w.cell? a = some v) : a.spot = none ∧ ∃ arr ty fr, w.heap[a.block]? = some (.cells arr ty fr) ∧ arr[a.off]? = some v := by
  unfold World.cell? at h
  split at h
  · rename_i c ty fr hc
    split at h
    · simp at h
    · rename_i hs
      exact ⟨by simpa using hs, c, ty, fr, hc, h⟩
  · simp at h
theorem add_block (a : Addr) (i : Nat) : (a.add i).block = a.block := by
  unfold Addr.add
  split <;> rfl
theorem add_off (a : Addr) (i : Nat) : (a.add i).off = a.off + i := by
  unfold Addr.add
  split
  · simp_all
  · rfl
/-- some cells in a row -/
theorem cells_of {w : World} {base : Nat} {a : Addr} {n : Nat} {cs : List Value} (h : w.cells? base a n = some cs) (hn : 0 < n) : a.spot = none ∧ ∃ arr ty fr, w.heap[a.block]? = some (.cells arr ty fr) ∧ (arr.toList.drop a.off).take n = cs := by
  obtain ⟨_, hl, hg⟩ := World.cells?_some h
  have h0 := hg 0 hn
  rw [List.getElem?_eq_getElem (by omega)] at h0
  obtain ⟨hs, arr, ty, fr, hb, _⟩ := cell_of h0
  rw [add_block] at hb
  refine ⟨by simpa [Addr.add] using hs, arr, ty, fr, hb, ?_⟩
  apply List.ext_getElem?
  intro i
  by_cases hi : i < n
  · have h1 := hg i hi
    rw [List.getElem?_eq_getElem (show i < cs.length by omega)] at h1
    obtain ⟨_, arr', ty', fr', hb', h2⟩ := cell_of h1
    rw [add_block, hb] at hb'
    cases hb'
    rw [add_off] at h2
    rw [List.getElem?_take_of_lt hi, List.getElem?_drop, List.getElem?_eq_getElem (show i < cs.length by omega)]
    simpa using h2
  · rw [List.getElem?_eq_none (by simp; omega), List.getElem?_eq_none (by omega)]
/-- a type: what reads as data of it lies as one of these lists of abstract values -/
def Opens (P : Program) (w : World) (t : TypeId) (S : List AV → Prop) : Prop :=
  ∀ (H : Type) (enc : TypeId × Value → H) (base : Nat) (spare : Nat → Bool) (held : Bool) (fuel : Nat) (cs : List Value) (x : DataW H × List MemPlace), DataW.trod enc P w base spare held fuel t cs = some x → ∃ l, S l ∧ LRel (oldR w) [] l cs
section
variable {P : Program} {w : World}
theorem Opens.mono {t : TypeId} {S S' : List AV → Prop} (h : Opens P w t S) (hs : ∀ l, S l → S' l) : Opens P w t S' := fun H enc base spare held fuel cs x hx => by
  obtain ⟨l, h1, h2⟩ := h H enc base spare held fuel cs x hx
  exact ⟨l, hs l h1, h2⟩
theorem Opens.int {t : TypeId} {k : IntKind} (ht : P.underlying t = some (.int k)) : Opens P w t fun l => ∃ n, k.has n ∧ l = [.int k n] := fun H enc base spare held fuel cs x hx => by
  cases fuel with
  | zero => simp [DataW.trod] at hx
  | succ fuel =>
    unfold DataW.trod at hx
    simp only [ht] at hx
    split at hx
    all_goals first | (rename_i h1 _; cases h1; done) | skip
    all_goals simp_all
    rename_i k' n h1
    subst h1
    obtain ⟨⟨rfl, h2⟩, _⟩ := hx
    exact ⟨_, ⟨n, by simpa [Lit.wf, IntKind.has] using h2, rfl⟩, .cons .int .nil⟩
theorem Opens.bool {t : TypeId} (ht : P.underlying t = some .bool) : Opens P w t fun l => ∃ b, l = [.bool b] := fun H enc base spare held fuel cs x hx => by
  cases fuel with
  | zero => simp [DataW.trod] at hx
  | succ fuel =>
    unfold DataW.trod at hx
    simp only [ht] at hx
    split at hx
    all_goals simp_all
    rename_i b
    cases b
    · exact .inl (.cons .bool .nil)
    · exact .inr (.cons .bool .nil)
def OpL (P : Program) (w : World) : List Field → List (List AV → Prop) → Prop
  | [], [] => True
  | f :: fs, S :: Ss => Opens P w f.type S ∧ OpL P w fs Ss
  | _, _ => False
theorem OpL.len : ∀ {fs : List Field} {Ss : List (List AV → Prop)}, OpL P w fs Ss → fs.length = Ss.length
  | [], [], _ => rfl
  | _ :: _, _ :: _, h => by simp [OpL.len h.2]
  | [], _ :: _, h => h.elim
  | _ :: _, [], h => h.elim
theorem OpL.get : ∀ {fs : List Field} {Ss : List (List AV → Prop)} (i : Nat) {f : Field} {S : List AV → Prop}, OpL P w fs Ss → fs[i]? = some f → Ss[i]? = some S → Opens P w f.type S
  | _ :: _, _ :: _, 0, _, _, h, e1, e2 => by simp at e1 e2; subst e1; subst e2; exact h.1
  | _ :: _, _ :: _, i + 1, _, _, h, e1, e2 => OpL.get i h.2 (by simpa using e1) (by simpa using e2)
  | [], [], _, _, _, _, e1, _ => by simp at e1
  | [], _ :: _, _, _, _, h, _, _ => h.elim
  | _ :: _, [], _, _, _, h, _, _ => h.elim
/-- slices: of the kind of elements e, each as `ok` says -/
theorem Opens.slice {t te : TypeId} {e : Ety} {S : List AV → Prop} {ok : e.T → Prop} (ht : P.underlying t = some (.slice te)) (hsz : P.cellsOf te = e.sz) (he : Opens P w te S) (hok : ∀ l, S l → ∃ x : e.T, e.enc x = l ∧ ok x) :
    Opens P w t fun l => ∃ xs : List e.T, xs.length ≤ maxLen ∧ (∀ x ∈ xs, ok x) ∧ l = [.ro e xs] := fun H enc base spare held fuel cs x hx => by
  rcases DataW.trod_slice ht hx with ⟨rfl, _⟩ | ⟨a, len, cap, elems, rest, n, _, rfl, _, _, hlc, hcm, hel, hg, _⟩
  · exact ⟨[.ro e []], ⟨[], by simp, by simp, rfl⟩, .cons (.ro0 (Nat.zero_le _)) .nil⟩
  · by_cases h0 : len = 0
    · subst h0
      exact ⟨[.ro e []], ⟨[], by simp, by simp, rfl⟩, .cons (.ro0 hcm) .nil⟩
    · have hz := e.sz_pos
      have each : ∀ i, i < len → ∃ (m : e.T) (cs' : List Value), ok m ∧ LRel (oldR w) [] (e.enc m) cs' ∧ w.cells? base (a.add (i * e.sz)) e.sz = some cs' := by
        intro i hi
        have h1 := hg i hi
        rw [List.getElem?_eq_getElem (by omega), hsz] at h1
        obtain ⟨cs', h2, h3⟩ := Option.bind_eq_some_iff.1 h1
        obtain ⟨l, h4, h5⟩ := he H enc base spare held n _ _ h3
        obtain ⟨m, rfl, h6⟩ := hok l h4
        exact ⟨m, cs', h6, h5, h2⟩
      obtain ⟨_, _, _, _, hc0⟩ := each 0 (by omega)
      obtain ⟨hs, arr, ty, fr, hb, _⟩ := cells_of hc0 hz
      have hs0 : a.spot = none := by
        rw [Nat.zero_mul] at hs
        simpa [Addr.add] using hs
      rw [add_block] at hb
      have key : ∀ k, k ≤ len → ∃ xs : List e.T, xs.length = k ∧ (∀ x ∈ xs, ok x) ∧ LRel (oldR w) [] (xs.flatMap e.enc) ((arr.toList.drop a.off).take (k * e.sz)) := by
        intro k
        induction k with
        | zero => intro _; exact ⟨[], rfl, by simp, by simp; exact .nil⟩
        | succ k ih =>
          intro hk
          obtain ⟨xs, h1, h2, h3⟩ := ih (by omega)
          obtain ⟨m, cs', h4, h5, h6⟩ := each k (by omega)
          obtain ⟨_, arr', ty', fr', hb', h7⟩ := cells_of h6 hz
          rw [add_block, hb] at hb'
          cases hb'
          rw [add_off] at h7
          refine ⟨xs ++ [m], by simp [h1], fun x hx => ?_, ?_⟩
          · rcases List.mem_append.1 hx with hx | hx
            · exact h2 x hx
            · rw [List.mem_singleton] at hx
              subst hx
              exact h4
          · rw [List.flatMap_append, List.flatMap_singleton, Nat.succ_mul, List.take_add, List.drop_drop, h7]
            exact h3.app h5
      obtain ⟨xs, h1, h2, h3⟩ := key len (Nat.le_refl _)
      refine ⟨[.ro e xs], ⟨xs, by omega, h2, rfl⟩, .cons ?_ .nil⟩
      obtain ⟨ab, ao, sp⟩ := a
      simp only at hs0
      subst hs0
      rw [← h1]
      exact .ro hb (by rw [h1]; exact h3) (by omega) hcm
/-! ### Arguments -/
def OpensV (P : Program) (w : World) (t : TypeId) (S : AV → Prop) : Prop :=
  ∀ (H : Type) (enc : TypeId × Value → H) (r : Reach) (b0 : Nat) (v : Value) (d : DataW H) (p : List MemPlace), Value.okWide P w r b0 t v → DataW.Trod enc P w 0 (fun _ => true) true t v d p → ∃ a, S a ∧ Rel (oldR w) [] a v
theorem Opens.arg1 {t : TypeId} {S : List AV → Prop} (h : Opens P w t S) (ht : ∀ v r b0, Value.okWide P w r b0 t v → v.cells = #[v]) : OpensV P w t fun a => S [a] := fun H enc r b0 v d p hv hd => by
  obtain ⟨fuel, hd⟩ := hd
  obtain ⟨l, h1, h2⟩ := h H enc _ _ _ fuel _ _ hd
  rw [ht v r b0 hv] at h2
  cases h2 with
  | cons h3 h4 =>
    cases h4
    exact ⟨_, h1, h3⟩
theorem one_of {t : TypeId} {u : TypeDesc} (ht : P.underlying t = some u) (hu : (match u with | .bool | .int _ | .string | .slice _ => true | _ => false) = true) (v : Value) (r : Reach) (b0 : Nat) (hv : Value.okWide P w r b0 t v) : v.cells = #[v] := by
  unfold Value.okWide at hv
  cases u <;> simp at hu <;> simp only [ht] at hv <;> unfold Cell.okWide Cell.ok at hv <;> simp only [ht] at hv <;> cases v <;> first | rfl | (simp at hv; done)
end
/-- a call over nothing but what lies for good leaves what lay there as it is -/
theorem does_calls {P : Program} {g : FuncId} {xs : List AV} {S : AV → Prop} {vs : List Value} {w : World} (H : Does P g xs [] fun a _ => S a) (hr : LRel (oldR w) [] xs vs) : Calls P g vs.toArray w fun e w' => (∃ v a R μ, e = .returned v ∧ S a ∧ Rel R μ a v) ∧ Go.RowKit.Below w.heap.size w w' :=
  (H.run (oldR w) [] w vs hr (old_ok w)).mono fun e w' hx => by
    obtain ⟨v, R', μ', h', av, rfl, h1, h2, _, _, h3⟩ := hx
    exact ⟨⟨v, av, R', μ', rfl, h1, h2⟩, h3.os, h3.tape, h3.output, h3.size, fun k hk => h3.out k hk (by simp [ownH])⟩
theorem does_true {P : Program} {g : FuncId} {xs : List AV} {vs : List Value} {w : World} (H : Does P g xs [] fun a _ => a = .bool true) (hr : LRel (oldR w) [] xs vs) : Calls P g vs.toArray w fun e w' => e = .returned (.bool true) ∧ Go.RowKit.Below w.heap.size w w' :=
  (does_calls H hr).mono fun e w' hx => by
    obtain ⟨⟨v, a, R, μ, rfl, rfl, h2⟩, hb⟩ := hx
    cases h2
    exact ⟨rfl, hb⟩
end Go.V

set_option maxRecDepth 100000
namespace Go.V
open Go.Proofs
theorem byte_enc {n : Int} (h : IntKind.u8.has n) : Ety.enc .byte (UInt8.ofNat n.toNat) = [.int .u8 n] := by
  have h1 : 0 ≤ n ∧ n ≤ 255 := h
  have : ((UInt8.ofNat n.toNat).toNat : Int) = n := by simp; omega
  show [AV.int .u8 ((UInt8.ofNat n.toNat).toNat : Int)] = _
  rw [this]
theorem op_T3 (w : World) : Opens Try.prog w 3 fun l => ∃ n, IntKind.i64.has n ∧ l = [.int .i64 n] := Opens.int Try.underlying3
theorem arg_T3 (w : World) : OpensV Try.prog w 3 fun a => ∃ n, IntKind.i64.has n ∧ a = .int .i64 n := fun H enc r b0 v d p hv hd => by
  obtain ⟨a, ⟨n, h1, e⟩, h⟩ := (op_T3 w).arg1 (one_of Try.underlying3 rfl) H enc r b0 v d p hv hd
  cases e
  exact ⟨_, ⟨n, h1, rfl⟩, h⟩
theorem op_T4 (w : World) : Opens Try.prog w 4 fun l => ∃ b, l = [.bool b] := Opens.bool Try.underlying4
theorem arg_T4 (w : World) : OpensV Try.prog w 4 fun a => ∃ b, a = .bool b := fun H enc r b0 v d p hv hd => by
  obtain ⟨a, ⟨n, e⟩, h⟩ := (op_T4 w).arg1 (one_of Try.underlying4 rfl) H enc r b0 v d p hv hd
  cases e
  exact ⟨_, ⟨n, rfl⟩, h⟩
theorem op_T45 (w : World) : Opens Try.prog w 45 fun l => ∃ n, IntKind.u16.has n ∧ l = [.int .u16 n] := Opens.int Try.underlying45
theorem arg_T45 (w : World) : OpensV Try.prog w 45 fun a => ∃ n, IntKind.u16.has n ∧ a = .int .u16 n := fun H enc r b0 v d p hv hd => by
  obtain ⟨a, ⟨n, h1, e⟩, h⟩ := (op_T45 w).arg1 (one_of Try.underlying45 rfl) H enc r b0 v d p hv hd
  cases e
  exact ⟨_, ⟨n, h1, rfl⟩, h⟩
theorem op_T22 (w : World) : Opens Try.prog w 22 fun l => ∃ n, IntKind.i16.has n ∧ l = [.int .i16 n] := Opens.int Try.underlying22
def okE_i16 (x : Ety.T .i16) : Prop := IntKind.i16.has x
theorem op_T23 (w : World) : Opens Try.prog w 23 fun l => ∃ xs : List (Ety.T .i16), xs.length ≤ maxLen ∧ (∀ x ∈ xs, okE_i16 x) ∧ l = [.ro .i16 xs] :=
  Opens.slice (e := .i16) (ok := okE_i16) Try.underlying23 (by kernel_rfl) (op_T22 w) fun l ⟨n, h, e⟩ => ⟨n, e.symm, h⟩
theorem arg_T23 (w : World) : OpensV Try.prog w 23 fun a => ∃ xs : List (Ety.T .i16), xs.length ≤ maxLen ∧ (∀ x ∈ xs, okE_i16 x) ∧ a = .ro .i16 xs := fun H enc r b0 v d p hv hd => by
  obtain ⟨a, ⟨n, h1, h2, e⟩, h⟩ := (op_T23 w).arg1 (one_of Try.underlying23 rfl) H enc r b0 v d p hv hd
  cases e
  exact ⟨_, ⟨n, h1, h2, rfl⟩, h⟩
/-- a law that was walked -/
theorem law_true {g : FuncId} {la : List AV} {vs : List Value} {w : World} (H : DoesK Try.prog 0 g la [] (EndF 0 (.bool true) [])) (hb : brL [] [] la la) (hr : LRel (oldR w) [] la vs) : Calls Try.prog g vs.toArray w fun e w' => e = .returned (.bool true) ∧ Go.RowKit.Below w.heap.size w w' :=
  does_true (frame_pure H hb (.inr rfl) (fun _ => rfl) rfl) hr
end Go.V
