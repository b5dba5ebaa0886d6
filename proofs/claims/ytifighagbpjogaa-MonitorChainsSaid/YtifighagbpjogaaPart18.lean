/-
  monitor: feed of an entry with any checker, in any memory.
  monitor: a service that lies open beside another object.
-/
import Derived.Test.YtifighagbpjogaaPart17
set_option linter.unusedVariables false
set_option linter.unusedSimpArgs false
set_option maxRecDepth 100000
set_option maxHeartbeats 8000000
namespace Go.V
open Go.Proofs
attribute [-go_sem] SL PL
/-- the values that a parameter may have -/
structure VR (v : Int) : Prop where
  lo : -2147483648 ≤ v
  hi : v < 4294967296
def rsE (lo v : Int) : Int := if v = lo then 1 else 4
theorem b_echk (lo v : Int) : DoesK Try.prog 0 68 [.agg [.int .i64 lo], .int .i64 v] [] (EndF 0 (.int .i64 (rsE lo v)) []) := by
  refine DoesK.close ?_
  unfold rsE
  by_cases c1 : v = lo
  · have d1 : decide (v = lo) = true := decide_eq_true c1
    rw [if_pos c1]
    refine w_body (rs := [.tmp 4]) (tm := [.agg [.int .i64 lo], .int .i64 v, .any, .any, .any, .any, .any, .any, .any]) fn_68 rfl rfl rfl rfl fun R hR => ?_
    (have zx1 := @d1; all_goals (try ((first | (with_reducible refine wp_id ?_) | (with_reducible refine does_id ?_) | (with_reducible refine ops_id ?_) | (with_reducible refine dw_id ?_)); refine walk ?_; (repeat' (first | exact trivial | with_reducible refine And.intro ?_ ?_)); all_goals (repeat (first | (with_reducible refine ImpB.mk fun hb => ?_) | (with_reducible refine ImpK.mk fun hK => ?_) | (with_reducible refine ImpF.mk fun hF => ?_) | (with_reducible refine ImpQ.mk fun hp => ?_) | (with_reducible refine AllE.mk fun p => ?_) | (with_reducible refine AllR.mk fun rest => ?_) | (with_reducible refine AllK.mk fun K => ?_))))); repeat' (with_reducible refine And.intro ?_ ?_))
    (focus (refine ⟨_, _, Gh.refl, [], rfl, ?_⟩; (refine fitq ?_ ?_ ?_ <;> try exact trivial); (try any_goals (refine ⟨?_, ?_⟩)); (try any_goals (with_reducible rfl))))
  · have d1 : decide (v = lo) = false := decide_eq_false c1
    rw [if_neg c1]
    refine w_body (rs := [.tmp 4]) (tm := [.agg [.int .i64 lo], .int .i64 v, .any, .any, .any, .any, .any, .any, .any]) fn_68 rfl rfl rfl rfl fun R hR => ?_
    (have zx1 := @d1; all_goals (try ((first | (with_reducible refine wp_id ?_) | (with_reducible refine does_id ?_) | (with_reducible refine ops_id ?_) | (with_reducible refine dw_id ?_)); refine walk ?_; (repeat' (first | exact trivial | with_reducible refine And.intro ?_ ?_)); all_goals (repeat (first | (with_reducible refine ImpB.mk fun hb => ?_) | (with_reducible refine ImpK.mk fun hK => ?_) | (with_reducible refine ImpF.mk fun hF => ?_) | (with_reducible refine ImpQ.mk fun hp => ?_) | (with_reducible refine AllE.mk fun p => ?_) | (with_reducible refine AllR.mk fun rest => ?_) | (with_reducible refine AllK.mk fun K => ?_))))); repeat' (with_reducible refine And.intro ?_ ?_))
    (focus (refine ⟨_, _, Gh.refl, [], rfl, ?_⟩; (refine fitq ?_ ?_ ?_ <;> try exact trivial); (try any_goals (refine ⟨?_, ?_⟩)); (try any_goals (with_reducible rfl))))
theorem c_echk {h : List Ch} {K : KT} {lo v : Int} (H : K (.int .i64 (rsE lo v)) h) : Does Try.prog 68 [.agg [.int .i64 lo], .int .i64 v] h K :=
  frame_pure (b_echk lo v) (br_cons (br_agg (br_cons br_int br_nil)) (br_cons br_int br_nil)) (.inr rfl) (fun _ => rfl) H
abbrev i_echk := Ctr.mk (i := 0) (g := 68) @c_echk
attribute [instance] i_echk
theorem symQ {h : List Ch} {p : Nat} (hp : p < h.length) : (∀ c, hth (h.set p c) p = c) ∧ ∀ c c', (h.set p c).set p c' = h.set p c' :=
  ⟨fun c => hth_set_eq hp, fun c c' => List.set_set ..⟩
theorem k_dchkS {n0 : Nat} {K : KT} {h : List Ch} {d : Nat} {most last v : Int} {bg : Bool} (q1 : VR v) (q2 : VR last) (o : hth h d = .cells (dlL most bg last)) (H : K (.int .i64 (rsD most bg last v)) (h.set d (.cells (dlL most true v)))) : DoesK Try.prog n0 66 [.ptr d 0, .int .i64 v] h K := by
  obtain ⟨q11, q12⟩ := q1
  obtain ⟨q21, q22⟩ := q2
  have hw : IntKind.i64.wrap (max v last - min v last) = max v last - min v last := wrap_i64 _ (by omega) (by omega)
  have t2 := symQ (h := h) (p := d) (hth_lt (by rw [o]; simp))
  cases bg
  · have hr : rsD most false last v = 1 := by unfold rsD; rw [if_neg (fun q => by cases q.1)]
    rw [hr] at H
    refine w_body (rs := [.tmp 4]) (tm := [.ptr d 0, .int .i64 v, .any, .any, .any, .any, .any, .any, .any, .any, .any, .any, .any, .any, .any, .any, .any, .any, .any, .any, .any, .any, .any, .any, .any, .any, .any, .any, .any, .any, .any, .any, .any, .any, .any, .any, .any, .any, .any]) fn_66 rfl rfl rfl rfl fun R hR => ?_
    (have zx1 := @hw; have zx2 := @o; have zx3 := @t2; all_goals (try ((first | (with_reducible refine wp_id ?_) | (with_reducible refine does_id ?_) | (with_reducible refine ops_id ?_) | (with_reducible refine dw_id ?_)); refine walk ?_; (repeat' (first | exact trivial | with_reducible refine And.intro ?_ ?_)); all_goals (repeat (first | (with_reducible refine ImpB.mk fun hb => ?_) | (with_reducible refine ImpK.mk fun hK => ?_) | (with_reducible refine ImpF.mk fun hF => ?_) | (with_reducible refine ImpQ.mk fun hp => ?_) | (with_reducible refine AllE.mk fun p => ?_) | (with_reducible refine AllR.mk fun rest => ?_) | (with_reducible refine AllK.mk fun K => ?_))))); repeat' (with_reducible refine And.intro ?_ ?_))
    all_goals exact H
  · by_cases c : most < max v last - min v last
    · have hr : rsD most true last v = 4 := by unfold rsD; rw [if_pos ⟨rfl, c⟩]
      rw [hr] at H
      have hd : decide (max v last - min v last ≤ most) = false := decide_eq_false (by omega)
      refine w_body (rs := [.tmp 4]) (tm := [.ptr d 0, .int .i64 v, .any, .any, .any, .any, .any, .any, .any, .any, .any, .any, .any, .any, .any, .any, .any, .any, .any, .any, .any, .any, .any, .any, .any, .any, .any, .any, .any, .any, .any, .any, .any, .any, .any, .any, .any, .any, .any]) fn_66 rfl rfl rfl rfl fun R hR => ?_
      (have zx1 := @hw; have zx2 := @hd; have zx3 := @o; have zx4 := @t2; all_goals (try ((first | (with_reducible refine wp_id ?_) | (with_reducible refine does_id ?_) | (with_reducible refine ops_id ?_) | (with_reducible refine dw_id ?_)); refine walk ?_; (repeat' (first | exact trivial | with_reducible refine And.intro ?_ ?_)); all_goals (repeat (first | (with_reducible refine ImpB.mk fun hb => ?_) | (with_reducible refine ImpK.mk fun hK => ?_) | (with_reducible refine ImpF.mk fun hF => ?_) | (with_reducible refine ImpQ.mk fun hp => ?_) | (with_reducible refine AllE.mk fun p => ?_) | (with_reducible refine AllR.mk fun rest => ?_) | (with_reducible refine AllK.mk fun K => ?_))))); repeat' (with_reducible refine And.intro ?_ ?_))
      all_goals exact H
    · have hr : rsD most true last v = 1 := by unfold rsD; rw [if_neg (fun q => c q.2)]
      rw [hr] at H
      have hd : decide (max v last - min v last ≤ most) = true := decide_eq_true (by omega)
      refine w_body (rs := [.tmp 4]) (tm := [.ptr d 0, .int .i64 v, .any, .any, .any, .any, .any, .any, .any, .any, .any, .any, .any, .any, .any, .any, .any, .any, .any, .any, .any, .any, .any, .any, .any, .any, .any, .any, .any, .any, .any, .any, .any, .any, .any, .any, .any, .any, .any]) fn_66 rfl rfl rfl rfl fun R hR => ?_
      (have zx1 := @hw; have zx2 := @hd; have zx3 := @o; have zx4 := @t2; all_goals (try ((first | (with_reducible refine wp_id ?_) | (with_reducible refine does_id ?_) | (with_reducible refine ops_id ?_) | (with_reducible refine dw_id ?_)); refine walk ?_; (repeat' (first | exact trivial | with_reducible refine And.intro ?_ ?_)); all_goals (repeat (first | (with_reducible refine ImpB.mk fun hb => ?_) | (with_reducible refine ImpK.mk fun hK => ?_) | (with_reducible refine ImpF.mk fun hF => ?_) | (with_reducible refine ImpQ.mk fun hp => ?_) | (with_reducible refine AllE.mk fun p => ?_) | (with_reducible refine AllR.mk fun rest => ?_) | (with_reducible refine AllK.mk fun K => ?_))))); repeat' (with_reducible refine And.intro ?_ ?_))
      all_goals exact H
theorem c_dchkS {K : KT} {h : List Ch} {d : Nat} {most last v : Int} {bg : Bool} (H : K (.int .i64 (rsD most bg last v)) (h.set d (.cells (dlL most true v)))) (o : hth h d = .cells (dlL most bg last)) (e1 : VR v) (e2 : VR last) : Does Try.prog 66 [.ptr d 0, .int .i64 v] h K := Does.of_K (k_dchkS e1 e2 o H)
abbrev i_dchkS := Ctr.mk (i := 1) (g := 66) @c_dchkS
attribute [instance] i_dchkS
/-- what a value makes of an entry -/
abbrev fdE (e : Sm) (v : Int) : Bool × Int × Int × Int := fdR e.m.rep e.st e.res e.run (resE e.m e.bg e.last v)
def nxE (e : Sm) (v : Int) : Sm := ⟨e.m, e.off, (fdE e v).2.1, (fdE e v).2.2.1, (fdE e v).2.2.2, true, v⟩
def fdH (h : List Ch) (p d : Nat) (e : Sm) (v : Int) : List Ch := (if e.m.kind = 3 then h.set d (.cells (dlV (nxE e v))) else h).set p (.cells (enC (nxE e v) d))
abbrev enX (m : Mon) (c : AV) (off : Bool) (st res run : Int) : List AV := [.int .i64 m.id, .int .i64 m.param, .int .i64 m.kind, .int .i64 m.low, .int .i64 m.high, .int .i64 m.rep, .int .i64 m.ev, .int .i64 m.sev, c, .bool off, .int .i64 st, .int .i64 res, .int .i64 run]
theorem k_feedSL {n0 : Nat} {h : List Ch} {K : KT} {p : Nat} {m : Mon} {off : Bool} {st res run v : Int} {t : Bool} {st2 res2 run2 : Int} (o : hth h p = .cells (enX m (.ifc 103 (.agg [.int .i64 m.low, .int .i64 m.high])) off st res run)) (e : fdR m.rep st res run (rsL m.low m.high v) = (t, st2, res2, run2)) (h0 : 0 ≤ run ∧ run ≤ 1000000) (H : K (.bool t) (h.set p (.cells (enX m (.ifc 103 (.agg [.int .i64 m.low, .int .i64 m.high])) off st2 res2 run2)))) : DoesK Try.prog n0 30 [.ptr p 0, .int .i64 v] h K := by
  have t2 := symQ (h := h) (p := p) (hth_lt (by rw [o]; simp))
  obtain ⟨r, hr⟩ : ∃ r, rsL m.low m.high v = r := ⟨_, rfl⟩
  rw [hr] at e
  unfold fdR at e
  by_cases c1 : r = res
  · have d1 : decide (¬ r = res) = false := decide_eq_false (fun q => q c1)
    rw [if_pos c1] at e
    have hw : IntKind.i64.wrap (run + 1) = run + 1 := wrap_i64 _ (by omega) (by omega)
    by_cases c2 : run + 1 < m.rep
    · have d2 : decide (run + 1 < m.rep) = true := decide_eq_true c2
      rw [if_pos (.inl c2)] at e
      cases e
      subst c1
      refine w_body (rs := [.tmp 4]) (tm := [.ptr p 0, .int .i64 v, .any, .any, .any, .any, .any, .any, .any, .any, .any, .any, .any, .any, .any, .any, .any, .any, .any, .any, .any, .any, .any, .any, .any, .any, .any, .any, .any, .any, .any, .any, .any, .any, .any, .any, .any, .any, .any, .any, .any, .any, .any, .any, .any, .any, .any, .any, .any, .any, .any, .any, .any, .any]) fn_30 rfl rfl rfl rfl fun R hR => ?_
      (have zx1 := @hr; have zx2 := @d1; have zx3 := @d2; have zx4 := @hw; have zx5 := @o; have zx6 := @t2; all_goals (try ((first | (with_reducible refine wp_id ?_) | (with_reducible refine does_id ?_) | (with_reducible refine ops_id ?_) | (with_reducible refine dw_id ?_)); refine walk ?_; (repeat' (first | exact trivial | with_reducible refine And.intro ?_ ?_)); all_goals (repeat (first | (with_reducible refine ImpB.mk fun hb => ?_) | (with_reducible refine ImpK.mk fun hK => ?_) | (with_reducible refine ImpF.mk fun hF => ?_) | (with_reducible refine ImpQ.mk fun hp => ?_) | (with_reducible refine AllE.mk fun p => ?_) | (with_reducible refine AllR.mk fun rest => ?_) | (with_reducible refine AllK.mk fun K => ?_))))); repeat' (with_reducible refine And.intro ?_ ?_))
      all_goals exact H
    · have d2 : decide (run + 1 < m.rep) = false := decide_eq_false c2
      by_cases c3 : st = r
      · have d3 : decide (st = r) = true := decide_eq_true c3
        rw [if_pos (.inr c3)] at e
        cases e
        subst c1
        refine w_body (rs := [.tmp 4]) (tm := [.ptr p 0, .int .i64 v, .any, .any, .any, .any, .any, .any, .any, .any, .any, .any, .any, .any, .any, .any, .any, .any, .any, .any, .any, .any, .any, .any, .any, .any, .any, .any, .any, .any, .any, .any, .any, .any, .any, .any, .any, .any, .any, .any, .any, .any, .any, .any, .any, .any, .any, .any, .any, .any, .any, .any, .any, .any]) fn_30 rfl rfl rfl rfl fun R hR => ?_
        (have zx1 := @hr; have zx2 := @d1; have zx3 := @d2; have zx4 := @d3; have zx5 := @hw; have zx6 := @o; have zx7 := @t2; all_goals (try ((first | (with_reducible refine wp_id ?_) | (with_reducible refine does_id ?_) | (with_reducible refine ops_id ?_) | (with_reducible refine dw_id ?_)); refine walk ?_; (repeat' (first | exact trivial | with_reducible refine And.intro ?_ ?_)); all_goals (repeat (first | (with_reducible refine ImpB.mk fun hb => ?_) | (with_reducible refine ImpK.mk fun hK => ?_) | (with_reducible refine ImpF.mk fun hF => ?_) | (with_reducible refine ImpQ.mk fun hp => ?_) | (with_reducible refine AllE.mk fun p => ?_) | (with_reducible refine AllR.mk fun rest => ?_) | (with_reducible refine AllK.mk fun K => ?_))))); repeat' (with_reducible refine And.intro ?_ ?_))
        all_goals exact H
      · have d3 : decide (st = r) = false := decide_eq_false c3
        rw [if_neg (fun q => q.elim c2 c3)] at e
        cases e
        subst c1
        refine w_body (rs := [.tmp 4]) (tm := [.ptr p 0, .int .i64 v, .any, .any, .any, .any, .any, .any, .any, .any, .any, .any, .any, .any, .any, .any, .any, .any, .any, .any, .any, .any, .any, .any, .any, .any, .any, .any, .any, .any, .any, .any, .any, .any, .any, .any, .any, .any, .any, .any, .any, .any, .any, .any, .any, .any, .any, .any, .any, .any, .any, .any, .any, .any]) fn_30 rfl rfl rfl rfl fun R hR => ?_
        (have zx1 := @hr; have zx2 := @d1; have zx3 := @d2; have zx4 := @d3; have zx5 := @hw; have zx6 := @o; have zx7 := @t2; all_goals (try ((first | (with_reducible refine wp_id ?_) | (with_reducible refine does_id ?_) | (with_reducible refine ops_id ?_) | (with_reducible refine dw_id ?_)); refine walk ?_; (repeat' (first | exact trivial | with_reducible refine And.intro ?_ ?_)); all_goals (repeat (first | (with_reducible refine ImpB.mk fun hb => ?_) | (with_reducible refine ImpK.mk fun hK => ?_) | (with_reducible refine ImpF.mk fun hF => ?_) | (with_reducible refine ImpQ.mk fun hp => ?_) | (with_reducible refine AllE.mk fun p => ?_) | (with_reducible refine AllR.mk fun rest => ?_) | (with_reducible refine AllK.mk fun K => ?_))))); repeat' (with_reducible refine And.intro ?_ ?_))
        all_goals exact H
  · have d1 : decide (¬ r = res) = true := decide_eq_true c1
    rw [if_neg c1] at e
    have hw : IntKind.i64.wrap 1 = (1 : Int) := by decide
    by_cases c2 : (1 : Int) < m.rep
    · have d2 : decide ((1 : Int) < m.rep) = true := decide_eq_true c2
      rw [if_pos (.inl c2)] at e
      cases e
      refine w_body (rs := [.tmp 4]) (tm := [.ptr p 0, .int .i64 v, .any, .any, .any, .any, .any, .any, .any, .any, .any, .any, .any, .any, .any, .any, .any, .any, .any, .any, .any, .any, .any, .any, .any, .any, .any, .any, .any, .any, .any, .any, .any, .any, .any, .any, .any, .any, .any, .any, .any, .any, .any, .any, .any, .any, .any, .any, .any, .any, .any, .any, .any, .any]) fn_30 rfl rfl rfl rfl fun R hR => ?_
      (have zx1 := @hr; have zx2 := @d1; have zx3 := @d2; have zx4 := @hw; have zx5 := @o; have zx6 := @t2; all_goals (try ((first | (with_reducible refine wp_id ?_) | (with_reducible refine does_id ?_) | (with_reducible refine ops_id ?_) | (with_reducible refine dw_id ?_)); refine walk ?_; (repeat' (first | exact trivial | with_reducible refine And.intro ?_ ?_)); all_goals (repeat (first | (with_reducible refine ImpB.mk fun hb => ?_) | (with_reducible refine ImpK.mk fun hK => ?_) | (with_reducible refine ImpF.mk fun hF => ?_) | (with_reducible refine ImpQ.mk fun hp => ?_) | (with_reducible refine AllE.mk fun p => ?_) | (with_reducible refine AllR.mk fun rest => ?_) | (with_reducible refine AllK.mk fun K => ?_))))); repeat' (with_reducible refine And.intro ?_ ?_))
      all_goals exact H
    · have d2 : decide ((1 : Int) < m.rep) = false := decide_eq_false c2
      by_cases c3 : st = r
      · have d3 : decide (st = r) = true := decide_eq_true c3
        rw [if_pos (.inr c3)] at e
        cases e
        refine w_body (rs := [.tmp 4]) (tm := [.ptr p 0, .int .i64 v, .any, .any, .any, .any, .any, .any, .any, .any, .any, .any, .any, .any, .any, .any, .any, .any, .any, .any, .any, .any, .any, .any, .any, .any, .any, .any, .any, .any, .any, .any, .any, .any, .any, .any, .any, .any, .any, .any, .any, .any, .any, .any, .any, .any, .any, .any, .any, .any, .any, .any, .any, .any]) fn_30 rfl rfl rfl rfl fun R hR => ?_
        (have zx1 := @hr; have zx2 := @d1; have zx3 := @d2; have zx4 := @d3; have zx5 := @hw; have zx6 := @o; have zx7 := @t2; all_goals (try ((first | (with_reducible refine wp_id ?_) | (with_reducible refine does_id ?_) | (with_reducible refine ops_id ?_) | (with_reducible refine dw_id ?_)); refine walk ?_; (repeat' (first | exact trivial | with_reducible refine And.intro ?_ ?_)); all_goals (repeat (first | (with_reducible refine ImpB.mk fun hb => ?_) | (with_reducible refine ImpK.mk fun hK => ?_) | (with_reducible refine ImpF.mk fun hF => ?_) | (with_reducible refine ImpQ.mk fun hp => ?_) | (with_reducible refine AllE.mk fun p => ?_) | (with_reducible refine AllR.mk fun rest => ?_) | (with_reducible refine AllK.mk fun K => ?_))))); repeat' (with_reducible refine And.intro ?_ ?_))
        all_goals exact H
      · have d3 : decide (st = r) = false := decide_eq_false c3
        rw [if_neg (fun q => q.elim c2 c3)] at e
        cases e
        refine w_body (rs := [.tmp 4]) (tm := [.ptr p 0, .int .i64 v, .any, .any, .any, .any, .any, .any, .any, .any, .any, .any, .any, .any, .any, .any, .any, .any, .any, .any, .any, .any, .any, .any, .any, .any, .any, .any, .any, .any, .any, .any, .any, .any, .any, .any, .any, .any, .any, .any, .any, .any, .any, .any, .any, .any, .any, .any, .any, .any, .any, .any, .any, .any]) fn_30 rfl rfl rfl rfl fun R hR => ?_
        (have zx1 := @hr; have zx2 := @d1; have zx3 := @d2; have zx4 := @d3; have zx5 := @hw; have zx6 := @o; have zx7 := @t2; all_goals (try ((first | (with_reducible refine wp_id ?_) | (with_reducible refine does_id ?_) | (with_reducible refine ops_id ?_) | (with_reducible refine dw_id ?_)); refine walk ?_; (repeat' (first | exact trivial | with_reducible refine And.intro ?_ ?_)); all_goals (repeat (first | (with_reducible refine ImpB.mk fun hb => ?_) | (with_reducible refine ImpK.mk fun hK => ?_) | (with_reducible refine ImpF.mk fun hF => ?_) | (with_reducible refine ImpQ.mk fun hp => ?_) | (with_reducible refine AllE.mk fun p => ?_) | (with_reducible refine AllR.mk fun rest => ?_) | (with_reducible refine AllK.mk fun K => ?_))))); repeat' (with_reducible refine And.intro ?_ ?_))
        all_goals exact H
theorem k_feedSE {n0 : Nat} {h : List Ch} {K : KT} {p : Nat} {m : Mon} {off : Bool} {st res run v : Int} {t : Bool} {st2 res2 run2 : Int} (o : hth h p = .cells (enX m (.ifc 105 (.agg [.int .i64 m.low])) off st res run)) (e : fdR m.rep st res run (rsE m.low v) = (t, st2, res2, run2)) (h0 : 0 ≤ run ∧ run ≤ 1000000) (H : K (.bool t) (h.set p (.cells (enX m (.ifc 105 (.agg [.int .i64 m.low])) off st2 res2 run2)))) : DoesK Try.prog n0 30 [.ptr p 0, .int .i64 v] h K := by
  have t2 := symQ (h := h) (p := p) (hth_lt (by rw [o]; simp))
  obtain ⟨r, hr⟩ : ∃ r, rsE m.low v = r := ⟨_, rfl⟩
  rw [hr] at e
  unfold fdR at e
  by_cases c1 : r = res
  · have d1 : decide (¬ r = res) = false := decide_eq_false (fun q => q c1)
    rw [if_pos c1] at e
    have hw : IntKind.i64.wrap (run + 1) = run + 1 := wrap_i64 _ (by omega) (by omega)
    by_cases c2 : run + 1 < m.rep
    · have d2 : decide (run + 1 < m.rep) = true := decide_eq_true c2
      rw [if_pos (.inl c2)] at e
      cases e
      subst c1
      refine w_body (rs := [.tmp 4]) (tm := [.ptr p 0, .int .i64 v, .any, .any, .any, .any, .any, .any, .any, .any, .any, .any, .any, .any, .any, .any, .any, .any, .any, .any, .any, .any, .any, .any, .any, .any, .any, .any, .any, .any, .any, .any, .any, .any, .any, .any, .any, .any, .any, .any, .any, .any, .any, .any, .any, .any, .any, .any, .any, .any, .any, .any, .any, .any]) fn_30 rfl rfl rfl rfl fun R hR => ?_
      (have zx1 := @hr; have zx2 := @d1; have zx3 := @d2; have zx4 := @hw; have zx5 := @o; have zx6 := @t2; all_goals (try ((first | (with_reducible refine wp_id ?_) | (with_reducible refine does_id ?_) | (with_reducible refine ops_id ?_) | (with_reducible refine dw_id ?_)); refine walk ?_; (repeat' (first | exact trivial | with_reducible refine And.intro ?_ ?_)); all_goals (repeat (first | (with_reducible refine ImpB.mk fun hb => ?_) | (with_reducible refine ImpK.mk fun hK => ?_) | (with_reducible refine ImpF.mk fun hF => ?_) | (with_reducible refine ImpQ.mk fun hp => ?_) | (with_reducible refine AllE.mk fun p => ?_) | (with_reducible refine AllR.mk fun rest => ?_) | (with_reducible refine AllK.mk fun K => ?_))))); repeat' (with_reducible refine And.intro ?_ ?_))
      all_goals exact H
    · have d2 : decide (run + 1 < m.rep) = false := decide_eq_false c2
      by_cases c3 : st = r
      · have d3 : decide (st = r) = true := decide_eq_true c3
        rw [if_pos (.inr c3)] at e
        cases e
        subst c1
        refine w_body (rs := [.tmp 4]) (tm := [.ptr p 0, .int .i64 v, .any, .any, .any, .any, .any, .any, .any, .any, .any, .any, .any, .any, .any, .any, .any, .any, .any, .any, .any, .any, .any, .any, .any, .any, .any, .any, .any, .any, .any, .any, .any, .any, .any, .any, .any, .any, .any, .any, .any, .any, .any, .any, .any, .any, .any, .any, .any, .any, .any, .any, .any, .any]) fn_30 rfl rfl rfl rfl fun R hR => ?_
        (have zx1 := @hr; have zx2 := @d1; have zx3 := @d2; have zx4 := @d3; have zx5 := @hw; have zx6 := @o; have zx7 := @t2; all_goals (try ((first | (with_reducible refine wp_id ?_) | (with_reducible refine does_id ?_) | (with_reducible refine ops_id ?_) | (with_reducible refine dw_id ?_)); refine walk ?_; (repeat' (first | exact trivial | with_reducible refine And.intro ?_ ?_)); all_goals (repeat (first | (with_reducible refine ImpB.mk fun hb => ?_) | (with_reducible refine ImpK.mk fun hK => ?_) | (with_reducible refine ImpF.mk fun hF => ?_) | (with_reducible refine ImpQ.mk fun hp => ?_) | (with_reducible refine AllE.mk fun p => ?_) | (with_reducible refine AllR.mk fun rest => ?_) | (with_reducible refine AllK.mk fun K => ?_))))); repeat' (with_reducible refine And.intro ?_ ?_))
        all_goals exact H
      · have d3 : decide (st = r) = false := decide_eq_false c3
        rw [if_neg (fun q => q.elim c2 c3)] at e
        cases e
        subst c1
        refine w_body (rs := [.tmp 4]) (tm := [.ptr p 0, .int .i64 v, .any, .any, .any, .any, .any, .any, .any, .any, .any, .any, .any, .any, .any, .any, .any, .any, .any, .any, .any, .any, .any, .any, .any, .any, .any, .any, .any, .any, .any, .any, .any, .any, .any, .any, .any, .any, .any, .any, .any, .any, .any, .any, .any, .any, .any, .any, .any, .any, .any, .any, .any, .any]) fn_30 rfl rfl rfl rfl fun R hR => ?_
        (have zx1 := @hr; have zx2 := @d1; have zx3 := @d2; have zx4 := @d3; have zx5 := @hw; have zx6 := @o; have zx7 := @t2; all_goals (try ((first | (with_reducible refine wp_id ?_) | (with_reducible refine does_id ?_) | (with_reducible refine ops_id ?_) | (with_reducible refine dw_id ?_)); refine walk ?_; (repeat' (first | exact trivial | with_reducible refine And.intro ?_ ?_)); all_goals (repeat (first | (with_reducible refine ImpB.mk fun hb => ?_) | (with_reducible refine ImpK.mk fun hK => ?_) | (with_reducible refine ImpF.mk fun hF => ?_) | (with_reducible refine ImpQ.mk fun hp => ?_) | (with_reducible refine AllE.mk fun p => ?_) | (with_reducible refine AllR.mk fun rest => ?_) | (with_reducible refine AllK.mk fun K => ?_))))); repeat' (with_reducible refine And.intro ?_ ?_))
        all_goals exact H
  · have d1 : decide (¬ r = res) = true := decide_eq_true c1
    rw [if_neg c1] at e
    have hw : IntKind.i64.wrap 1 = (1 : Int) := by decide
    by_cases c2 : (1 : Int) < m.rep
    · have d2 : decide ((1 : Int) < m.rep) = true := decide_eq_true c2
      rw [if_pos (.inl c2)] at e
      cases e
      refine w_body (rs := [.tmp 4]) (tm := [.ptr p 0, .int .i64 v, .any, .any, .any, .any, .any, .any, .any, .any, .any, .any, .any, .any, .any, .any, .any, .any, .any, .any, .any, .any, .any, .any, .any, .any, .any, .any, .any, .any, .any, .any, .any, .any, .any, .any, .any, .any, .any, .any, .any, .any, .any, .any, .any, .any, .any, .any, .any, .any, .any, .any, .any, .any]) fn_30 rfl rfl rfl rfl fun R hR => ?_
      (have zx1 := @hr; have zx2 := @d1; have zx3 := @d2; have zx4 := @hw; have zx5 := @o; have zx6 := @t2; all_goals (try ((first | (with_reducible refine wp_id ?_) | (with_reducible refine does_id ?_) | (with_reducible refine ops_id ?_) | (with_reducible refine dw_id ?_)); refine walk ?_; (repeat' (first | exact trivial | with_reducible refine And.intro ?_ ?_)); all_goals (repeat (first | (with_reducible refine ImpB.mk fun hb => ?_) | (with_reducible refine ImpK.mk fun hK => ?_) | (with_reducible refine ImpF.mk fun hF => ?_) | (with_reducible refine ImpQ.mk fun hp => ?_) | (with_reducible refine AllE.mk fun p => ?_) | (with_reducible refine AllR.mk fun rest => ?_) | (with_reducible refine AllK.mk fun K => ?_))))); repeat' (with_reducible refine And.intro ?_ ?_))
      all_goals exact H
    · have d2 : decide ((1 : Int) < m.rep) = false := decide_eq_false c2
      by_cases c3 : st = r
      · have d3 : decide (st = r) = true := decide_eq_true c3
        rw [if_pos (.inr c3)] at e
        cases e
        refine w_body (rs := [.tmp 4]) (tm := [.ptr p 0, .int .i64 v, .any, .any, .any, .any, .any, .any, .any, .any, .any, .any, .any, .any, .any, .any, .any, .any, .any, .any, .any, .any, .any, .any, .any, .any, .any, .any, .any, .any, .any, .any, .any, .any, .any, .any, .any, .any, .any, .any, .any, .any, .any, .any, .any, .any, .any, .any, .any, .any, .any, .any, .any, .any]) fn_30 rfl rfl rfl rfl fun R hR => ?_
        (have zx1 := @hr; have zx2 := @d1; have zx3 := @d2; have zx4 := @d3; have zx5 := @hw; have zx6 := @o; have zx7 := @t2; all_goals (try ((first | (with_reducible refine wp_id ?_) | (with_reducible refine does_id ?_) | (with_reducible refine ops_id ?_) | (with_reducible refine dw_id ?_)); refine walk ?_; (repeat' (first | exact trivial | with_reducible refine And.intro ?_ ?_)); all_goals (repeat (first | (with_reducible refine ImpB.mk fun hb => ?_) | (with_reducible refine ImpK.mk fun hK => ?_) | (with_reducible refine ImpF.mk fun hF => ?_) | (with_reducible refine ImpQ.mk fun hp => ?_) | (with_reducible refine AllE.mk fun p => ?_) | (with_reducible refine AllR.mk fun rest => ?_) | (with_reducible refine AllK.mk fun K => ?_))))); repeat' (with_reducible refine And.intro ?_ ?_))
        all_goals exact H
      · have d3 : decide (st = r) = false := decide_eq_false c3
        rw [if_neg (fun q => q.elim c2 c3)] at e
        cases e
        refine w_body (rs := [.tmp 4]) (tm := [.ptr p 0, .int .i64 v, .any, .any, .any, .any, .any, .any, .any, .any, .any, .any, .any, .any, .any, .any, .any, .any, .any, .any, .any, .any, .any, .any, .any, .any, .any, .any, .any, .any, .any, .any, .any, .any, .any, .any, .any, .any, .any, .any, .any, .any, .any, .any, .any, .any, .any, .any, .any, .any, .any, .any, .any, .any]) fn_30 rfl rfl rfl rfl fun R hR => ?_
        (have zx1 := @hr; have zx2 := @d1; have zx3 := @d2; have zx4 := @d3; have zx5 := @hw; have zx6 := @o; have zx7 := @t2; all_goals (try ((first | (with_reducible refine wp_id ?_) | (with_reducible refine does_id ?_) | (with_reducible refine ops_id ?_) | (with_reducible refine dw_id ?_)); refine walk ?_; (repeat' (first | exact trivial | with_reducible refine And.intro ?_ ?_)); all_goals (repeat (first | (with_reducible refine ImpB.mk fun hb => ?_) | (with_reducible refine ImpK.mk fun hK => ?_) | (with_reducible refine ImpF.mk fun hF => ?_) | (with_reducible refine ImpQ.mk fun hp => ?_) | (with_reducible refine AllE.mk fun p => ?_) | (with_reducible refine AllR.mk fun rest => ?_) | (with_reducible refine AllK.mk fun K => ?_))))); repeat' (with_reducible refine And.intro ?_ ?_))
        all_goals exact H
theorem k_feedSD {n0 : Nat} {h : List Ch} {K : KT} {p : Nat} {m : Mon} {off : Bool} {st res run v : Int} {t : Bool} {st2 res2 run2 : Int} {d : Nat} {bg : Bool} {last : Int} (o : hth h p = .cells (enX m (.ifc 98 (.ptr d 0)) off st res run)) (o1 : hth h d = .cells (dlL m.high bg last)) (hpd : p ≠ d) (q1 : VR v) (q2 : VR last) (e : fdR m.rep st res run (rsD m.high bg last v) = (t, st2, res2, run2)) (h0 : 0 ≤ run ∧ run ≤ 1000000) (H : K (.bool t) ((h.set d (.cells (dlL m.high true v))).set p (.cells (enX m (.ifc 98 (.ptr d 0)) off st2 res2 run2)))) : DoesK Try.prog n0 30 [.ptr p 0, .int .i64 v] h K := by
  have hpl : p < h.length := hth_lt (by rw [o]; simp)
  have t2 := symQ (h := h.set d (.cells (dlL m.high true v))) (p := p) (by rw [List.length_set]; exact hpl)
  have o2 : hth (h.set d (.cells (dlL m.high true v))) p = .cells (enX m (.ifc 98 (.ptr d 0)) off st res run) := by rw [hth_set_ne (Ne.symm hpd), o]
  obtain ⟨r, hr⟩ : ∃ r, rsD m.high bg last v = r := ⟨_, rfl⟩
  rw [hr] at e
  unfold fdR at e
  by_cases c1 : r = res
  · have d1 : decide (¬ r = res) = false := decide_eq_false (fun q => q c1)
    rw [if_pos c1] at e
    have hw : IntKind.i64.wrap (run + 1) = run + 1 := wrap_i64 _ (by omega) (by omega)
    by_cases c2 : run + 1 < m.rep
    · have d2 : decide (run + 1 < m.rep) = true := decide_eq_true c2
      rw [if_pos (.inl c2)] at e
      cases e
      subst c1
      refine w_body (rs := [.tmp 4]) (tm := [.ptr p 0, .int .i64 v, .any, .any, .any, .any, .any, .any, .any, .any, .any, .any, .any, .any, .any, .any, .any, .any, .any, .any, .any, .any, .any, .any, .any, .any, .any, .any, .any, .any, .any, .any, .any, .any, .any, .any, .any, .any, .any, .any, .any, .any, .any, .any, .any, .any, .any, .any, .any, .any, .any, .any, .any, .any]) fn_30 rfl rfl rfl rfl fun R hR => ?_
      (have zx1 := @hr; have zx2 := @d1; have zx3 := @d2; have zx4 := @hw; have zx5 := @o; have zx6 := @o1; have zx7 := @t2; have zx8 := @o2; all_goals (try ((first | (with_reducible refine wp_id ?_) | (with_reducible refine does_id ?_) | (with_reducible refine ops_id ?_) | (with_reducible refine dw_id ?_)); refine walk ?_; (repeat' (first | exact trivial | with_reducible refine And.intro ?_ ?_)); all_goals (repeat (first | (with_reducible refine ImpB.mk fun hb => ?_) | (with_reducible refine ImpK.mk fun hK => ?_) | (with_reducible refine ImpF.mk fun hF => ?_) | (with_reducible refine ImpQ.mk fun hp => ?_) | (with_reducible refine AllE.mk fun p => ?_) | (with_reducible refine AllR.mk fun rest => ?_) | (with_reducible refine AllK.mk fun K => ?_))))); repeat' (with_reducible refine And.intro ?_ ?_))
      all_goals exact H
    · have d2 : decide (run + 1 < m.rep) = false := decide_eq_false c2
      by_cases c3 : st = r
      · have d3 : decide (st = r) = true := decide_eq_true c3
        rw [if_pos (.inr c3)] at e
        cases e
        subst c1
        refine w_body (rs := [.tmp 4]) (tm := [.ptr p 0, .int .i64 v, .any, .any, .any, .any, .any, .any, .any, .any, .any, .any, .any, .any, .any, .any, .any, .any, .any, .any, .any, .any, .any, .any, .any, .any, .any, .any, .any, .any, .any, .any, .any, .any, .any, .any, .any, .any, .any, .any, .any, .any, .any, .any, .any, .any, .any, .any, .any, .any, .any, .any, .any, .any]) fn_30 rfl rfl rfl rfl fun R hR => ?_
        (have zx1 := @hr; have zx2 := @d1; have zx3 := @d2; have zx4 := @d3; have zx5 := @hw; have zx6 := @o; have zx7 := @o1; have zx8 := @t2; have zx9 := @o2; all_goals (try ((first | (with_reducible refine wp_id ?_) | (with_reducible refine does_id ?_) | (with_reducible refine ops_id ?_) | (with_reducible refine dw_id ?_)); refine walk ?_; (repeat' (first | exact trivial | with_reducible refine And.intro ?_ ?_)); all_goals (repeat (first | (with_reducible refine ImpB.mk fun hb => ?_) | (with_reducible refine ImpK.mk fun hK => ?_) | (with_reducible refine ImpF.mk fun hF => ?_) | (with_reducible refine ImpQ.mk fun hp => ?_) | (with_reducible refine AllE.mk fun p => ?_) | (with_reducible refine AllR.mk fun rest => ?_) | (with_reducible refine AllK.mk fun K => ?_))))); repeat' (with_reducible refine And.intro ?_ ?_))
        all_goals exact H
      · have d3 : decide (st = r) = false := decide_eq_false c3
        rw [if_neg (fun q => q.elim c2 c3)] at e
        cases e
        subst c1
        refine w_body (rs := [.tmp 4]) (tm := [.ptr p 0, .int .i64 v, .any, .any, .any, .any, .any, .any, .any, .any, .any, .any, .any, .any, .any, .any, .any, .any, .any, .any, .any, .any, .any, .any, .any, .any, .any, .any, .any, .any, .any, .any, .any, .any, .any, .any, .any, .any, .any, .any, .any, .any, .any, .any, .any, .any, .any, .any, .any, .any, .any, .any, .any, .any]) fn_30 rfl rfl rfl rfl fun R hR => ?_
        (have zx1 := @hr; have zx2 := @d1; have zx3 := @d2; have zx4 := @d3; have zx5 := @hw; have zx6 := @o; have zx7 := @o1; have zx8 := @t2; have zx9 := @o2; all_goals (try ((first | (with_reducible refine wp_id ?_) | (with_reducible refine does_id ?_) | (with_reducible refine ops_id ?_) | (with_reducible refine dw_id ?_)); refine walk ?_; (repeat' (first | exact trivial | with_reducible refine And.intro ?_ ?_)); all_goals (repeat (first | (with_reducible refine ImpB.mk fun hb => ?_) | (with_reducible refine ImpK.mk fun hK => ?_) | (with_reducible refine ImpF.mk fun hF => ?_) | (with_reducible refine ImpQ.mk fun hp => ?_) | (with_reducible refine AllE.mk fun p => ?_) | (with_reducible refine AllR.mk fun rest => ?_) | (with_reducible refine AllK.mk fun K => ?_))))); repeat' (with_reducible refine And.intro ?_ ?_))
        all_goals exact H
  · have d1 : decide (¬ r = res) = true := decide_eq_true c1
    rw [if_neg c1] at e
    have hw : IntKind.i64.wrap 1 = (1 : Int) := by decide
    by_cases c2 : (1 : Int) < m.rep
    · have d2 : decide ((1 : Int) < m.rep) = true := decide_eq_true c2
      rw [if_pos (.inl c2)] at e
      cases e
      refine w_body (rs := [.tmp 4]) (tm := [.ptr p 0, .int .i64 v, .any, .any, .any, .any, .any, .any, .any, .any, .any, .any, .any, .any, .any, .any, .any, .any, .any, .any, .any, .any, .any, .any, .any, .any, .any, .any, .any, .any, .any, .any, .any, .any, .any, .any, .any, .any, .any, .any, .any, .any, .any, .any, .any, .any, .any, .any, .any, .any, .any, .any, .any, .any]) fn_30 rfl rfl rfl rfl fun R hR => ?_
      (have zx1 := @hr; have zx2 := @d1; have zx3 := @d2; have zx4 := @hw; have zx5 := @o; have zx6 := @o1; have zx7 := @t2; have zx8 := @o2; all_goals (try ((first | (with_reducible refine wp_id ?_) | (with_reducible refine does_id ?_) | (with_reducible refine ops_id ?_) | (with_reducible refine dw_id ?_)); refine walk ?_; (repeat' (first | exact trivial | with_reducible refine And.intro ?_ ?_)); all_goals (repeat (first | (with_reducible refine ImpB.mk fun hb => ?_) | (with_reducible refine ImpK.mk fun hK => ?_) | (with_reducible refine ImpF.mk fun hF => ?_) | (with_reducible refine ImpQ.mk fun hp => ?_) | (with_reducible refine AllE.mk fun p => ?_) | (with_reducible refine AllR.mk fun rest => ?_) | (with_reducible refine AllK.mk fun K => ?_))))); repeat' (with_reducible refine And.intro ?_ ?_))
      all_goals exact H
    · have d2 : decide ((1 : Int) < m.rep) = false := decide_eq_false c2
      by_cases c3 : st = r
      · have d3 : decide (st = r) = true := decide_eq_true c3
        rw [if_pos (.inr c3)] at e
        cases e
        refine w_body (rs := [.tmp 4]) (tm := [.ptr p 0, .int .i64 v, .any, .any, .any, .any, .any, .any, .any, .any, .any, .any, .any, .any, .any, .any, .any, .any, .any, .any, .any, .any, .any, .any, .any, .any, .any, .any, .any, .any, .any, .any, .any, .any, .any, .any, .any, .any, .any, .any, .any, .any, .any, .any, .any, .any, .any, .any, .any, .any, .any, .any, .any, .any]) fn_30 rfl rfl rfl rfl fun R hR => ?_
        (have zx1 := @hr; have zx2 := @d1; have zx3 := @d2; have zx4 := @d3; have zx5 := @hw; have zx6 := @o; have zx7 := @o1; have zx8 := @t2; have zx9 := @o2; all_goals (try ((first | (with_reducible refine wp_id ?_) | (with_reducible refine does_id ?_) | (with_reducible refine ops_id ?_) | (with_reducible refine dw_id ?_)); refine walk ?_; (repeat' (first | exact trivial | with_reducible refine And.intro ?_ ?_)); all_goals (repeat (first | (with_reducible refine ImpB.mk fun hb => ?_) | (with_reducible refine ImpK.mk fun hK => ?_) | (with_reducible refine ImpF.mk fun hF => ?_) | (with_reducible refine ImpQ.mk fun hp => ?_) | (with_reducible refine AllE.mk fun p => ?_) | (with_reducible refine AllR.mk fun rest => ?_) | (with_reducible refine AllK.mk fun K => ?_))))); repeat' (with_reducible refine And.intro ?_ ?_))
        all_goals exact H
      · have d3 : decide (st = r) = false := decide_eq_false c3
        rw [if_neg (fun q => q.elim c2 c3)] at e
        cases e
        refine w_body (rs := [.tmp 4]) (tm := [.ptr p 0, .int .i64 v, .any, .any, .any, .any, .any, .any, .any, .any, .any, .any, .any, .any, .any, .any, .any, .any, .any, .any, .any, .any, .any, .any, .any, .any, .any, .any, .any, .any, .any, .any, .any, .any, .any, .any, .any, .any, .any, .any, .any, .any, .any, .any, .any, .any, .any, .any, .any, .any, .any, .any, .any, .any]) fn_30 rfl rfl rfl rfl fun R hR => ?_
        (have zx1 := @hr; have zx2 := @d1; have zx3 := @d2; have zx4 := @d3; have zx5 := @hw; have zx6 := @o; have zx7 := @o1; have zx8 := @t2; have zx9 := @o2; all_goals (try ((first | (with_reducible refine wp_id ?_) | (with_reducible refine does_id ?_) | (with_reducible refine ops_id ?_) | (with_reducible refine dw_id ?_)); refine walk ?_; (repeat' (first | exact trivial | with_reducible refine And.intro ?_ ?_)); all_goals (repeat (first | (with_reducible refine ImpB.mk fun hb => ?_) | (with_reducible refine ImpK.mk fun hK => ?_) | (with_reducible refine ImpF.mk fun hF => ?_) | (with_reducible refine ImpQ.mk fun hp => ?_) | (with_reducible refine AllE.mk fun p => ?_) | (with_reducible refine AllR.mk fun rest => ?_) | (with_reducible refine AllK.mk fun K => ?_))))); repeat' (with_reducible refine And.intro ?_ ?_))
        all_goals exact H
theorem k_feedS {n0 : Nat} {h : List Ch} {K : KT} {p d : Nat} {e : Sm} {v : Int} (he : hth h p = .cells (enC e d)) (hd : e.m.kind = 3 → hth h d = .cells (dlV e) ∧ p ≠ d) (q1 : VR v) (q2 : VR e.last) (h0 : 0 ≤ e.run ∧ e.run ≤ 1000000) (H : K (.bool (fdE e v).1) (fdH h p d e v)) : DoesK Try.prog n0 30 [.ptr p 0, .int .i64 v] h K := by
  obtain ⟨m, off, st, res, run, bg, last⟩ := e
  obtain ⟨t, st2, res2, run2⟩ : ∃ x, fdE ⟨m, off, st, res, run, bg, last⟩ v = x := ⟨_, rfl⟩
  unfold fdH nxE at H
  by_cases c3 : m.kind = 3
  · have hc : ckA m d = .ifc 98 (.ptr d 0) := if_pos c3
    have hr : resE m bg last v = rsD m.high bg last v := if_pos c3
    obtain ⟨g1, g2⟩ := hd c3
    dsimp only at H q2 h0
    rw [if_pos c3] at H
    refine k_feedSD (m := m) (d := d) (off := off) (bg := bg) (last := last) (st := st) (res := res) (run := run) ?_ g1 g2 q1 q2 (e := rfl) h0 ?_
    · rw [he]; show Ch.cells (enX m (ckA m d) off st res run) = _; rw [hc]
    · rw [← hr]
      have H2 := H
      unfold enC dlV at H2
      dsimp only at H2
      rw [hc] at H2
      exact H2
  · by_cases c2 : m.kind = 2
    · have hc : ckA m d = .ifc 105 (.agg [.int .i64 m.low]) := by unfold ckA; rw [if_neg c3, if_pos c2]
      have hr : resE m bg last v = rsE m.low v := by unfold resE; rw [if_neg c3, if_pos c2]; rfl
      dsimp only at H q2 h0
      rw [if_neg c3] at H
      refine k_feedSE (m := m) (off := off) (st := st) (res := res) (run := run) ?_ (e := rfl) h0 ?_
      · rw [he]; show Ch.cells (enX m (ckA m d) off st res run) = _; rw [hc]
      · rw [← hr]
        have H2 := H
        unfold enC at H2
        dsimp only at H2
        rw [hc] at H2
        exact H2
    · have hc : ckA m d = .ifc 103 (.agg [.int .i64 m.low, .int .i64 m.high]) := by unfold ckA; rw [if_neg c3, if_neg c2]
      have hr : resE m bg last v = rsL m.low m.high v := by unfold resE; rw [if_neg c3, if_neg c2]
      dsimp only at H q2 h0
      rw [if_neg c3] at H
      refine k_feedSL (m := m) (off := off) (st := st) (res := res) (run := run) ?_ (e := rfl) h0 ?_
      · rw [he]; show Ch.cells (enX m (ckA m d) off st res run) = _; rw [hc]
      · rw [← hr]
        have H2 := H
        unfold enC at H2
        dsimp only at H2
        rw [hc] at H2
        exact H2
end Go.V

set_option maxRecDepth 100000
set_option maxHeartbeats 8000000
namespace Go.V
open Go.Proofs
attribute [-go_sem] SL PL
/-- the walk goes on in a drawn region -/
theorem dw_id {P : Program} {all r : List Oper} {Fin : List AV → List Ch → Prop} {i : Nat} {tm : List AV} {h : List Ch} {ps : List Rec} {hs : List (Nat × List Ch)} (H : DW P all Fin r i tm h ps hs) : DW P all Fin r i tm h ps hs := H
/-- a chunk without slices of its own -/
def nsC (c : Ch) : Prop := ∀ (t : Nat) (e : Ety) (xs : List e.T), frC t e xs c = c ∧ ∀ m, frObC t e m c
/-- a memory that fits itself and in which no slice of its own lies -/
structure Okm (h : List Ch) : Prop where
  self : SelfFit h
  ns : ∀ i, i < h.length → nsC (hth h i)
theorem hth_get0 {h : List Ch} {i : Nat} (hi : i < h.length) : hth h i = h[i] := by
  have := hth_some hi
  rw [List.getElem?_eq_getElem hi] at this
  exact (Option.some.inj this).symm
theorem Okm.fr {h : List Ch} (a : Okm h) (t : Nat) (e : Ety) (xs : List e.T) : frHs t e xs h = h ∧ frObH t e xs.length h := by
  have key : ∀ l : List Ch, (∀ c ∈ l, nsC c) → frHs t e xs l = l ∧ frObH t e xs.length l := by
    intro l
    induction l with
    | nil => exact fun _ => ⟨rfl, trivial⟩
    | cons c l ih =>
      intro hc
      obtain ⟨i1, i2⟩ := ih fun x hx => hc x (List.mem_cons_of_mem _ hx)
      obtain ⟨c1, c2⟩ := hc c (by simp) t e xs
      exact ⟨by show frC t e xs c :: frHs t e xs l = _; rw [c1, i1], c2 _, i2⟩
  refine key h fun c hc => ?_
  obtain ⟨i, hi, rfl⟩ := List.mem_iff_getElem.1 hc
  rw [← hth_get0 hi]
  exact a.ns i hi
theorem Okm.set {h : List Ch} (a : Okm h) {t : Nat} {c : Ch} (hf : ∀ σ : List Nat, (∀ i, i < h.length → σ[i]? = some i) → fitC σ c c) (hn : nsC c) : Okm (h.set t c) := by
  refine ⟨fun σ hσ i hi => ?_, fun i hi => ?_⟩
  · rw [List.length_set] at hi hσ
    by_cases e : t = i
    · subst e; rw [hth_set_eq hi]; exact hf σ hσ
    · rw [hth_set_ne e]; exact a.self σ hσ i hi
  · rw [List.length_set] at hi
    by_cases e : t = i
    · subst e; rw [hth_set_eq hi]; exact hn
    · rw [hth_set_ne e]; exact a.ns i hi
theorem Okm.app {h l : List Ch} (a : Okm h) (hf : ∀ c ∈ l, ∀ σ : List Nat, (∀ i, i < h.length + l.length → σ[i]? = some i) → fitC σ c c) (hn : ∀ c ∈ l, nsC c) : Okm (h ++ l) := by
  refine ⟨fun σ hσ i hi => ?_, fun i hi => ?_⟩
  · rw [List.length_append] at hi hσ
    by_cases c : i < h.length
    · rw [hth_app c]; exact a.self σ (fun j hj => hσ j (by omega)) i c
    · obtain ⟨j, rfl⟩ : ∃ j, i = h.length + j := ⟨i - h.length, by omega⟩
      rw [hth_app_r]
      have hj : j < l.length := by omega
      rw [hth_get0 hj]
      exact hf _ (List.getElem_mem hj) σ hσ
  · rw [List.length_append] at hi
    by_cases c : i < h.length
    · rw [hth_app c]; exact a.ns i c
    · obtain ⟨j, rfl⟩ : ∃ j, i = h.length + j := ⟨i - h.length, by omega⟩
      rw [hth_app_r]
      have hj : j < l.length := by omega
      rw [hth_get0 hj]
      exact hn _ (List.getElem_mem hj)
theorem ns_enC (e : Sm) (d : Nat) : nsC (.cells (enC e d)) := fun t y xs => by
  refine ⟨?_, fun m => ?_⟩
  · show Ch.cells (frL t y xs (enC e d)) = _
    have : frA t y xs (ckA e.m d) = ckA e.m d := by unfold ckA; split <;> (try split) <;> rfl
    show Ch.cells [_, _, _, _, _, _, _, _, frA t y xs (ckA e.m d), _, _, _, _] = _
    rw [this]; rfl
  · have : frOb t y m (ckA e.m d) := by unfold ckA; split <;> (try split) <;> trivial
    exact ⟨trivial, trivial, trivial, trivial, trivial, trivial, trivial, trivial, this, trivial, trivial, trivial, trivial, trivial⟩
theorem ns_dlV (e : Sm) : nsC (.cells (dlV e)) := fun _ _ _ => ⟨rfl, fun _ => ⟨trivial, trivial, trivial, trivial⟩⟩
theorem ns_dlC (e : Sm) : nsC (dlC e) := by
  unfold dlC
  split
  · exact ns_dlV e
  · exact fun _ _ _ => ⟨rfl, fun _ => trivial⟩
theorem ns_main (now : Int) (v n : Nat) : nsC (.cells [.bool true, .int .i64 now, .csl v n 1]) := fun _ _ _ => ⟨rfl, fun _ => ⟨trivial, trivial, trivial, trivial⟩⟩
theorem ns_ptA : ∀ ts : List (Nat × Nat), nsC (.crow (ptA ts)) := fun ts t e xs => by
  induction ts with
  | nil => exact ⟨rfl, fun _ => trivial⟩
  | cons a ts ih =>
    refine ⟨?_, fun m => ⟨trivial, ih.2 m⟩⟩
    have h1 : frL t e xs (ptA ts) = ptA ts := Ch.crow.inj ih.1
    show Ch.crow (.ptr a.1 0 :: frL t e xs (ptA ts)) = Ch.crow (.ptr a.1 0 :: ptA ts)
    rw [h1]
theorem ns_pack (l : List Ch) : nsC (.pack l) := fun _ _ _ => ⟨rfl, fun _ => trivial⟩
theorem dlC_fit (σ : List Nat) (e : Sm) : fitC σ (dlC e) (dlC e) := by
  unfold dlC
  split
  · exact dlV_fit σ e
  · exact trivial
theorem ptA_fit2 {σ : List Nat} : ∀ {ts : List (Nat × Nat)}, (∀ i, i < ts.length → σ[(ts.getD i (0, 0)).1]? = some (ts.getD i (0, 0)).1) → fitL σ (ptA ts) (ptA ts)
  | [], _ => trivial
  | t :: ts, h => ⟨⟨h 0 (by simp), rfl⟩, ptA_fit2 (ts := ts) fun i hi => h (i + 1) (by simpa using hi)⟩
/-- a service open with its row behind some other chunks -/
def SVo (now : Int) (es : List Sm) (mid : List Ch) : List Ch := .cells [.bool true, .int .i64 now, .csl (mid.length + 1) es.length 1] :: (mid ++ (.crow (ptA (plc (mid.length + 2) es.length)) :: SVr (mid.length + 2) es))
theorem SVo_len (now : Int) (es : List Sm) (mid : List Ch) : (SVo now es mid).length = mid.length + 2 + 2 * es.length := by
  unfold SVo
  rw [List.length_cons, List.length_append, List.length_cons, SVr_len]; omega
theorem SVo_mid {now : Int} {es : List Sm} {mid : List Ch} {i : Nat} (hi : i < mid.length) : hth (SVo now es mid) (i + 1) = hth mid i := by
  unfold SVo
  show hth (mid ++ _) i = _
  exact hth_app hi
theorem SVo_row {now : Int} {es : List Sm} {mid : List Ch} : hth (SVo now es mid) (mid.length + 1) = .crow (ptA (plc (mid.length + 2) es.length)) := by
  unfold SVo
  show hth (mid ++ _) mid.length = _
  exact hth_app_r (j := 0)
theorem SVo_ent {now : Int} {es : List Sm} {mid : List Ch} {j : Nat} : hth (SVo now es mid) (mid.length + 2 + j) = hth (SVr (mid.length + 2) es) j := by
  unfold SVo
  rw [show mid.length + 2 + j = (mid.length + (j + 1)) + 1 by omega]
  show hth (mid ++ _) (mid.length + (j + 1)) = _
  exact hth_app_r (j := j + 1)
theorem SVo_srv {now : Int} {es : List Sm} {mid : List Ch} (hp : 0 < es.length) : Srv (SVo now es mid) 0 (mid.length + 1) (plc (mid.length + 2) es.length) now es := by
  refine ⟨hp, rfl, SVo_row, plc_len _ _, fun i hi => ?_, fun i hi => ?_, ?_⟩
  · rw [plc_at hi]
    show hth _ (mid.length + 2 + 2 * i) = _
    rw [SVo_ent]
    exact (SVr_at (k := mid.length + 2) hi).1
  · rw [plc_at hi]
    refine ⟨by show mid.length + 2 + 2 * i + 1 < (SVo now es mid).length; rw [SVo_len]; omega, fun c => ?_⟩
    show hth _ (mid.length + 2 + 2 * i + 1) = _
    rw [show mid.length + 2 + 2 * i + 1 = mid.length + 2 + (2 * i + 1) by omega, SVo_ent, (SVr_at (k := mid.length + 2) hi).2]
    unfold dlC
    rw [if_pos c]
  · rw [ilv_plc]
    refine List.nodup_cons.2 ⟨fun q => ?_, List.nodup_cons.2 ⟨fun q => ?_, List.nodup_range'⟩⟩
    · rcases List.mem_cons.1 q with q | q
      · omega
      · have := List.mem_range'_1.1 q; omega
    · have := List.mem_range'_1.1 q; omega
theorem SVo_ok {now : Int} {es : List Sm} {mid : List Ch} (hm : ∀ c ∈ mid, (∀ σ, fitC σ c c) ∧ nsC c) : Okm (SVo now es mid) := by
  have hl := SVo_len now es mid
  refine ⟨fun σ hσ i hi => ?_, fun i hi => ?_⟩
  · rw [hl] at hσ hi
    by_cases c0 : i = 0
    · subst c0
      exact ⟨rfl, ⟨rfl, rfl⟩, ⟨hσ _ (by omega), rfl, rfl⟩, trivial⟩
    by_cases c1 : i < mid.length + 1
    · obtain ⟨j, rfl⟩ : ∃ j, i = j + 1 := ⟨i - 1, by omega⟩
      have hj : j < mid.length := by omega
      rw [SVo_mid hj, hth_get0 hj]
      exact (hm _ (List.getElem_mem hj)).1 σ
    by_cases c2 : i = mid.length + 1
    · subst c2
      rw [SVo_row]
      refine ⟨rfl, ptA_fit2 fun k hk => hσ _ ?_⟩
      rw [plc_len] at hk
      rw [plc_at hk]
      show mid.length + 2 + 2 * k < _
      omega
    · obtain ⟨j, rfl⟩ : ∃ j, i = mid.length + 2 + j := ⟨i - (mid.length + 2), by omega⟩
      rw [SVo_ent]
      obtain ⟨k, hk⟩ : ∃ k, j = 2 * k ∨ j = 2 * k + 1 := ⟨j / 2, by omega⟩
      rcases hk with rfl | rfl
      · rw [(SVr_at (k := mid.length + 2) (es := es) (by omega)).1]
        exact enC_fit (hσ _ (by omega))
      · rw [(SVr_at (k := mid.length + 2) (es := es) (by omega)).2]
        exact dlC_fit σ _
  · rw [hl] at hi
    by_cases c0 : i = 0
    · subst c0
      exact ns_main _ _ _
    by_cases c1 : i < mid.length + 1
    · obtain ⟨j, rfl⟩ : ∃ j, i = j + 1 := ⟨i - 1, by omega⟩
      have hj : j < mid.length := by omega
      rw [SVo_mid hj, hth_get0 hj]
      exact (hm _ (List.getElem_mem hj)).2
    by_cases c2 : i = mid.length + 1
    · subst c2
      rw [SVo_row]
      exact ns_ptA _
    · obtain ⟨j, rfl⟩ : ∃ j, i = mid.length + 2 + j := ⟨i - (mid.length + 2), by omega⟩
      rw [SVo_ent]
      obtain ⟨k, hk⟩ : ∃ k, j = 2 * k ∨ j = 2 * k + 1 := ⟨j / 2, by omega⟩
      rcases hk with rfl | rfl
      · rw [(SVr_at (k := mid.length + 2) (es := es) (by omega)).1]
        exact ns_enC _ _
      · rw [(SVr_at (k := mid.length + 2) (es := es) (by omega)).2]
        exact ns_dlC _
theorem rho_pos {m j : Nat} (h : 0 < j) : rhoO 0 m j = m + j - 1 := by
  cases j with
  | zero => omega
  | succ n => show m + n = m + (n + 1) - 1; omega
theorem ckA_renM (m : Mon) {b d : Nat} (h : 0 < d) : renA (rhoO 0 b) (ckA m d) = ckA m (b + d - 1) := by
  unfold ckA
  split
  · show AV.ifc _ (AV.ptr (rhoO 0 b d) 0) = _
    rw [rho_pos h]
  · split <;> rfl
theorem SVr_renM {b : Nat} : ∀ {k : Nat} {es : List Sm}, 0 < k → renCs (rhoO 0 b) (SVr k es) = SVr (b + k - 1) es
  | _, [], _ => rfl
  | k, e :: es, h => by
    show Ch.cells (renL (rhoO 0 b) (enC e (k + 1))) :: renC (rhoO 0 b) (dlC e) :: renCs (rhoO 0 b) (SVr (k + 2) es) = Ch.cells (enC e (b + k - 1 + 1)) :: dlC e :: SVr (b + k - 1 + 2) es
    rw [SVr_renM (by omega), show b + (k + 2) - 1 = b + k - 1 + 2 by omega]
    have e1 : renL (rhoO 0 b) (enC e (k + 1)) = enC e (b + k - 1 + 1) := by
      show [_, _, _, _, _, _, _, _, renA (rhoO 0 b) (ckA e.m (k + 1)), _, _, _, _] = _
      rw [ckA_renM _ (by omega), show b + (k + 1) - 1 = b + k - 1 + 1 by omega]; rfl
    have e2 : renC (rhoO 0 b) (dlC e) = dlC e := by
      unfold dlC
      split <;> rfl
    rw [e1, e2]
theorem ptA_renM {b : Nat} : ∀ {k n : Nat}, 0 < k → renL (rhoO 0 b) (ptA (plc k n)) = ptA (plc (b + k - 1) n)
  | _, 0, _ => rfl
  | k, n + 1, h => by
    show AV.ptr (rhoO 0 b k) 0 :: renL (rhoO 0 b) (ptA (plc (k + 2) n)) = AV.ptr (b + k - 1) 0 :: ptA (plc (b + k - 1 + 2) n)
    rw [rho_pos h, ptA_renM (by omega), show b + (k + 2) - 1 = b + k - 1 + 2 by omega]
theorem w_openSo {P : Program} {k : Nat} {c : Code} {tm : List AV} {now : Int} {es : List Sm} {mid : List Ch} {q : Post} (hp : 0 < es.length) (H : Wp P k c tm (SVo now es mid) q) : Wp P k c tm (.pack (SV now es) :: mid) q := by
  have e : SV now es = .cells [.bool true, .int .i64 now, .csl 1 es.length 1] :: (.crow (ptA (plc 2 es.length)) :: SVr 2 es) := if_neg (by omega)
  refine w_open (h' := SVo now es mid) (vs := [.bool true, .int .i64 now, .csl 1 es.length 1]) (rest := .crow (ptA (plc 2 es.length)) :: SVr 2 es) 0 (by rw [e]; rfl) ?_ H
  show Ch.cells (renL (rhoO 0 (mid.length + 1)) [.bool true, .int .i64 now, .csl 1 es.length 1]) :: (mid ++ (Ch.crow (renL (rhoO 0 (mid.length + 1)) (ptA (plc 2 es.length))) :: renCs (rhoO 0 (mid.length + 1)) (SVr 2 es))) = _
  rw [SVr_renM (by omega), ptA_renM (by omega)]
  rfl
theorem Srv.time {h : List Ch} {u v : Nat} {ts : List (Nat × Nat)} {now now' : Int} {es : List Sm} (a : Srv h u v ts now es) : Srv (h.set u (.cells [.bool true, .int .i64 now', .csl v es.length 1])) u v ts now' es := by
  obtain ⟨m1, m2⟩ := List.nodup_cons.1 a.nd
  have hu : u < h.length := hth_lt (by rw [a.o]; simp)
  refine ⟨a.pos, hth_set_eq hu, ?_, a.len, fun i hi => ?_, fun i hi => ?_, a.nd⟩
  · rw [hth_set_ne (fun q => m1 (by rw [q]; simp))]; exact a.o1
  · have := ilv_mem (ts := ts) (i := i) (by rw [a.len]; exact hi)
    rw [hth_set_ne (fun q => m1 (by rw [q]; exact List.mem_cons_of_mem _ this.1))]; exact a.ent i hi
  · have := ilv_mem (ts := ts) (i := i) (by rw [a.len]; exact hi)
    rw [List.length_set, hth_set_ne (fun q => m1 (by rw [q]; exact List.mem_cons_of_mem _ this.2))]; exact a.dl i hi
theorem Okm.time {h : List Ch} (a : Okm h) {u v : Nat} {now' : Int} {n : Nat} (hv : v < h.length) : Okm (h.set u (.cells [.bool true, .int .i64 now', .csl v n 1])) :=
  a.set (fun _ hσ => ⟨rfl, ⟨rfl, rfl⟩, ⟨hσ _ hv, rfl, rfl⟩, trivial⟩) (ns_main _ _ _)
/-- one entry is fed -/
theorem fdH_srv {h : List Ch} {u v k : Nat} {ts : List (Nat × Nat)} {now : Int} {es : List Sm} {x : Int} (A : Srv h u v ts now es) (hk : k < es.length) :
    Srv (fdH h (ts.getD k (0, 0)).1 (ts.getD k (0, 0)).2 (eAtS es k) x) u v ts now (es.set k (nxE (eAtS es k) x)) ∧ (fdH h (ts.getD k (0, 0)).1 (ts.getD k (0, 0)).2 (eAtS es k) x).length = h.length ∧ ∀ t, t ≠ (ts.getD k (0, 0)).1 → t ≠ (ts.getD k (0, 0)).2 → hth (fdH h (ts.getD k (0, 0)).1 (ts.getD k (0, 0)).2 (eAtS es k) x) t = hth h t := by
  have hk' : k < ts.length := by rw [A.len]; exact hk
  have hlt := A.lt
  have p1 := hlt _ (List.mem_cons_of_mem _ (List.mem_cons_of_mem _ (ilv_mem hk').1))
  have p2 := hlt _ (List.mem_cons_of_mem _ (List.mem_cons_of_mem _ (ilv_mem hk').2))
  have ap := A.apart hk hk
  have hlen : (fdH h (ts.getD k (0, 0)).1 (ts.getD k (0, 0)).2 (eAtS es k) x).length = h.length := by
    unfold fdH
    rw [List.length_set]
    split
    · rw [List.length_set]
    · rfl
  have hoth : ∀ t, t ≠ (ts.getD k (0, 0)).1 → t ≠ (ts.getD k (0, 0)).2 → hth (fdH h (ts.getD k (0, 0)).1 (ts.getD k (0, 0)).2 (eAtS es k) x) t = hth h t := fun t h1 h2 => by
    unfold fdH
    rw [hth_set_ne (Ne.symm h1)]
    split
    · rw [hth_set_ne (Ne.symm h2)]
    · rfl
  have hts : ts.set k ((ts.getD k (0, 0)).1, (ts.getD k (0, 0)).2) = ts := by
    have : ts.getD k (0, 0) = ts[k] := by rw [List.getD_eq_getElem?_getD, List.getElem?_eq_getElem hk']; rfl
    rw [this]
    exact List.set_getElem_self hk'
  refine ⟨?_, hlen, hoth⟩
  have := A.put (h' := fdH h (ts.getD k (0, 0)).1 (ts.getD k (0, 0)).2 (eAtS es k) x) (e' := nxE (eAtS es k) x) (d' := (ts.getD k (0, 0)).2) hk (by omega) (fun t _ h1 h2 => hoth t h1 h2) ?_ ⟨by omega, fun c => ?_⟩ (.inl rfl)
  · rwa [hts] at this
  · unfold fdH
    refine hth_set_eq ?_
    split
    · rw [List.length_set]; exact p1
    · exact p1
  · unfold fdH
    rw [hth_set_ne ap.2.1, if_pos (show (eAtS es k).m.kind = 3 from c)]
    exact hth_set_eq p2
theorem fdH_ok {h : List Ch} {p d : Nat} {e : Sm} {x : Int} (a : Okm h) (hd : d < h.length) : Okm (fdH h p d e x) := by
  unfold fdH
  have a2 : Okm (if e.m.kind = 3 then h.set d (.cells (dlV (nxE e x))) else h) := by
    split
    · exact a.set (fun σ _ => dlV_fit σ _) (ns_dlV _)
    · exact a
  have hl : (if e.m.kind = 3 then h.set d (.cells (dlV (nxE e x))) else h).length = h.length := by
    split
    · rw [List.length_set]
    · rfl
  exact a2.set (fun σ hσ => enC_fit (hσ _ (by rw [hl]; exact hd))) (ns_enC _ _)
end Go.V
