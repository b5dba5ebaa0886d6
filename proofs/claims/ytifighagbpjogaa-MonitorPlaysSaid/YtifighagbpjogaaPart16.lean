/-
  monitor: newChecker in full.
  monitor.New of any monitors.
-/
import Derived.Test.YtifighagbpjogaaPart15
set_option linter.unusedVariables false
set_option linter.unusedSimpArgs false
set_option maxRecDepth 100000
set_option maxHeartbeats 8000000
namespace Go.V
open Go.Proofs
/-- an expected value that is right -/
structure isExp (m : Mon) : Prop where
  kind : m.kind = 2
  lo : inW m.low = true
  hi : m.high = 0
theorem b_newX2 (m : Mon) (hm : isExp m) : DoesK Try.prog 0 23 [.agg (monL m)] [] (EndF 0 (.ifc 105 (.agg [.int .i64 m.low])) []) := by
  refine DoesK.close ?_
  obtain ⟨h1, h2, h3⟩ := hm
  have d1 : decide (m.kind = 1) = false := decide_eq_false (by omega)
  have d2 : decide (m.kind = 2) = true := decide_eq_true h1
  have d4 : decide (m.high = 0) = true := decide_eq_true h3
  refine w_body (rs := [.tmp 2]) (tm := [.agg (monL m), .any, .any, .any, .any, .any, .any, .any, .any, .any, .any, .any, .any, .any, .any, .any, .any, .any, .any, .any, .any, .any, .any, .any, .any, .any, .any, .any, .any, .any, .any, .any, .any, .any, .any, .any, .any, .any, .any, .any, .any, .any, .any, .any, .any, .any, .any, .any, .any, .any, .any, .any, .any, .any, .any, .any, .any, .any, .any, .any, .any, .any, .any, .any, .any, .any, .any, .any, .any, .any, .any, .any, .any, .any, .any, .any]) fn_23 rfl rfl rfl rfl fun R hR => ?_
  (have zx1 := @d1; have zx2 := @d2; have zx3 := @d4; have zx4 := @h2; all_goals (try ((with_reducible first | refine wp_id ?_ | refine does_id ?_ | refine ops_id ?_); refine walk ?_; (repeat' (first | exact trivial | with_reducible refine And.intro ?_ ?_)); all_goals (repeat with_reducible first | refine ImpB.mk fun hb => ?_ | refine ImpK.mk fun hK => ?_ | refine ImpF.mk fun hF => ?_ | refine ImpQ.mk fun hp => ?_ | refine AllE.mk fun p => ?_ | refine AllR.mk fun rest => ?_ | refine AllK.mk fun K => ?_))); repeat' (with_reducible refine And.intro ?_ ?_))
  (focus (refine ⟨_, _, Gh.refl, [], rfl, ?_⟩; (refine fitq ?_ ?_ ?_ <;> try exact trivial); (try any_goals (refine ⟨?_, ?_⟩)); (try any_goals (with_reducible rfl))))
  all_goals (repeat' (first | (refine And.intro ?_ ?_) | rfl))
theorem c_newX2 {h : List Ch} {K : KT} {a b c lo hi d e f : Int} (H : K (.ifc 105 (.agg [.int .i64 lo])) h) (e1 : isExp ⟨a, b, c, lo, hi, d, e, f⟩) : Does Try.prog 23 [.agg [.int .i64 a, .int .i64 b, .int .i64 c, .int .i64 lo, .int .i64 hi, .int .i64 d, .int .i64 e, .int .i64 f]] h K :=
  frame_pure (b_newX2 ⟨a, b, c, lo, hi, d, e, f⟩ e1) (br_cons (br_agg (br_cons br_int (br_cons br_int (br_cons br_int (br_cons br_int (br_cons br_int (br_cons br_int (br_cons br_int (br_cons br_int br_nil))))))))) br_nil) (.inr rfl) (fun _ => rfl) H
abbrev i_newX2 := Ctr.mk (i := 2) (g := 23) @c_newX2
attribute [instance] i_newX2
/-- a monitor without a checker -/
structure isBad (m : Mon) : Prop where
  l : ¬ isLim m
  e : ¬ isExp m
  d : ¬ isDel m
theorem b_newB (m : Mon) (hm : isBad m) : DoesK Try.prog 0 23 [.agg (monL m)] [] (EndF 0 (.lit .nilIface) []) := by
  refine DoesK.close ?_
  obtain ⟨g1, g2, g3⟩ := hm
  by_cases k1 : m.kind = 1
  · have d1 : decide (m.kind = 1) = true := decide_eq_true k1
    have d2 : decide (m.kind = 2) = false := decide_eq_false (by omega)
    have d3 : decide (m.kind = 3) = false := decide_eq_false (by omega)
    cases h1 : inW m.low with
    | false =>
      refine w_body (rs := [.tmp 2]) (tm := [.agg (monL m), .any, .any, .any, .any, .any, .any, .any, .any, .any, .any, .any, .any, .any, .any, .any, .any, .any, .any, .any, .any, .any, .any, .any, .any, .any, .any, .any, .any, .any, .any, .any, .any, .any, .any, .any, .any, .any, .any, .any, .any, .any, .any, .any, .any, .any, .any, .any, .any, .any, .any, .any, .any, .any, .any, .any, .any, .any, .any, .any, .any, .any, .any, .any, .any, .any, .any, .any, .any, .any, .any, .any, .any, .any, .any, .any]) fn_23 rfl rfl rfl rfl fun R hR => ?_
      (have zx1 := @d1; have zx2 := @d2; have zx3 := @d3; have zx4 := @h1; all_goals (try ((with_reducible first | refine wp_id ?_ | refine does_id ?_ | refine ops_id ?_); refine walk ?_; (repeat' (first | exact trivial | with_reducible refine And.intro ?_ ?_)); all_goals (repeat with_reducible first | refine ImpB.mk fun hb => ?_ | refine ImpK.mk fun hK => ?_ | refine ImpF.mk fun hF => ?_ | refine ImpQ.mk fun hp => ?_ | refine AllE.mk fun p => ?_ | refine AllR.mk fun rest => ?_ | refine AllK.mk fun K => ?_))); repeat' (with_reducible refine And.intro ?_ ?_))
      (focus (refine ⟨_, _, Gh.refl, [], rfl, ?_⟩; (refine fitq ?_ ?_ ?_ <;> try exact trivial); (try any_goals (refine ⟨?_, ?_⟩)); (try any_goals (with_reducible rfl))))
      all_goals (repeat' (first | (refine And.intro ?_ ?_) | rfl))
    | true =>
      cases h2 : inW m.high with
      | false =>
        refine w_body (rs := [.tmp 2]) (tm := [.agg (monL m), .any, .any, .any, .any, .any, .any, .any, .any, .any, .any, .any, .any, .any, .any, .any, .any, .any, .any, .any, .any, .any, .any, .any, .any, .any, .any, .any, .any, .any, .any, .any, .any, .any, .any, .any, .any, .any, .any, .any, .any, .any, .any, .any, .any, .any, .any, .any, .any, .any, .any, .any, .any, .any, .any, .any, .any, .any, .any, .any, .any, .any, .any, .any, .any, .any, .any, .any, .any, .any, .any, .any, .any, .any, .any, .any]) fn_23 rfl rfl rfl rfl fun R hR => ?_
        (have zx1 := @d1; have zx2 := @d2; have zx3 := @d3; have zx4 := @h1; have zx5 := @h2; all_goals (try ((with_reducible first | refine wp_id ?_ | refine does_id ?_ | refine ops_id ?_); refine walk ?_; (repeat' (first | exact trivial | with_reducible refine And.intro ?_ ?_)); all_goals (repeat with_reducible first | refine ImpB.mk fun hb => ?_ | refine ImpK.mk fun hK => ?_ | refine ImpF.mk fun hF => ?_ | refine ImpQ.mk fun hp => ?_ | refine AllE.mk fun p => ?_ | refine AllR.mk fun rest => ?_ | refine AllK.mk fun K => ?_))); repeat' (with_reducible refine And.intro ?_ ?_))
        (focus (refine ⟨_, _, Gh.refl, [], rfl, ?_⟩; (refine fitq ?_ ?_ ?_ <;> try exact trivial); (try any_goals (refine ⟨?_, ?_⟩)); (try any_goals (with_reducible rfl))))
        all_goals (repeat' (first | (refine And.intro ?_ ?_) | rfl))
      | true =>
        have d4 : decide (m.low ≤ m.high) = false := decide_eq_false fun q => g1 ⟨k1, h1, h2, q⟩
        refine w_body (rs := [.tmp 2]) (tm := [.agg (monL m), .any, .any, .any, .any, .any, .any, .any, .any, .any, .any, .any, .any, .any, .any, .any, .any, .any, .any, .any, .any, .any, .any, .any, .any, .any, .any, .any, .any, .any, .any, .any, .any, .any, .any, .any, .any, .any, .any, .any, .any, .any, .any, .any, .any, .any, .any, .any, .any, .any, .any, .any, .any, .any, .any, .any, .any, .any, .any, .any, .any, .any, .any, .any, .any, .any, .any, .any, .any, .any, .any, .any, .any, .any, .any, .any]) fn_23 rfl rfl rfl rfl fun R hR => ?_
        (have zx1 := @d1; have zx2 := @d2; have zx3 := @d3; have zx4 := @h1; have zx5 := @h2; have zx6 := @d4; all_goals (try ((with_reducible first | refine wp_id ?_ | refine does_id ?_ | refine ops_id ?_); refine walk ?_; (repeat' (first | exact trivial | with_reducible refine And.intro ?_ ?_)); all_goals (repeat with_reducible first | refine ImpB.mk fun hb => ?_ | refine ImpK.mk fun hK => ?_ | refine ImpF.mk fun hF => ?_ | refine ImpQ.mk fun hp => ?_ | refine AllE.mk fun p => ?_ | refine AllR.mk fun rest => ?_ | refine AllK.mk fun K => ?_))); repeat' (with_reducible refine And.intro ?_ ?_))
        (focus (refine ⟨_, _, Gh.refl, [], rfl, ?_⟩; (refine fitq ?_ ?_ ?_ <;> try exact trivial); (try any_goals (refine ⟨?_, ?_⟩)); (try any_goals (with_reducible rfl))))
        all_goals (repeat' (first | (refine And.intro ?_ ?_) | rfl))
  have d1 : decide (m.kind = 1) = false := decide_eq_false k1
  by_cases k2 : m.kind = 2
  · have d2 : decide (m.kind = 2) = true := decide_eq_true k2
    have d3 : decide (m.kind = 3) = false := decide_eq_false (by omega)
    cases h1 : inW m.low with
    | false =>
      refine w_body (rs := [.tmp 2]) (tm := [.agg (monL m), .any, .any, .any, .any, .any, .any, .any, .any, .any, .any, .any, .any, .any, .any, .any, .any, .any, .any, .any, .any, .any, .any, .any, .any, .any, .any, .any, .any, .any, .any, .any, .any, .any, .any, .any, .any, .any, .any, .any, .any, .any, .any, .any, .any, .any, .any, .any, .any, .any, .any, .any, .any, .any, .any, .any, .any, .any, .any, .any, .any, .any, .any, .any, .any, .any, .any, .any, .any, .any, .any, .any, .any, .any, .any, .any]) fn_23 rfl rfl rfl rfl fun R hR => ?_
      (have zx1 := @d1; have zx2 := @d2; have zx3 := @d3; have zx4 := @h1; all_goals (try ((with_reducible first | refine wp_id ?_ | refine does_id ?_ | refine ops_id ?_); refine walk ?_; (repeat' (first | exact trivial | with_reducible refine And.intro ?_ ?_)); all_goals (repeat with_reducible first | refine ImpB.mk fun hb => ?_ | refine ImpK.mk fun hK => ?_ | refine ImpF.mk fun hF => ?_ | refine ImpQ.mk fun hp => ?_ | refine AllE.mk fun p => ?_ | refine AllR.mk fun rest => ?_ | refine AllK.mk fun K => ?_))); repeat' (with_reducible refine And.intro ?_ ?_))
      (focus (refine ⟨_, _, Gh.refl, [], rfl, ?_⟩; (refine fitq ?_ ?_ ?_ <;> try exact trivial); (try any_goals (refine ⟨?_, ?_⟩)); (try any_goals (with_reducible rfl))))
      all_goals (repeat' (first | (refine And.intro ?_ ?_) | rfl))
    | true =>
      have d4 : decide (m.high = 0) = false := decide_eq_false fun q => g2 ⟨k2, h1, q⟩
      refine w_body (rs := [.tmp 2]) (tm := [.agg (monL m), .any, .any, .any, .any, .any, .any, .any, .any, .any, .any, .any, .any, .any, .any, .any, .any, .any, .any, .any, .any, .any, .any, .any, .any, .any, .any, .any, .any, .any, .any, .any, .any, .any, .any, .any, .any, .any, .any, .any, .any, .any, .any, .any, .any, .any, .any, .any, .any, .any, .any, .any, .any, .any, .any, .any, .any, .any, .any, .any, .any, .any, .any, .any, .any, .any, .any, .any, .any, .any, .any, .any, .any, .any, .any, .any]) fn_23 rfl rfl rfl rfl fun R hR => ?_
      (have zx1 := @d1; have zx2 := @d2; have zx3 := @d3; have zx4 := @h1; have zx5 := @d4; all_goals (try ((with_reducible first | refine wp_id ?_ | refine does_id ?_ | refine ops_id ?_); refine walk ?_; (repeat' (first | exact trivial | with_reducible refine And.intro ?_ ?_)); all_goals (repeat with_reducible first | refine ImpB.mk fun hb => ?_ | refine ImpK.mk fun hK => ?_ | refine ImpF.mk fun hF => ?_ | refine ImpQ.mk fun hp => ?_ | refine AllE.mk fun p => ?_ | refine AllR.mk fun rest => ?_ | refine AllK.mk fun K => ?_))); repeat' (with_reducible refine And.intro ?_ ?_))
      (focus (refine ⟨_, _, Gh.refl, [], rfl, ?_⟩; (refine fitq ?_ ?_ ?_ <;> try exact trivial); (try any_goals (refine ⟨?_, ?_⟩)); (try any_goals (with_reducible rfl))))
      all_goals (repeat' (first | (refine And.intro ?_ ?_) | rfl))
  have d2 : decide (m.kind = 2) = false := decide_eq_false k2
  by_cases k3 : m.kind = 3
  · have d3 : decide (m.kind = 3) = true := decide_eq_true k3
    by_cases c1 : m.low = 0
    · have e1 : decide (m.low = 0) = true := decide_eq_true c1
      by_cases c2 : 0 ≤ m.high
      · have e2 : decide (0 ≤ m.high) = true := decide_eq_true c2
        have e3 : decide (m.high ≤ 4294967296) = false := decide_eq_false fun q => g3 ⟨k3, c1, c2, q⟩
        refine w_body (rs := [.tmp 2]) (tm := [.agg (monL m), .any, .any, .any, .any, .any, .any, .any, .any, .any, .any, .any, .any, .any, .any, .any, .any, .any, .any, .any, .any, .any, .any, .any, .any, .any, .any, .any, .any, .any, .any, .any, .any, .any, .any, .any, .any, .any, .any, .any, .any, .any, .any, .any, .any, .any, .any, .any, .any, .any, .any, .any, .any, .any, .any, .any, .any, .any, .any, .any, .any, .any, .any, .any, .any, .any, .any, .any, .any, .any, .any, .any, .any, .any, .any, .any]) fn_23 rfl rfl rfl rfl fun R hR => ?_
        (have zx1 := @d1; have zx2 := @d2; have zx3 := @d3; have zx4 := @e1; have zx5 := @e2; have zx6 := @e3; all_goals (try ((with_reducible first | refine wp_id ?_ | refine does_id ?_ | refine ops_id ?_); refine walk ?_; (repeat' (first | exact trivial | with_reducible refine And.intro ?_ ?_)); all_goals (repeat with_reducible first | refine ImpB.mk fun hb => ?_ | refine ImpK.mk fun hK => ?_ | refine ImpF.mk fun hF => ?_ | refine ImpQ.mk fun hp => ?_ | refine AllE.mk fun p => ?_ | refine AllR.mk fun rest => ?_ | refine AllK.mk fun K => ?_))); repeat' (with_reducible refine And.intro ?_ ?_))
        (focus (refine ⟨_, _, Gh.refl, [], rfl, ?_⟩; (refine fitq ?_ ?_ ?_ <;> try exact trivial); (try any_goals (refine ⟨?_, ?_⟩)); (try any_goals (with_reducible rfl))))
        all_goals (repeat' (first | (refine And.intro ?_ ?_) | rfl))
      · have e2 : decide (0 ≤ m.high) = false := decide_eq_false c2
        refine w_body (rs := [.tmp 2]) (tm := [.agg (monL m), .any, .any, .any, .any, .any, .any, .any, .any, .any, .any, .any, .any, .any, .any, .any, .any, .any, .any, .any, .any, .any, .any, .any, .any, .any, .any, .any, .any, .any, .any, .any, .any, .any, .any, .any, .any, .any, .any, .any, .any, .any, .any, .any, .any, .any, .any, .any, .any, .any, .any, .any, .any, .any, .any, .any, .any, .any, .any, .any, .any, .any, .any, .any, .any, .any, .any, .any, .any, .any, .any, .any, .any, .any, .any, .any]) fn_23 rfl rfl rfl rfl fun R hR => ?_
        (have zx1 := @d1; have zx2 := @d2; have zx3 := @d3; have zx4 := @e1; have zx5 := @e2; all_goals (try ((with_reducible first | refine wp_id ?_ | refine does_id ?_ | refine ops_id ?_); refine walk ?_; (repeat' (first | exact trivial | with_reducible refine And.intro ?_ ?_)); all_goals (repeat with_reducible first | refine ImpB.mk fun hb => ?_ | refine ImpK.mk fun hK => ?_ | refine ImpF.mk fun hF => ?_ | refine ImpQ.mk fun hp => ?_ | refine AllE.mk fun p => ?_ | refine AllR.mk fun rest => ?_ | refine AllK.mk fun K => ?_))); repeat' (with_reducible refine And.intro ?_ ?_))
        (focus (refine ⟨_, _, Gh.refl, [], rfl, ?_⟩; (refine fitq ?_ ?_ ?_ <;> try exact trivial); (try any_goals (refine ⟨?_, ?_⟩)); (try any_goals (with_reducible rfl))))
        all_goals (repeat' (first | (refine And.intro ?_ ?_) | rfl))
    · have e1 : decide (m.low = 0) = false := decide_eq_false c1
      refine w_body (rs := [.tmp 2]) (tm := [.agg (monL m), .any, .any, .any, .any, .any, .any, .any, .any, .any, .any, .any, .any, .any, .any, .any, .any, .any, .any, .any, .any, .any, .any, .any, .any, .any, .any, .any, .any, .any, .any, .any, .any, .any, .any, .any, .any, .any, .any, .any, .any, .any, .any, .any, .any, .any, .any, .any, .any, .any, .any, .any, .any, .any, .any, .any, .any, .any, .any, .any, .any, .any, .any, .any, .any, .any, .any, .any, .any, .any, .any, .any, .any, .any, .any, .any]) fn_23 rfl rfl rfl rfl fun R hR => ?_
      (have zx1 := @d1; have zx2 := @d2; have zx3 := @d3; have zx4 := @e1; all_goals (try ((with_reducible first | refine wp_id ?_ | refine does_id ?_ | refine ops_id ?_); refine walk ?_; (repeat' (first | exact trivial | with_reducible refine And.intro ?_ ?_)); all_goals (repeat with_reducible first | refine ImpB.mk fun hb => ?_ | refine ImpK.mk fun hK => ?_ | refine ImpF.mk fun hF => ?_ | refine ImpQ.mk fun hp => ?_ | refine AllE.mk fun p => ?_ | refine AllR.mk fun rest => ?_ | refine AllK.mk fun K => ?_))); repeat' (with_reducible refine And.intro ?_ ?_))
      (focus (refine ⟨_, _, Gh.refl, [], rfl, ?_⟩; (refine fitq ?_ ?_ ?_ <;> try exact trivial); (try any_goals (refine ⟨?_, ?_⟩)); (try any_goals (with_reducible rfl))))
      all_goals (repeat' (first | (refine And.intro ?_ ?_) | rfl))
  · have d3 : decide (m.kind = 3) = false := decide_eq_false k3
    refine w_body (rs := [.tmp 2]) (tm := [.agg (monL m), .any, .any, .any, .any, .any, .any, .any, .any, .any, .any, .any, .any, .any, .any, .any, .any, .any, .any, .any, .any, .any, .any, .any, .any, .any, .any, .any, .any, .any, .any, .any, .any, .any, .any, .any, .any, .any, .any, .any, .any, .any, .any, .any, .any, .any, .any, .any, .any, .any, .any, .any, .any, .any, .any, .any, .any, .any, .any, .any, .any, .any, .any, .any, .any, .any, .any, .any, .any, .any, .any, .any, .any, .any, .any, .any]) fn_23 rfl rfl rfl rfl fun R hR => ?_
    (have zx1 := @d1; have zx2 := @d2; have zx3 := @d3; all_goals (try ((with_reducible first | refine wp_id ?_ | refine does_id ?_ | refine ops_id ?_); refine walk ?_; (repeat' (first | exact trivial | with_reducible refine And.intro ?_ ?_)); all_goals (repeat with_reducible first | refine ImpB.mk fun hb => ?_ | refine ImpK.mk fun hK => ?_ | refine ImpF.mk fun hF => ?_ | refine ImpQ.mk fun hp => ?_ | refine AllE.mk fun p => ?_ | refine AllR.mk fun rest => ?_ | refine AllK.mk fun K => ?_))); repeat' (with_reducible refine And.intro ?_ ?_))
    (focus (refine ⟨_, _, Gh.refl, [], rfl, ?_⟩; (refine fitq ?_ ?_ ?_ <;> try exact trivial); (try any_goals (refine ⟨?_, ?_⟩)); (try any_goals (with_reducible rfl))))
    all_goals (repeat' (first | (refine And.intro ?_ ?_) | rfl))
theorem c_newB {h : List Ch} {K : KT} {a b c lo hi d e f : Int} (H : K (.lit .nilIface) h) (e1 : isBad ⟨a, b, c, lo, hi, d, e, f⟩) : Does Try.prog 23 [.agg [.int .i64 a, .int .i64 b, .int .i64 c, .int .i64 lo, .int .i64 hi, .int .i64 d, .int .i64 e, .int .i64 f]] h K :=
  frame_pure (b_newB ⟨a, b, c, lo, hi, d, e, f⟩ e1) (br_cons (br_agg (br_cons br_int (br_cons br_int (br_cons br_int (br_cons br_int (br_cons br_int (br_cons br_int (br_cons br_int (br_cons br_int br_nil))))))))) br_nil) (.inr rfl) (fun _ => rfl) H
abbrev i_newB := Ctr.mk (i := 3) (g := 23) @c_newB
attribute [instance] i_newB
theorem at_srv {h : List Ch} {v : Nat} {ts : List (Nat × Nat)} {now : Int} {es : List Sm} {gt tm : List AV} (a : Srv h 0 v ts now es) (ht : fitL (0 :: v :: ilv ts) gt tm) : At 0 gt (SV now es) tm h :=
  ⟨_, _, Gh.refl, 0 :: v :: ilv ts, rfl, ht, a.shut.2.1, a.shut.2.2⟩
end Go.V

set_option maxRecDepth 100000
set_option maxHeartbeats 8000000
namespace Go.V
open Go.Proofs
attribute [-go_sem] SL PL
def mkS (m : Mon) : Sm := ⟨m, false, 0, 0, 0, false, 0⟩
abbrev mAt (l : List Mon) (k : Nat) : Mon := l.getD k Mon.zero
/-- the k-th monitor is taken -/
structure okM (l : List Mon) (k : Nat) : Prop where
  ck : isLim (mAt l k) ∨ isExp (mAt l k) ∨ isDel (mAt l k)
  mo : isMon (mAt l k)
  or_ : k = 0 ∨ (mAt l (k - 1)).id < (mAt l k).id
theorem ilv_inv {t : Nat} : ∀ {ts : List (Nat × Nat)}, t ∈ ilv ts → ∃ i, i < ts.length ∧ (t = (ts.getD i (0, 0)).1 ∨ t = (ts.getD i (0, 0)).2)
  | [], h => by simp [ilv] at h
  | x :: xs, h => by
    rcases List.mem_cons.1 h with rfl | h
    · exact ⟨0, by simp, .inl rfl⟩
    rcases List.mem_cons.1 h with rfl | h
    · exact ⟨0, by simp, .inr rfl⟩
    obtain ⟨i, hi, q⟩ := ilv_inv h
    exact ⟨i + 1, by simpa using hi, q⟩
theorem Srv.lt {h : List Ch} {u v : Nat} {ts : List (Nat × Nat)} {now : Int} {es : List Sm} (a : Srv h u v ts now es) : ∀ t ∈ u :: v :: ilv ts, t < h.length := by
  intro t ht
  rcases List.mem_cons.1 ht with rfl | ht
  · exact hth_lt (by rw [a.o]; simp)
  rcases List.mem_cons.1 ht with rfl | ht
  · exact hth_lt (by rw [a.o1]; simp)
  · obtain ⟨i, hi, q⟩ := ilv_inv ht
    rw [a.len] at hi
    rcases q with rfl | rfl
    · exact hth_lt (by rw [a.ent i hi]; simp)
    · exact (a.dl i hi).1
theorem ilv_app (l m : List (Nat × Nat)) : ilv (l ++ m) = ilv l ++ ilv m := by
  induction l with
  | nil => rfl
  | cons t ts ih => show t.1 :: t.2 :: ilv (ts ++ m) = t.1 :: t.2 :: (ilv ts ++ ilv m); rw [ih]
theorem ilv_mem : ∀ {ts : List (Nat × Nat)} {i : Nat}, i < ts.length → (ts.getD i (0, 0)).1 ∈ ilv ts ∧ (ts.getD i (0, 0)).2 ∈ ilv ts
  | [], _, h => by simp at h
  | t :: ts, 0, _ => ⟨by simp [ilv], by simp [ilv]⟩
  | t :: ts, i + 1, h => by
    have := ilv_mem (ts := ts) (i := i) (by simpa using h)
    exact ⟨List.mem_cons_of_mem _ (List.mem_cons_of_mem _ this.1), List.mem_cons_of_mem _ (List.mem_cons_of_mem _ this.2)⟩
/-- one entry more -/
theorem Srv.push {h h' : List Ch} {u v v' p d : Nat} {ts : List (Nat × Nat)} {now : Int} {es : List Sm} {e : Sm} (A : Srv h u v ts now es)
    (o : hth h' u = .cells [.bool true, .int .i64 now, .csl v' (es.length + 1) 1]) (o1 : hth h' v' = .crow (ptA ts ++ [.ptr p 0])) (hl : h.length ≤ h'.length)
    (hs : ∀ t ∈ ilv ts, hth h' t = hth h t) (he : hth h' p = .cells (enC e d)) (hd : d < h'.length ∧ (e.m.kind = 3 → hth h' d = .cells (dlV e)))
    (n1 : h.length ≤ p ∧ h.length ≤ d ∧ h.length ≤ v') (n2 : p ≠ d ∧ p ≠ v' ∧ d ≠ v') : Srv h' u v' (ts ++ [(p, d)]) now (es ++ [e]) := by
  have hlt := A.lt
  have hu : u < h.length := hlt u (by simp)
  have hi : ∀ t ∈ ilv ts, t < h.length := fun t ht => hlt t (by simp [ht])
  have hnd := A.nd
  refine ⟨by simp, by rw [o]; simp, by rw [o1, ptA_app]; rfl, by simp [A.len], fun i hi' => ?_, fun i hi' => ?_, ?_⟩
  · rw [List.length_append] at hi'
    by_cases c : i < es.length
    · have c2 : i < ts.length := by rw [A.len]; exact c
      have g1 : (ts ++ [(p, d)]).getD i (0, 0) = ts.getD i (0, 0) := by rw [List.getD_eq_getElem?_getD, List.getElem?_append_left c2, ← List.getD_eq_getElem?_getD]
      have g2 : eAtS (es ++ [e]) i = eAtS es i := by show (es ++ [e]).getD i Sm.zero = es.getD i Sm.zero; rw [List.getD_eq_getElem?_getD, List.getElem?_append_left c, ← List.getD_eq_getElem?_getD]
      rw [g1, g2, hs _ (ilv_mem c2).1, A.ent i c]
    · have : i = es.length := by simp at hi'; omega
      subst this
      have g1 : (ts ++ [(p, d)]).getD es.length (0, 0) = (p, d) := by rw [List.getD_eq_getElem?_getD, ← A.len, List.getElem?_concat_length]; rfl
      have g2 : eAtS (es ++ [e]) es.length = e := by show (es ++ [e]).getD es.length Sm.zero = e; rw [List.getD_eq_getElem?_getD, List.getElem?_concat_length]; rfl
      rw [g1, g2, he]
  · rw [List.length_append] at hi'
    by_cases c : i < es.length
    · have c2 : i < ts.length := by rw [A.len]; exact c
      have g1 : (ts ++ [(p, d)]).getD i (0, 0) = ts.getD i (0, 0) := by rw [List.getD_eq_getElem?_getD, List.getElem?_append_left c2, ← List.getD_eq_getElem?_getD]
      have g2 : eAtS (es ++ [e]) i = eAtS es i := by show (es ++ [e]).getD i Sm.zero = es.getD i Sm.zero; rw [List.getD_eq_getElem?_getD, List.getElem?_append_left c, ← List.getD_eq_getElem?_getD]
      rw [g1, g2]
      refine ⟨by have := (A.dl i c).1; omega, fun q => ?_⟩
      rw [hs _ (ilv_mem c2).2, (A.dl i c).2 q]
    · have : i = es.length := by simp at hi'; omega
      subst this
      have g1 : (ts ++ [(p, d)]).getD es.length (0, 0) = (p, d) := by rw [List.getD_eq_getElem?_getD, ← A.len, List.getElem?_concat_length]; rfl
      have g2 : eAtS (es ++ [e]) es.length = e := by show (es ++ [e]).getD es.length Sm.zero = e; rw [List.getD_eq_getElem?_getD, List.getElem?_concat_length]; rfl
      rw [g1, g2]
      exact hd
  · obtain ⟨m1, m2⟩ := List.nodup_cons.1 hnd
    obtain ⟨m3, m4⟩ := List.nodup_cons.1 m2
    rw [ilv_app]
    show (u :: v' :: (ilv ts ++ [p, d])).Nodup
    have hu2 : u ∉ ilv ts := fun q => m1 (List.mem_cons_of_mem _ q)
    have hp2 : p ∉ ilv ts := fun q => by have := hi _ q; omega
    have hd2 : d ∉ ilv ts := fun q => by have := hi _ q; omega
    have hv2 : v' ∉ ilv ts := fun q => by have := hi _ q; omega
    refine List.nodup_cons.2 ⟨fun q => ?_, List.nodup_cons.2 ⟨fun q => ?_, List.nodup_append.2 ⟨m4, by simp; exact n2.1, fun a ha b hb => ?_⟩⟩⟩
    · rcases List.mem_cons.1 q with q | q
      · omega
      · rcases List.mem_append.1 q with q | q
        · exact hu2 q
        · simp at q; omega
    · rcases List.mem_append.1 q with q | q
      · exact hv2 q
      · simp at q; omega
    · intro q
      subst q
      simp at hb
      rcases hb with rfl | rfl
      · exact hp2 ha
      · exact hd2 ha
/-- two places in a memory are set: nothing else changes -/
theorem symS {h : List Ch} {t : Nat} (ht : t < h.length) (c : Ch) : (∀ l, (h ++ l).set t c = h.set t c ++ l) ∧ ((∀ l, hth (h.set t c ++ l) h.length = hth l 0) ∧ ∀ l j, hth (h.set t c ++ l) (h.length + j) = hth l j) ∧ ∀ l l', h.set t c ++ l ++ l' = h.set t c ++ (l ++ l') := by
  have e : (h.set t c).length = h.length := List.length_set
  refine ⟨fun l => ?_, ⟨fun l => ?_, fun l j => ?_⟩, fun l l' => List.append_assoc _ _ _⟩
  · rw [List.set_append_left _ _ ht]
  · rw [← e]; exact hth_app_r (j := 0)
  · rw [← e]; exact hth_app_r
theorem Srv.grow {h L : List Ch} {i d j : Nat} {ts : List (Nat × Nat)} {now : Int} {es : List Sm} {e : Sm} (A : Srv h 0 1 ts now es) (x : hth L j = .crow (List.take es.length (ptA ts) ++ [.ptr (h.length + i) 0])) (y : hth L i = .cells (enC e (h.length + d))) (z : d < L.length) (z3 : e.m.kind = 3 → hth L d = .cells (dlV e)) (n : i ≠ d ∧ i ≠ j ∧ d ≠ j) :
    Srv ((h.set 1 .gone).set 0 (.cells [.bool true, .int .i64 now, .csl (h.length + j) (es.length + 1) 1]) ++ L) 0 (h.length + j) (ts ++ [(h.length + i, h.length + d)]) now (es ++ [e]) := by
  have hlt := A.lt
  have hl0 : 0 < h.length := hlt 0 (by simp)
  have hl1 : 1 < h.length := hlt 1 (by simp)
  obtain ⟨m1, m2⟩ := List.nodup_cons.1 A.nd
  obtain ⟨m3, m4⟩ := List.nodup_cons.1 m2
  have e0 : ((h.set 1 .gone).set 0 (.cells [.bool true, .int .i64 now, .csl (h.length + j) (es.length + 1) 1])).length = h.length := by simp
  have hr : ∀ q, hth ((h.set 1 .gone).set 0 (.cells [.bool true, .int .i64 now, .csl (h.length + j) (es.length + 1) 1]) ++ L) (h.length + q) = hth L q := fun q => by
    conv => lhs; arg 2; rw [← e0]
    exact hth_app_r
  refine A.push ?_ ?_ (by rw [List.length_append, e0]; omega) (fun t ht => ?_) ?_ ⟨by rw [List.length_append, e0]; omega, fun q => by rw [hr]; exact z3 q⟩ ⟨by omega, by omega, by omega⟩ ⟨by omega, by omega, by omega⟩
  · rw [hth_app (by rw [e0]; exact hl0)]
    exact hth_set_eq (by rw [List.length_set]; exact hl0)
  · rw [hr, x, List.take_of_length_le (by rw [ptA_len, A.len]; exact Nat.le_refl _)]
  · have := hlt t (by simp [ht])
    rw [hth_app (by rw [e0]; exact this), hth_set_ne (fun q => m1 (by rw [q]; exact List.mem_cons_of_mem _ ht)), hth_set_ne (fun q => m3 (by rw [q]; exact ht))]
  · rw [hr, y]
theorem ckA_lim {m : Mon} (h : isLim m) (d : Nat) : ckA m d = .ifc 103 (.agg [.int .i64 m.low, .int .i64 m.high]) := by
  unfold ckA
  rw [if_neg (by rw [h.kind]; decide), if_neg (by rw [h.kind]; decide)]
theorem ckA_exp {m : Mon} (h : isExp m) (d : Nat) : ckA m d = .ifc 105 (.agg [.int .i64 m.low]) := by
  unfold ckA
  rw [if_neg (by rw [h.kind]; decide), if_pos h.kind]
theorem ckA_del {m : Mon} (h : isDel m) (d : Nat) : ckA m d = .ifc 98 (.ptr d 0) := by
  unfold ckA
  rw [if_pos h.kind]
theorem enC_mk (m : Mon) (d : Nat) {c : AV} (h : ckA m d = c) : Ch.cells (enC (mkS m) d) = .cells [.int .i64 m.id, .int .i64 m.param, .int .i64 m.kind, .int .i64 m.low, .int .i64 m.high, .int .i64 m.rep, .int .i64 m.ev, .int .i64 m.sev, c, .bool false, .int .i64 0, .int .i64 0, .int .i64 0] := by
  subst h; rfl
theorem mon_ok {m : Mon} (a : (!inN m.id) = false) (b : (!inN m.param) = false) (c : (!inN m.ev) = false) (d : decide (m.rep < 1) = false) (e : decide (256 < m.rep) = false) (f : decide (m.sev < 1) = false) (g : decide (4 < m.sev) = false) : isMon m := by
  have d := of_decide_eq_false d
  have e := of_decide_eq_false e
  have f := of_decide_eq_false f
  have g := of_decide_eq_false g
  exact ⟨by simpa using a, by simpa using b, by simpa using c, by omega, by omega⟩
theorem of_ord {a b : Int} (h : decide (a ≤ b) = false) : b < a := by
  have := of_decide_eq_false h
  omega
theorem Srv.one {h : List Ch} {v p d : Nat} {now : Int} {e : Sm} (o : hth h 0 = .cells [.bool true, .int .i64 now, .csl v 1 1]) (o1 : hth h v = .crow [.ptr p 0]) (y : hth h p = .cells (enC e d)) (z : d < h.length) (z3 : e.m.kind = 3 → hth h d = .cells (dlV e)) (n : [0, v, p, d].Nodup) : Srv h 0 v [(p, d)] now [e] := by
  refine ⟨by simp, o, o1, rfl, fun i hi => ?_, fun i hi => ?_, n⟩
  · have : i = 0 := by simp at hi; exact hi
    subst this; exact y
  · have : i = 0 := by simp at hi; exact hi
    subst this; exact ⟨z, z3⟩
theorem end_srvN {h : List Ch} {u v : Nat} {ts : List (Nat × Nat)} {now : Int} {es : List Sm} {r r' : AV} (a : Srv h u v ts now es) (hr : fitA [u] r r') : ∃ v' h2, Gh [r'] h [v'] h2 ∧ EndF 0 r [.pack (SV now es)] v' h2 := by
  have hc : hth (closeH h u (v :: ilv ts) (SV now es)) u = .pack (SV now es) := by
    unfold closeH
    exact hth_set_eq (by rw [goneH_len]; exact hth_lt (by rw [a.o]; simp))
  refine ⟨_, _, gh_close a.shut, [u], rfl, ⟨hr, trivial⟩, ⟨hth_lt (by rw [hc]; simp), by rw [hc]; exact rfl, trivial⟩, by simp⟩
theorem end_K {a : List AV} {b : List Ch} {n : Nat} {r : AV} {hp : List Ch} {KK : KT} (H : ∃ v' h2, Gh a b [v'] h2 ∧ EndF n r hp v' h2) (hk : ∀ v h, EndF n r hp v h → KK v h) : ∃ v' h2, Gh a b [v'] h2 ∧ KK v' h2 := by
  obtain ⟨v', h2, g, q⟩ := H
  exact ⟨v', h2, g, hk _ _ q⟩
def takS (l : List Mon) (k : Nat) : List Sm := (l.take k).map mkS
theorem takS_succ {l : List Mon} {k : Nat} (h : k < l.length) : takS l (k + 1) = takS l k ++ [mkS (mAt l k)] := by
  unfold takS mAt
  rw [List.take_succ_eq_append_getElem h, List.map_append, List.getD_eq_getElem?_getD, List.getElem?_eq_getElem h]; rfl
theorem takS_len {l : List Mon} {k : Nat} (h : k ≤ l.length) : (takS l k).length = k := by
  unfold takS
  rw [List.length_map, List.length_take]; omega
theorem takS_all (l : List Mon) : takS l l.length = l.map mkS := by
  unfold takS
  rw [List.take_length]
theorem k_mnew (l : List Mon) (hl : l.length ≤ 256) (KK : KT) (HG : (∀ k, k < l.length → okM l k) → ∀ v h, EndF 0 (.tup [.ptr 0 0, .int .i64 0]) [.pack (SV 0 (l.map mkS))] v h → KK v h)
    (HB : (¬ ∀ k, k < l.length → okM l k) → ∀ v h, EndF 0 (.tup [.lit (.pointer none), .int .i64 1]) [] v h → KK v h) : DoesK Try.prog 0 9 [.ro .mon l] [] KK := by
  refine DoesK.close ?_
  have a0 : decide (256 < (l.length : Int)) = false := decide_eq_false (by omega)
  refine w_body (rs := [.tmp 2, .tmp 3]) (tm := [.ro .mon l, .any, .any, .any, .any, .any, .any, .any, .any, .any, .any, .any, .any, .any, .any, .any, .any, .any, .any, .any, .any, .any, .any, .any, .any, .any, .any, .any, .any, .any, .any, .any, .any, .any, .any, .any, .any, .any, .any, .any, .any, .any, .any, .any, .any, .any, .any, .any, .any, .any, .any, .any, .any, .any, .any, .any, .any, .any, .any, .any, .any, .any, .any, .any, .any, .any, .any, .any, .any, .any, .any, .any, .any, .any, .any, .any, .any, .any, .any, .any, .any, .any, .any, .any, .any, .any, .any, .any, .any, .any]) fn_9 rfl rfl rfl rfl fun R hR => ?_
  (have zx1 := @a0; all_goals (try ((with_reducible first | refine wp_id ?_ | refine does_id ?_ | refine ops_id ?_); refine walk ?_; (repeat' (first | exact trivial | with_reducible refine And.intro ?_ ?_)); all_goals (repeat with_reducible first | refine ImpB.mk fun hb => ?_ | refine ImpK.mk fun hK => ?_ | refine ImpF.mk fun hF => ?_ | refine ImpQ.mk fun hp => ?_ | refine AllE.mk fun p => ?_ | refine AllR.mk fun rest => ?_ | refine AllK.mk fun K => ?_))); repeat' (with_reducible refine And.intro ?_ ?_))
  any_goals ((try (refine w_seq fun K hK => ?_)); (try (refine w_block ?_)); refine w_loopG (A := Nat) (fun k => k ≤ l.length ∧ ∀ j, j < k → okM l j) (fun k => l.length - k) (fun k => [(15, .int .i64 k), (4, .ptr 0 0)]) (fun k => SV 0 (takS l k)) (0) (ws := ?ws1) (tk := ?tk1) ?hw1 ?ht1 ?hi ?h0 ?LH1; (case hw1 => simp only [go_sem, decide_true, decide_false, Int.reduceToNat, Nat.min_eq_left, Nat.min_eq_right, Int.reducePow, Nat.reducePow, Int.reduceLE, Int.reduceLT, Int.reduceMul, Int.reduceAdd, Int.reduceSub, Int.reduceNeg, Bool.not_true, Bool.not_false, Bool.not_not, ↓reduceIte, Nat.reduceAdd, Nat.reduceSub, Nat.reduceMul, Nat.reduceEqDiff, reduceCtorEq, Nat.reduceLT, Nat.reduceLeDiff, Nat.reduceGT]; exact rfl); (case ht1 => simp only [go_sem, decide_true, decide_false, Int.reduceToNat, Nat.min_eq_left, Nat.min_eq_right, Int.reducePow, Nat.reducePow, Int.reduceLE, Int.reduceLT, Int.reduceMul, Int.reduceAdd, Int.reduceSub, Int.reduceNeg, Bool.not_true, Bool.not_false, Bool.not_not, ↓reduceIte, Nat.reduceAdd, Nat.reduceSub, Nat.reduceMul, Nat.reduceEqDiff, reduceCtorEq, Nat.reduceLT, Nat.reduceLeDiff, Nat.reduceGT]; exact rfl); (case' LH1 => rintro k E t hx hE ht; simp only [go_sem] at ht; subst ht; simp only [go_sem]; try dsimp only at hx))
  case hi => exact ⟨Nat.zero_le _, fun j hj => absurd hj (Nat.not_lt_zero j)⟩
  case h0 =>
    show At 0 _ [.cells [.bool true, .int .i64 0, .lit (.slice none 0 0)]] _ _
    (focus (refine ⟨_, _, Gh.refl, [0], rfl, ?_⟩; (refine fitq ?_ ?_ ?_ <;> try exact trivial); (try any_goals (refine ⟨?_, ?_⟩)); (try any_goals (with_reducible rfl))))
    all_goals (repeat' (first | (refine And.intro ?_ ?_) | rfl))
  case LH1 =>
    obtain ⟨hk0, hko⟩ := hx
    have hk0' : k ≤ l.length := hk0
    have htl := takS_len hk0'
    by_cases hk : k < l.length
    · have hkd : decide ((k : Int) < (l.length : Int)) = true := decide_eq_true (by omega)
      have hkw : IntKind.i64.wrap ((k : Int) + 1) = ((k + 1 : Nat) : Int) := by rw [wrap_i64 _ (by omega) (by omega)]; omega
      obtain ⟨m, hm⟩ : ∃ m, mAt l k = m := ⟨_, rfl⟩
      by_cases hok : okM l k
      · have hko2 : ∀ j, j < k + 1 → okM l j := fun j hj => by
          by_cases c : j < k
          · exact hko j c
          · have : j = k := by omega
            rw [this]; exact hok
        have hstep := takS_succ hk
        rw [hm] at hstep
        obtain ⟨h1, h2, h3⟩ := hok
        rw [hm] at h1 h2 h3
        obtain ⟨n1, n2, n3, ⟨r1, r2⟩, s1, s2⟩ := h2
        have hnm := And.intro n1 (And.intro n2 n3)
        have hrs : decide (m.rep < 1) = false ∧ decide (256 < m.rep) = false ∧ decide (m.sev < 1) = false ∧ decide (4 < m.sev) = false := ⟨decide_eq_false (by omega), decide_eq_false (by omega), decide_eq_false (by omega), decide_eq_false (by omega)⟩
        by_cases hk1 : k = 0
        · subst hk1
          have hkz : decide ((0 : Int) < ((0 : Nat) : Int)) = false := by decide
          have hkd0 : decide ((0 : Int) < (l.length : Int)) = true := hkd
          have hkw0 : IntKind.i64.wrap 1 = ((1 : Nat) : Int) := by decide
          have e0 : takS l 0 = [] := rfl
          rw [e0] at hstep ⊢
          rw [show SV 0 [] = [.cells [.bool true, .int .i64 0, .lit (.slice none 0 0)]] from rfl]
          rcases h1 with h1 | h1 | h1
          · have hck := fun d => ckA_lim h1 d
            (have zx1 := @hkd0; have zx2 := @hkw0; have zx3 := @hm; have zx4 := @hnm; have zx5 := @hrs; have zx6 := @hkz; all_goals (try ((with_reducible first | refine wp_id ?_ | refine does_id ?_ | refine ops_id ?_); refine walk ?_; (repeat' (first | exact trivial | with_reducible refine And.intro ?_ ?_)); all_goals (repeat with_reducible first | refine ImpB.mk fun hb => ?_ | refine ImpK.mk fun hK => ?_ | refine ImpF.mk fun hF => ?_ | refine ImpQ.mk fun hp => ?_ | refine AllE.mk fun p => ?_ | refine AllR.mk fun rest => ?_ | refine AllK.mk fun K => ?_))); repeat' (with_reducible refine And.intro ?_ ?_))
            all_goals first | (show _ ≤ (_ : Int); omega) | (show _ < (_ : Int); omega) | (show _ ≤ (_ : Nat); omega) | (show _ < (_ : Nat); omega) | skip
            refine ⟨1, ⟨⟨(by omega : 1 ≤ l.length), hko2⟩, (by omega : l.length - 1 < l.length - 0)⟩, ?_⟩
            dsimp only
            rw [show takS l 1 = [mkS m] from hstep]
            refine at_srv (Srv.one (v := 4) (p := 2) (d := 1) rfl rfl (enC_mk m _ (hck _)).symm (by simp) (fun q => by have := h1.kind; have q2 : m.kind = 3 := q; omega) (by decide)) ?_
            simp only [go_sem]
            (repeat' (first | (refine And.intro ?_ ?_) | (with_reducible rfl) | exact trivial | rfl))
          · have hck := fun d => ckA_exp h1 d
            (have zx1 := @hkd0; have zx2 := @hkw0; have zx3 := @hm; have zx4 := @hnm; have zx5 := @hrs; have zx6 := @hkz; all_goals (try ((with_reducible first | refine wp_id ?_ | refine does_id ?_ | refine ops_id ?_); refine walk ?_; (repeat' (first | exact trivial | with_reducible refine And.intro ?_ ?_)); all_goals (repeat with_reducible first | refine ImpB.mk fun hb => ?_ | refine ImpK.mk fun hK => ?_ | refine ImpF.mk fun hF => ?_ | refine ImpQ.mk fun hp => ?_ | refine AllE.mk fun p => ?_ | refine AllR.mk fun rest => ?_ | refine AllK.mk fun K => ?_))); repeat' (with_reducible refine And.intro ?_ ?_))
            all_goals first | (show _ ≤ (_ : Int); omega) | (show _ < (_ : Int); omega) | (show _ ≤ (_ : Nat); omega) | (show _ < (_ : Nat); omega) | skip
            refine ⟨1, ⟨⟨(by omega : 1 ≤ l.length), hko2⟩, (by omega : l.length - 1 < l.length - 0)⟩, ?_⟩
            dsimp only
            rw [show takS l 1 = [mkS m] from hstep]
            refine at_srv (Srv.one (v := 4) (p := 2) (d := 1) rfl rfl (enC_mk m _ (hck _)).symm (by simp) (fun q => by have := h1.kind; have q2 : m.kind = 3 := q; omega) (by decide)) ?_
            simp only [go_sem]
            (repeat' (first | (refine And.intro ?_ ?_) | (with_reducible rfl) | exact trivial | rfl))
          · have hck := fun d => ckA_del h1 d
            (have zx1 := @hkd0; have zx2 := @hkw0; have zx3 := @hm; have zx4 := @hnm; have zx5 := @hrs; have zx6 := @hkz; all_goals (try ((with_reducible first | refine wp_id ?_ | refine does_id ?_ | refine ops_id ?_); refine walk ?_; (repeat' (first | exact trivial | with_reducible refine And.intro ?_ ?_)); all_goals (repeat with_reducible first | refine ImpB.mk fun hb => ?_ | refine ImpK.mk fun hK => ?_ | refine ImpF.mk fun hF => ?_ | refine ImpQ.mk fun hp => ?_ | refine AllE.mk fun p => ?_ | refine AllR.mk fun rest => ?_ | refine AllK.mk fun K => ?_))); repeat' (with_reducible refine And.intro ?_ ?_))
            all_goals first | (show _ ≤ (_ : Int); omega) | (show _ < (_ : Int); omega) | (show _ ≤ (_ : Nat); omega) | (show _ < (_ : Nat); omega) | skip
            refine ⟨1, ⟨⟨(by omega : 1 ≤ l.length), hko2⟩, (by omega : l.length - 1 < l.length - 0)⟩, ?_⟩
            dsimp only
            rw [show takS l 1 = [mkS m] from hstep]
            refine at_srv (Srv.one (v := 5) (p := 3) (d := 2) rfl rfl (enC_mk m _ (hck _)).symm (by simp) (fun q => rfl) (by decide)) ?_
            simp only [go_sem]
            (repeat' (first | (refine And.intro ?_ ?_) | (with_reducible rfl) | exact trivial | rfl))
        · have hkp : decide ((0 : Int) < (k : Int)) = true := decide_eq_true (by omega)
          have hkm : IntKind.i64.wrap ((k : Int) - 1) = ((k - 1 : Nat) : Int) := by rw [wrap_i64 _ (by omega) (by omega)]; omega
          obtain ⟨m0, hm0⟩ : ∃ m0, mAt l (k - 1) = m0 := ⟨_, rfl⟩
          rw [hm0] at h3
          have hid : decide (m.id ≤ m0.id) = false := decide_eq_false (by omega)
          obtain ⟨es, hes⟩ : ∃ es, takS l k = es := ⟨_, rfl⟩
          rw [hes] at htl hstep ⊢
          have A := srv_open (now := 0) (es := es) (by omega)
          generalize SV 0 es = h at A ⊢
          generalize plc 2 es.length = ts at A
          have hlt := A.lt
          have hl0 : 0 < h.length := hlt 0 (by simp)
          have hl1 : 1 < h.length := hlt 1 (by simp)
          have o : (∀ l, hth (h ++ l) 0 = .cells [.bool true, .int .i64 0, .csl 1 es.length 1]) ∧ (∀ l, hth (h ++ l) 1 = .crow (ptA ts)) ∧ (∀ l, hth (h.set 1 .gone ++ l) 0 = .cells [.bool true, .int .i64 0, .csl 1 es.length 1]) := ⟨fun l => (A.app l).o, fun l => (A.app l).o1, fun l => by rw [hth_app (by rw [List.length_set]; exact hl0), hth_set_ne (by omega)]; exact A.o⟩
          have t3 : ∀ l c, (h.set 1 .gone ++ l).set 0 c = (h.set 1 .gone).set 0 c ++ l := fun l c => List.set_append_left _ _ (by rw [List.length_set]; exact hl0)
          have t4 := And.intro t3 (symS hl1 .gone)
          have t2 := symH h
          have hpo : (ptA ts).length = es.length ∧ okCells (ptA ts) := ⟨by rw [ptA_len, A.len], ptA_cells ts⟩
          have hms := And.intro hm hm0
          rcases h1 with h1 | h1 | h1
          · have hck := fun d => ckA_lim h1 d
            (have zx1 := @hkd; have zx2 := @hkw; have zx3 := @hms; have zx4 := @hnm; have zx5 := @hrs; have zx6 := @hkp; have zx7 := @hkm; have zx8 := @hid; have zx9 := @o; have zx10 := @t2; have zx11 := @t4; have zx12 := @hpo; all_goals (try ((with_reducible first | refine wp_id ?_ | refine does_id ?_ | refine ops_id ?_); refine walk ?_; (repeat' (first | exact trivial | with_reducible refine And.intro ?_ ?_)); all_goals (repeat with_reducible first | refine ImpB.mk fun hb => ?_ | refine ImpK.mk fun hK => ?_ | refine ImpF.mk fun hF => ?_ | refine ImpQ.mk fun hp => ?_ | refine AllE.mk fun p => ?_ | refine AllR.mk fun rest => ?_ | refine AllK.mk fun K => ?_))); repeat' (with_reducible refine And.intro ?_ ?_))
            all_goals first | (show _ ≤ (_ : Int); omega) | (show _ < (_ : Int); omega) | (show _ ≤ (_ : Nat); omega) | (show _ < (_ : Nat); omega) | skip
            refine ⟨k + 1, ⟨⟨(by omega : k + 1 ≤ l.length), hko2⟩, (by omega : l.length - (k + 1) < l.length - k)⟩, ?_⟩
            dsimp only
            rw [hstep]
            refine at_srv (A.grow (i := 1) (d := 0) (j := 3) rfl (enC_mk m _ (hck _)).symm (by simp) (fun q => by have := h1.kind; have q2 : m.kind = 3 := q; omega) ⟨by decide, by decide, by decide⟩) ?_
            simp only [go_sem]
            (repeat' (first | (refine And.intro ?_ ?_) | (with_reducible rfl) | exact trivial | rfl))
          · have hck := fun d => ckA_exp h1 d
            (have zx1 := @hkd; have zx2 := @hkw; have zx3 := @hms; have zx4 := @hnm; have zx5 := @hrs; have zx6 := @hkp; have zx7 := @hkm; have zx8 := @hid; have zx9 := @o; have zx10 := @t2; have zx11 := @t4; have zx12 := @hpo; all_goals (try ((with_reducible first | refine wp_id ?_ | refine does_id ?_ | refine ops_id ?_); refine walk ?_; (repeat' (first | exact trivial | with_reducible refine And.intro ?_ ?_)); all_goals (repeat with_reducible first | refine ImpB.mk fun hb => ?_ | refine ImpK.mk fun hK => ?_ | refine ImpF.mk fun hF => ?_ | refine ImpQ.mk fun hp => ?_ | refine AllE.mk fun p => ?_ | refine AllR.mk fun rest => ?_ | refine AllK.mk fun K => ?_))); repeat' (with_reducible refine And.intro ?_ ?_))
            all_goals first | (show _ ≤ (_ : Int); omega) | (show _ < (_ : Int); omega) | (show _ ≤ (_ : Nat); omega) | (show _ < (_ : Nat); omega) | skip
            refine ⟨k + 1, ⟨⟨(by omega : k + 1 ≤ l.length), hko2⟩, (by omega : l.length - (k + 1) < l.length - k)⟩, ?_⟩
            dsimp only
            rw [hstep]
            refine at_srv (A.grow (i := 1) (d := 0) (j := 3) rfl (enC_mk m _ (hck _)).symm (by simp) (fun q => by have := h1.kind; have q2 : m.kind = 3 := q; omega) ⟨by decide, by decide, by decide⟩) ?_
            simp only [go_sem]
            (repeat' (first | (refine And.intro ?_ ?_) | (with_reducible rfl) | exact trivial | rfl))
          · have hck := fun d => ckA_del h1 d
            (have zx1 := @hkd; have zx2 := @hkw; have zx3 := @hms; have zx4 := @hnm; have zx5 := @hrs; have zx6 := @hkp; have zx7 := @hkm; have zx8 := @hid; have zx9 := @o; have zx10 := @t2; have zx11 := @t4; have zx12 := @hpo; all_goals (try ((with_reducible first | refine wp_id ?_ | refine does_id ?_ | refine ops_id ?_); refine walk ?_; (repeat' (first | exact trivial | with_reducible refine And.intro ?_ ?_)); all_goals (repeat with_reducible first | refine ImpB.mk fun hb => ?_ | refine ImpK.mk fun hK => ?_ | refine ImpF.mk fun hF => ?_ | refine ImpQ.mk fun hp => ?_ | refine AllE.mk fun p => ?_ | refine AllR.mk fun rest => ?_ | refine AllK.mk fun K => ?_))); repeat' (with_reducible refine And.intro ?_ ?_))
            all_goals first | (show _ ≤ (_ : Int); omega) | (show _ < (_ : Int); omega) | (show _ ≤ (_ : Nat); omega) | (show _ < (_ : Nat); omega) | skip
            refine ⟨k + 1, ⟨⟨(by omega : k + 1 ≤ l.length), hko2⟩, (by omega : l.length - (k + 1) < l.length - k)⟩, ?_⟩
            dsimp only
            rw [hstep]
            refine at_srv (A.grow (i := 2) (d := 1) (j := 4) rfl (enC_mk m _ (hck _)).symm (by simp) (fun q => rfl) ⟨by decide, by decide, by decide⟩) ?_
            simp only [go_sem]
            (repeat' (first | (refine And.intro ?_ ?_) | (with_reducible rfl) | exact trivial | rfl))
      · have hbad : ¬ ∀ j, j < l.length → okM l j := fun q => hok (q k hk)
        generalize SV 0 (takS l k) = h
        have t2 := symH h
        by_cases hk1 : k = 0
        · subst hk1
          have hkz : decide ((0 : Int) < ((0 : Nat) : Int)) = false := by decide
          have hkd0 : decide ((0 : Int) < (l.length : Int)) = true := hkd
          by_cases hq : isLim m
          · (have zx1 := @hkd0; have zx2 := @hkw; have zx3 := @hm; have zx4 := @hkz; have zx5 := @t2; all_goals (try ((with_reducible first | refine wp_id ?_ | refine does_id ?_ | refine ops_id ?_); refine walk ?_; (repeat' (first | exact trivial | with_reducible refine And.intro ?_ ?_)); all_goals (repeat with_reducible first | refine ImpB.mk fun hb => ?_ | refine ImpK.mk fun hK => ?_ | refine ImpF.mk fun hF => ?_ | refine ImpQ.mk fun hp => ?_ | refine AllE.mk fun p => ?_ | refine AllR.mk fun rest => ?_ | refine AllK.mk fun K => ?_))); repeat' (with_reducible refine And.intro ?_ ?_))
            all_goals first | (show _ ≤ (_ : Int); omega) | (show _ < (_ : Int); omega) | (show _ ≤ (_ : Nat); omega) | (show _ < (_ : Nat); omega) | skip
            all_goals first
              | (exact absurd (⟨by rw [hm]; exact .inl hq, by rw [hm]; exact mon_ok (by assumption) (by assumption) (by assumption) (by assumption) (by assumption) (by assumption) (by assumption), .inl rfl⟩) hok)
              | skip
            all_goals (refine end_K ?_ (HB hbad))
            all_goals ((focus (refine ⟨_, _, Gh.refl, [], rfl, ?_⟩; (refine fitq ?_ ?_ ?_ <;> try exact trivial); (try any_goals (refine ⟨?_, ?_⟩)); (try any_goals (with_reducible rfl)))))
          have hnisLim : ¬ isLim m := hq
          clear hq
          by_cases hq : isExp m
          · (have zx1 := @hkd0; have zx2 := @hkw; have zx3 := @hm; have zx4 := @hkz; have zx5 := @t2; all_goals (try ((with_reducible first | refine wp_id ?_ | refine does_id ?_ | refine ops_id ?_); refine walk ?_; (repeat' (first | exact trivial | with_reducible refine And.intro ?_ ?_)); all_goals (repeat with_reducible first | refine ImpB.mk fun hb => ?_ | refine ImpK.mk fun hK => ?_ | refine ImpF.mk fun hF => ?_ | refine ImpQ.mk fun hp => ?_ | refine AllE.mk fun p => ?_ | refine AllR.mk fun rest => ?_ | refine AllK.mk fun K => ?_))); repeat' (with_reducible refine And.intro ?_ ?_))
            all_goals first | (show _ ≤ (_ : Int); omega) | (show _ < (_ : Int); omega) | (show _ ≤ (_ : Nat); omega) | (show _ < (_ : Nat); omega) | skip
            all_goals first
              | (exact absurd (⟨by rw [hm]; exact .inr (.inl hq), by rw [hm]; exact mon_ok (by assumption) (by assumption) (by assumption) (by assumption) (by assumption) (by assumption) (by assumption), .inl rfl⟩) hok)
              | skip
            all_goals (refine end_K ?_ (HB hbad))
            all_goals ((focus (refine ⟨_, _, Gh.refl, [], rfl, ?_⟩; (refine fitq ?_ ?_ ?_ <;> try exact trivial); (try any_goals (refine ⟨?_, ?_⟩)); (try any_goals (with_reducible rfl)))))
          have hnisExp : ¬ isExp m := hq
          clear hq
          by_cases hq : isDel m
          · (have zx1 := @hkd0; have zx2 := @hkw; have zx3 := @hm; have zx4 := @hkz; have zx5 := @t2; all_goals (try ((with_reducible first | refine wp_id ?_ | refine does_id ?_ | refine ops_id ?_); refine walk ?_; (repeat' (first | exact trivial | with_reducible refine And.intro ?_ ?_)); all_goals (repeat with_reducible first | refine ImpB.mk fun hb => ?_ | refine ImpK.mk fun hK => ?_ | refine ImpF.mk fun hF => ?_ | refine ImpQ.mk fun hp => ?_ | refine AllE.mk fun p => ?_ | refine AllR.mk fun rest => ?_ | refine AllK.mk fun K => ?_))); repeat' (with_reducible refine And.intro ?_ ?_))
            all_goals first | (show _ ≤ (_ : Int); omega) | (show _ < (_ : Int); omega) | (show _ ≤ (_ : Nat); omega) | (show _ < (_ : Nat); omega) | skip
            all_goals first
              | (exact absurd (⟨by rw [hm]; exact .inr (.inr hq), by rw [hm]; exact mon_ok (by assumption) (by assumption) (by assumption) (by assumption) (by assumption) (by assumption) (by assumption), .inl rfl⟩) hok)
              | skip
            all_goals (refine end_K ?_ (HB hbad))
            all_goals ((focus (refine ⟨_, _, Gh.refl, [], rfl, ?_⟩; (refine fitq ?_ ?_ ?_ <;> try exact trivial); (try any_goals (refine ⟨?_, ?_⟩)); (try any_goals (with_reducible rfl)))))
          have hnisDel : ¬ isDel m := hq
          clear hq
          have hB : isBad m := ⟨hnisLim, hnisExp, hnisDel⟩
          (have zx1 := @hkd0; have zx2 := @hkw; have zx3 := @hm; have zx4 := @hkz; have zx5 := @t2; all_goals (try ((with_reducible first | refine wp_id ?_ | refine does_id ?_ | refine ops_id ?_); refine walk ?_; (repeat' (first | exact trivial | with_reducible refine And.intro ?_ ?_)); all_goals (repeat with_reducible first | refine ImpB.mk fun hb => ?_ | refine ImpK.mk fun hK => ?_ | refine ImpF.mk fun hF => ?_ | refine ImpQ.mk fun hp => ?_ | refine AllE.mk fun p => ?_ | refine AllR.mk fun rest => ?_ | refine AllK.mk fun K => ?_))); repeat' (with_reducible refine And.intro ?_ ?_))
          all_goals first | (show _ ≤ (_ : Int); omega) | (show _ < (_ : Int); omega) | (show _ ≤ (_ : Nat); omega) | (show _ < (_ : Nat); omega) | skip
          all_goals (refine end_K ?_ (HB hbad))
          all_goals ((focus (refine ⟨_, _, Gh.refl, [], rfl, ?_⟩; (refine fitq ?_ ?_ ?_ <;> try exact trivial); (try any_goals (refine ⟨?_, ?_⟩)); (try any_goals (with_reducible rfl)))))
        · have hkp : decide ((0 : Int) < (k : Int)) = true := decide_eq_true (by omega)
          have hkm : IntKind.i64.wrap ((k : Int) - 1) = ((k - 1 : Nat) : Int) := by rw [wrap_i64 _ (by omega) (by omega)]; omega
          obtain ⟨m0, hm0⟩ : ∃ m0, mAt l (k - 1) = m0 := ⟨_, rfl⟩
          by_cases hq : isLim m
          · (have zx1 := @hkd; have zx2 := @hkw; have zx3 := @hm; have zx4 := @hm0; have zx5 := @hkp; have zx6 := @hkm; have zx7 := @t2; all_goals (try ((with_reducible first | refine wp_id ?_ | refine does_id ?_ | refine ops_id ?_); refine walk ?_; (repeat' (first | exact trivial | with_reducible refine And.intro ?_ ?_)); all_goals (repeat with_reducible first | refine ImpB.mk fun hb => ?_ | refine ImpK.mk fun hK => ?_ | refine ImpF.mk fun hF => ?_ | refine ImpQ.mk fun hp => ?_ | refine AllE.mk fun p => ?_ | refine AllR.mk fun rest => ?_ | refine AllK.mk fun K => ?_))); repeat' (with_reducible refine And.intro ?_ ?_))
            all_goals first | (show _ ≤ (_ : Int); omega) | (show _ < (_ : Int); omega) | (show _ ≤ (_ : Nat); omega) | (show _ < (_ : Nat); omega) | skip
            all_goals first
              | (exact absurd (⟨by rw [hm]; exact .inl hq, by rw [hm]; exact mon_ok (by assumption) (by assumption) (by assumption) (by assumption) (by assumption) (by assumption) (by assumption), .inr (by rw [hm, hm0]; exact of_ord (by assumption))⟩) hok)
              | skip
            all_goals (refine end_K ?_ (HB hbad))
            all_goals ((focus (refine ⟨_, _, Gh.refl, [], rfl, ?_⟩; (refine fitq ?_ ?_ ?_ <;> try exact trivial); (try any_goals (refine ⟨?_, ?_⟩)); (try any_goals (with_reducible rfl)))))
          have hnisLim : ¬ isLim m := hq
          clear hq
          by_cases hq : isExp m
          · (have zx1 := @hkd; have zx2 := @hkw; have zx3 := @hm; have zx4 := @hm0; have zx5 := @hkp; have zx6 := @hkm; have zx7 := @t2; all_goals (try ((with_reducible first | refine wp_id ?_ | refine does_id ?_ | refine ops_id ?_); refine walk ?_; (repeat' (first | exact trivial | with_reducible refine And.intro ?_ ?_)); all_goals (repeat with_reducible first | refine ImpB.mk fun hb => ?_ | refine ImpK.mk fun hK => ?_ | refine ImpF.mk fun hF => ?_ | refine ImpQ.mk fun hp => ?_ | refine AllE.mk fun p => ?_ | refine AllR.mk fun rest => ?_ | refine AllK.mk fun K => ?_))); repeat' (with_reducible refine And.intro ?_ ?_))
            all_goals first | (show _ ≤ (_ : Int); omega) | (show _ < (_ : Int); omega) | (show _ ≤ (_ : Nat); omega) | (show _ < (_ : Nat); omega) | skip
            all_goals first
              | (exact absurd (⟨by rw [hm]; exact .inr (.inl hq), by rw [hm]; exact mon_ok (by assumption) (by assumption) (by assumption) (by assumption) (by assumption) (by assumption) (by assumption), .inr (by rw [hm, hm0]; exact of_ord (by assumption))⟩) hok)
              | skip
            all_goals (refine end_K ?_ (HB hbad))
            all_goals ((focus (refine ⟨_, _, Gh.refl, [], rfl, ?_⟩; (refine fitq ?_ ?_ ?_ <;> try exact trivial); (try any_goals (refine ⟨?_, ?_⟩)); (try any_goals (with_reducible rfl)))))
          have hnisExp : ¬ isExp m := hq
          clear hq
          by_cases hq : isDel m
          · (have zx1 := @hkd; have zx2 := @hkw; have zx3 := @hm; have zx4 := @hm0; have zx5 := @hkp; have zx6 := @hkm; have zx7 := @t2; all_goals (try ((with_reducible first | refine wp_id ?_ | refine does_id ?_ | refine ops_id ?_); refine walk ?_; (repeat' (first | exact trivial | with_reducible refine And.intro ?_ ?_)); all_goals (repeat with_reducible first | refine ImpB.mk fun hb => ?_ | refine ImpK.mk fun hK => ?_ | refine ImpF.mk fun hF => ?_ | refine ImpQ.mk fun hp => ?_ | refine AllE.mk fun p => ?_ | refine AllR.mk fun rest => ?_ | refine AllK.mk fun K => ?_))); repeat' (with_reducible refine And.intro ?_ ?_))
            all_goals first | (show _ ≤ (_ : Int); omega) | (show _ < (_ : Int); omega) | (show _ ≤ (_ : Nat); omega) | (show _ < (_ : Nat); omega) | skip
            all_goals first
              | (exact absurd (⟨by rw [hm]; exact .inr (.inr hq), by rw [hm]; exact mon_ok (by assumption) (by assumption) (by assumption) (by assumption) (by assumption) (by assumption) (by assumption), .inr (by rw [hm, hm0]; exact of_ord (by assumption))⟩) hok)
              | skip
            all_goals (refine end_K ?_ (HB hbad))
            all_goals ((focus (refine ⟨_, _, Gh.refl, [], rfl, ?_⟩; (refine fitq ?_ ?_ ?_ <;> try exact trivial); (try any_goals (refine ⟨?_, ?_⟩)); (try any_goals (with_reducible rfl)))))
          have hnisDel : ¬ isDel m := hq
          clear hq
          have hB : isBad m := ⟨hnisLim, hnisExp, hnisDel⟩
          (have zx1 := @hkd; have zx2 := @hkw; have zx3 := @hm; have zx4 := @hm0; have zx5 := @hkp; have zx6 := @hkm; have zx7 := @t2; all_goals (try ((with_reducible first | refine wp_id ?_ | refine does_id ?_ | refine ops_id ?_); refine walk ?_; (repeat' (first | exact trivial | with_reducible refine And.intro ?_ ?_)); all_goals (repeat with_reducible first | refine ImpB.mk fun hb => ?_ | refine ImpK.mk fun hK => ?_ | refine ImpF.mk fun hF => ?_ | refine ImpQ.mk fun hp => ?_ | refine AllE.mk fun p => ?_ | refine AllR.mk fun rest => ?_ | refine AllK.mk fun K => ?_))); repeat' (with_reducible refine And.intro ?_ ?_))
          all_goals first | (show _ ≤ (_ : Int); omega) | (show _ < (_ : Int); omega) | (show _ ≤ (_ : Nat); omega) | (show _ < (_ : Nat); omega) | skip
          all_goals (refine end_K ?_ (HB hbad))
          all_goals ((focus (refine ⟨_, _, Gh.refl, [], rfl, ?_⟩; (refine fitq ?_ ?_ ?_ <;> try exact trivial); (try any_goals (refine ⟨?_, ?_⟩)); (try any_goals (with_reducible rfl)))))
    · obtain rfl : k = l.length := by omega
      have hkd : decide ((l.length : Int) < (l.length : Int)) = false := decide_eq_false (by omega)
      have hall : ∀ j, j < l.length → okM l j := hko
      rw [takS_all] at htl ⊢
      by_cases hn : l.length = 0
      · have hz : l.map mkS = [] := List.eq_nil_of_length_eq_zero (by rw [htl]; exact hn)
        rw [hz]
        refine Wp.mono (?_ : Wp _ _ _ _ _ _) (fun _ _ q => q) (fun _ _ _ q => q) fun _ _ q => q
        rw [show SV 0 [] = [.cells [.bool true, .int .i64 0, .lit (.slice none 0 0)]] from rfl]
        (have zx1 := @hkd; all_goals (try ((with_reducible first | refine wp_id ?_ | refine does_id ?_ | refine ops_id ?_); refine walk ?_; (repeat' (first | exact trivial | with_reducible refine And.intro ?_ ?_)); all_goals (repeat with_reducible first | refine ImpB.mk fun hb => ?_ | refine ImpK.mk fun hK => ?_ | refine ImpF.mk fun hF => ?_ | refine ImpQ.mk fun hp => ?_ | refine AllE.mk fun p => ?_ | refine AllR.mk fun rest => ?_ | refine AllK.mk fun K => ?_))); repeat' (with_reducible refine And.intro ?_ ?_))
        refine end_K ?_ (HG hall)
        rw [hz]
        (focus (refine ⟨_, _, gh_close (t := 0) (ts := []) (l := SV 0 []) ⟨⟨_, _, rfl⟩, ?_, by simp⟩, [0], rfl, ?_⟩; all_goals (refine fitq ?_ ?_ ?_ <;> try exact trivial); (try any_goals (refine ⟨?_, ?_⟩)); (try any_goals (with_reducible rfl))))
        all_goals (repeat' (first | (refine And.intro ?_ ?_) | rfl))
      · have A := srv_open (now := 0) (es := l.map mkS) (by omega)
        generalize SV 0 (l.map mkS) = h at A ⊢
        (have zx1 := @hkd; all_goals (try ((with_reducible first | refine wp_id ?_ | refine does_id ?_ | refine ops_id ?_); refine walk ?_; (repeat' (first | exact trivial | with_reducible refine And.intro ?_ ?_)); all_goals (repeat with_reducible first | refine ImpB.mk fun hb => ?_ | refine ImpK.mk fun hK => ?_ | refine ImpF.mk fun hF => ?_ | refine ImpQ.mk fun hp => ?_ | refine AllE.mk fun p => ?_ | refine AllR.mk fun rest => ?_ | refine AllK.mk fun K => ?_))); repeat' (with_reducible refine And.intro ?_ ?_))
        refine end_K ?_ (HG hall)
        exact end_srvN A ⟨⟨rfl, rfl⟩, ⟨rfl, rfl⟩, trivial⟩
theorem c_mnewG {h : List Ch} {K : KT} {a : AV} {l : List Mon} (H : K (.tup [.ptr h.length 0, .int .i64 0]) (h ++ [.pack (SV 0 (l.map mkS))])) (q1 : isRO .mon l a) (e1 : ∀ k, k < l.length → okM l k) (s1 : l.length ≤ 256) : Does Try.prog 9 [a] h K :=
  frame_new (k_mnew l s1 _ (fun _ _ _ q => q) (fun q => absurd e1 q)) (br_cons q1.br br_nil) (.inl (by rw [brTL, q1.brT]; rfl)) (fun _ => rfl) (by simp [renA, renL, rhoC]) H
abbrev i_mnewG := Ctr.mk (i := 1) (g := 9) @c_mnewG
attribute [instance] i_mnewG
theorem c_mnewB {h : List Ch} {K : KT} {a : AV} {l : List Mon} (H : K (.tup [.lit (.pointer none), .int .i64 1]) h) (q1 : isRO .mon l a) (e1 : ¬ ∀ k, k < l.length → okM l k) (s1 : l.length ≤ 256) : Does Try.prog 9 [a] h K :=
  frame_pure (k_mnew l s1 _ (fun q => absurd q e1) (fun _ _ _ q => q)) (br_cons q1.br br_nil) (.inl (by rw [brTL, q1.brT]; rfl)) (fun _ => rfl) H
abbrev i_mnewB := Ctr.mk (i := 2) (g := 9) @c_mnewB
attribute [instance] i_mnewB
end Go.V
