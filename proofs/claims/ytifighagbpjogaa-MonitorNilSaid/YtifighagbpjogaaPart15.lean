/-
  MonitorNil: a nil service and a zero value.
  monitor: the delta.
  monitor.New of one delta.
  monitor: Check of a service with one delta.
-/
import Derived.Test.YtifighagbpjogaaPart14
set_option linter.unusedVariables false
set_option linter.unusedSimpArgs false
set_option maxRecDepth 100000
set_option maxHeartbeats 8000000
namespace Go.V
open Go.Proofs
attribute [-go_sem] SL PL
theorem fitC_zero (σ : List Nat) : fitC σ (.cells [.bool false, .int .i64 0, .lit (.slice none 0 0)]) (.cells [.bool false, .int .i64 0, .lit (.slice none 0 0)]) := by simp [fitC, fitL, fitA]
theorem b_findN (i : Int) : DoesK Try.prog 0 31 [.lit (.pointer none), .int .i64 i] [] (EndF 0 (.lit (.pointer none)) []) := by
  refine DoesK.close ?_
  refine w_body (rs := [.tmp 4]) (tm := [.lit (.pointer none), .int .i64 i, .any, .any, .any, .any, .any, .any, .any, .any, .any, .any, .any, .any, .any, .any, .any, .any, .any, .any, .any, .any, .any, .any, .any, .any, .any, .any, .any, .any]) fn_31 rfl rfl rfl rfl fun R hR => ?_
  (all_goals (try ((first | (with_reducible refine wp_id ?_) | (with_reducible refine does_id ?_) | (with_reducible refine ops_id ?_)); refine walk ?_; (repeat' (first | exact trivial | with_reducible refine And.intro ?_ ?_)); all_goals (repeat (first | (with_reducible refine ImpB.mk fun hb => ?_) | (with_reducible refine ImpK.mk fun hK => ?_) | (with_reducible refine ImpF.mk fun hF => ?_) | (with_reducible refine ImpQ.mk fun hp => ?_) | (with_reducible refine AllE.mk fun p => ?_) | (with_reducible refine AllR.mk fun rest => ?_) | (with_reducible refine AllK.mk fun K => ?_))))); repeat' (with_reducible refine And.intro ?_ ?_))
  (focus (refine ⟨_, _, Gh.refl, [], rfl, ?_⟩; (refine fitq ?_ ?_ ?_ <;> try exact trivial); (try any_goals (refine ⟨?_, ?_⟩)); (try any_goals (with_reducible rfl))))
  all_goals (repeat' (first | (refine And.intro ?_ ?_) | rfl))
theorem c_findN {h : List Ch} {K : KT} {i : Int} (H : K (.lit (.pointer none)) h) : Does Try.prog 31 [.lit (.pointer none), .int .i64 i] h K :=
  frame_pure (b_findN i) (br_cons br_lit (br_cons br_int br_nil)) (.inr rfl) (fun _ => rfl) H
abbrev i_findN := Ctr.mk (i := 3) (g := 31) @c_findN
attribute [instance] i_findN
theorem b_monN (i : Int) : DoesK Try.prog 0 21 [.lit (.pointer none), .int .i64 i] [] (EndF 0 (.tup [.agg [.int .i64 0, .int .i64 0, .int .i64 0, .int .i64 0, .int .i64 0, .int .i64 0, .int .i64 0, .int .i64 0], .bool false]) []) := by
  refine DoesK.close ?_
  refine w_body (rs := [.cell 4 30, .tmp 5]) (tm := [.lit (.pointer none), .int .i64 i, .any, .any, .any, .any, .any, .any, .any, .any, .any, .any, .any, .any, .any, .any, .any]) fn_21 rfl rfl rfl rfl fun R hR => ?_
  (all_goals (try ((first | (with_reducible refine wp_id ?_) | (with_reducible refine does_id ?_) | (with_reducible refine ops_id ?_)); refine walk ?_; (repeat' (first | exact trivial | with_reducible refine And.intro ?_ ?_)); all_goals (repeat (first | (with_reducible refine ImpB.mk fun hb => ?_) | (with_reducible refine ImpK.mk fun hK => ?_) | (with_reducible refine ImpF.mk fun hF => ?_) | (with_reducible refine ImpQ.mk fun hp => ?_) | (with_reducible refine AllE.mk fun p => ?_) | (with_reducible refine AllR.mk fun rest => ?_) | (with_reducible refine AllK.mk fun K => ?_))))); repeat' (with_reducible refine And.intro ?_ ?_))
  (focus (refine ⟨_, _, Gh.refl, [], rfl, ?_⟩; (refine fitq ?_ ?_ ?_ <;> try exact trivial); (try any_goals (refine ⟨?_, ?_⟩)); (try any_goals (with_reducible rfl))))
  all_goals (repeat' (first | (refine And.intro ?_ ?_) | rfl))
theorem c_monN {h : List Ch} {K : KT} {i : Int} (H : K (.tup [.agg [.int .i64 0, .int .i64 0, .int .i64 0, .int .i64 0, .int .i64 0, .int .i64 0, .int .i64 0, .int .i64 0], .bool false]) h) : Does Try.prog 21 [.lit (.pointer none), .int .i64 i] h K :=
  frame_pure (b_monN i) (br_cons br_lit (br_cons br_int br_nil)) (.inr rfl) (fun _ => rfl) H
abbrev i_monN := Ctr.mk (i := 0) (g := 21) @c_monN
attribute [instance] i_monN
theorem b_enaN (i : Int) (b : Bool) : DoesK Try.prog 0 14 [.lit (.pointer none), .int .i64 i, .bool b] [] (EndF 0 (.int .i64 2) []) := by
  refine DoesK.close ?_
  refine w_body (rs := [.tmp 6]) (tm := [.lit (.pointer none), .int .i64 i, .bool b, .any, .any, .any, .any, .any, .any, .any, .any, .any, .any, .any, .any, .any, .any, .any, .any, .any, .any, .any, .any, .any, .any, .any, .any, .any, .any, .any, .any, .any, .any, .any, .any, .any, .any, .any, .any, .any, .any, .any, .any, .any, .any, .any, .any, .any]) fn_14 rfl rfl rfl rfl fun R hR => ?_
  (all_goals (try ((first | (with_reducible refine wp_id ?_) | (with_reducible refine does_id ?_) | (with_reducible refine ops_id ?_)); refine walk ?_; (repeat' (first | exact trivial | with_reducible refine And.intro ?_ ?_)); all_goals (repeat (first | (with_reducible refine ImpB.mk fun hb => ?_) | (with_reducible refine ImpK.mk fun hK => ?_) | (with_reducible refine ImpF.mk fun hF => ?_) | (with_reducible refine ImpQ.mk fun hp => ?_) | (with_reducible refine AllE.mk fun p => ?_) | (with_reducible refine AllR.mk fun rest => ?_) | (with_reducible refine AllK.mk fun K => ?_))))); repeat' (with_reducible refine And.intro ?_ ?_))
  (focus (refine ⟨_, _, Gh.refl, [], rfl, ?_⟩; (refine fitq ?_ ?_ ?_ <;> try exact trivial); (try any_goals (refine ⟨?_, ?_⟩)); (try any_goals (with_reducible rfl))))
  all_goals (repeat' (first | (refine And.intro ?_ ?_) | rfl))
theorem c_enaN {h : List Ch} {K : KT} {i : Int} {b : Bool} (H : K (.int .i64 2) h) : Does Try.prog 14 [.lit (.pointer none), .int .i64 i, .bool b] h K :=
  frame_pure (b_enaN i b) (br_cons br_lit (br_cons br_int (br_cons br_bool br_nil))) (.inr rfl) (fun _ => rfl) H
abbrev i_enaN := Ctr.mk (i := 0) (g := 14) @c_enaN
attribute [instance] i_enaN
theorem b_chkN (i : Int) : DoesK Try.prog 0 12 [.lit (.pointer none), .int .i64 i, .any] [] (EndF 0 (.lit (.slice none 0 0)) []) := by
  refine DoesK.close ?_
  refine w_body (rs := [.tmp 6]) (tm := [.lit (.pointer none), .int .i64 i, .any, .any, .any, .any, .any, .any, .any, .any, .any, .any, .any, .any, .any, .any, .any, .any, .any, .any, .any, .any, .any, .any, .any, .any, .any, .any, .any, .any, .any, .any, .any, .any, .any, .any, .any, .any, .any, .any, .any, .any, .any, .any, .any, .any, .any, .any, .any, .any, .any, .any, .any, .any, .any, .any, .any, .any, .any, .any, .any, .any, .any, .any, .any, .any, .any, .any, .any, .any, .any, .any, .any, .any, .any, .any, .any, .any, .any, .any, .any, .any, .any, .any, .any, .any, .any, .any]) fn_12 rfl rfl rfl rfl fun R hR => ?_
  (all_goals (try ((first | (with_reducible refine wp_id ?_) | (with_reducible refine does_id ?_) | (with_reducible refine ops_id ?_)); refine walk ?_; (repeat' (first | exact trivial | with_reducible refine And.intro ?_ ?_)); all_goals (repeat (first | (with_reducible refine ImpB.mk fun hb => ?_) | (with_reducible refine ImpK.mk fun hK => ?_) | (with_reducible refine ImpF.mk fun hF => ?_) | (with_reducible refine ImpQ.mk fun hp => ?_) | (with_reducible refine AllE.mk fun p => ?_) | (with_reducible refine AllR.mk fun rest => ?_) | (with_reducible refine AllK.mk fun K => ?_))))); repeat' (with_reducible refine And.intro ?_ ?_))
  (focus (refine ⟨_, _, Gh.refl, [], rfl, ?_⟩; (refine fitq ?_ ?_ ?_ <;> try exact trivial); (try any_goals (refine ⟨?_, ?_⟩)); (try any_goals (with_reducible rfl))))
  all_goals (repeat' (first | (refine And.intro ?_ ?_) | rfl))
theorem c_chkN {h : List Ch} {K : KT} {i : Int} {a : AV} (H : K (.lit (.slice none 0 0)) h) : Does Try.prog 12 [.lit (.pointer none), .int .i64 i, a] h K :=
  frame_pure (b_chkN i) (br_cons br_lit (br_cons br_int (br_cons br_any br_nil))) (.inr rfl) (fun _ => rfl) H
abbrev i_chkN := Ctr.mk (i := 1) (g := 12) @c_chkN
attribute [instance] i_chkN
theorem b_staN (i : Int) : DoesK Try.prog 0 13 [.lit (.pointer none), .int .i64 i] [] (EndF 0 (.int .i64 0) []) := by
  refine DoesK.close ?_
  refine w_body (rs := [.tmp 4]) (tm := [.lit (.pointer none), .int .i64 i, .any, .any, .any, .any, .any, .any, .any, .any, .any, .any, .any, .any, .any]) fn_13 rfl rfl rfl rfl fun R hR => ?_
  (all_goals (try ((first | (with_reducible refine wp_id ?_) | (with_reducible refine does_id ?_) | (with_reducible refine ops_id ?_)); refine walk ?_; (repeat' (first | exact trivial | with_reducible refine And.intro ?_ ?_)); all_goals (repeat (first | (with_reducible refine ImpB.mk fun hb => ?_) | (with_reducible refine ImpK.mk fun hK => ?_) | (with_reducible refine ImpF.mk fun hF => ?_) | (with_reducible refine ImpQ.mk fun hp => ?_) | (with_reducible refine AllE.mk fun p => ?_) | (with_reducible refine AllR.mk fun rest => ?_) | (with_reducible refine AllK.mk fun K => ?_))))); repeat' (with_reducible refine And.intro ?_ ?_))
  (focus (refine ⟨_, _, Gh.refl, [], rfl, ?_⟩; (refine fitq ?_ ?_ ?_ <;> try exact trivial); (try any_goals (refine ⟨?_, ?_⟩)); (try any_goals (with_reducible rfl))))
  all_goals (repeat' (first | (refine And.intro ?_ ?_) | rfl))
theorem c_staN {h : List Ch} {K : KT} {i : Int} (H : K (.int .i64 0) h) : Does Try.prog 13 [.lit (.pointer none), .int .i64 i] h K :=
  frame_pure (b_staN i) (br_cons br_lit (br_cons br_int br_nil)) (.inr rfl) (fun _ => rfl) H
abbrev i_staN := Ctr.mk (i := 1) (g := 13) @c_staN
attribute [instance] i_staN
theorem b_cloN  : DoesK Try.prog 0 20 [.lit (.pointer none)] [] (EndF 0 (.lit (.pointer none)) []) := by
  refine DoesK.close ?_
  refine w_body (rs := [.tmp 2]) (tm := [.lit (.pointer none), .any, .any, .any, .any, .any, .any, .any, .any, .any, .any, .any, .any, .any, .any, .any, .any, .any, .any, .any, .any, .any, .any, .any, .any, .any, .any, .any, .any, .any, .any, .any, .any, .any, .any, .any, .any, .any, .any, .any, .any, .any, .any, .any, .any, .any, .any, .any, .any, .any, .any, .any, .any, .any, .any, .any, .any, .any, .any, .any, .any, .any]) fn_20 rfl rfl rfl rfl fun R hR => ?_
  (all_goals (try ((first | (with_reducible refine wp_id ?_) | (with_reducible refine does_id ?_) | (with_reducible refine ops_id ?_)); refine walk ?_; (repeat' (first | exact trivial | with_reducible refine And.intro ?_ ?_)); all_goals (repeat (first | (with_reducible refine ImpB.mk fun hb => ?_) | (with_reducible refine ImpK.mk fun hK => ?_) | (with_reducible refine ImpF.mk fun hF => ?_) | (with_reducible refine ImpQ.mk fun hp => ?_) | (with_reducible refine AllE.mk fun p => ?_) | (with_reducible refine AllR.mk fun rest => ?_) | (with_reducible refine AllK.mk fun K => ?_))))); repeat' (with_reducible refine And.intro ?_ ?_))
  (focus (refine ⟨_, _, Gh.refl, [], rfl, ?_⟩; (refine fitq ?_ ?_ ?_ <;> try exact trivial); (try any_goals (refine ⟨?_, ?_⟩)); (try any_goals (with_reducible rfl))))
  all_goals (repeat' (first | (refine And.intro ?_ ?_) | rfl))
theorem c_cloN {h : List Ch} {K : KT}  (H : K (.lit (.pointer none)) h) : Does Try.prog 20 [.lit (.pointer none)] h K :=
  frame_pure (b_cloN) (br_cons br_lit br_nil) (.inr rfl) (fun _ => rfl) H
abbrev i_cloN := Ctr.mk (i := 0) (g := 20) @c_cloN
attribute [instance] i_cloN
theorem b_findZ (i : Int) : DoesK Try.prog 1 31 [.ptr 0 0, .int .i64 i] [.cells [.bool false, .int .i64 0, .lit (.slice none 0 0)]] (EndF 1 (.lit (.pointer none)) ([.cells [.bool false, .int .i64 0, .lit (.slice none 0 0)]] ++ [])) := by
  refine DoesK.close ?_
  refine w_body (rs := [.tmp 4]) (tm := [.ptr 0 0, .int .i64 i, .any, .any, .any, .any, .any, .any, .any, .any, .any, .any, .any, .any, .any, .any, .any, .any, .any, .any, .any, .any, .any, .any, .any, .any, .any, .any, .any, .any]) fn_31 rfl rfl rfl rfl fun R hR => ?_
  (all_goals (try ((first | (with_reducible refine wp_id ?_) | (with_reducible refine does_id ?_) | (with_reducible refine ops_id ?_)); refine walk ?_; (repeat' (first | exact trivial | with_reducible refine And.intro ?_ ?_)); all_goals (repeat (first | (with_reducible refine ImpB.mk fun hb => ?_) | (with_reducible refine ImpK.mk fun hK => ?_) | (with_reducible refine ImpF.mk fun hF => ?_) | (with_reducible refine ImpQ.mk fun hp => ?_) | (with_reducible refine AllE.mk fun p => ?_) | (with_reducible refine AllR.mk fun rest => ?_) | (with_reducible refine AllK.mk fun K => ?_))))); repeat' (with_reducible refine And.intro ?_ ?_))
  (focus (refine ⟨_, _, Gh.refl, [0], rfl, ?_⟩; (refine fitq ?_ ?_ ?_ <;> try exact trivial); (try any_goals (refine ⟨?_, ?_⟩)); (try any_goals (with_reducible rfl))))
  all_goals (repeat' (first | (refine And.intro ?_ ?_) | rfl))
theorem c_findZ {h : List Ch} {K : KT} {u : Nat} {i : Int} (H : K (.lit (.pointer none)) h) (o : hth h u = .cells [.bool false, .int .i64 0, .lit (.slice none 0 0)]) : Does Try.prog 31 [.ptr u 0, .int .i64 i] h K :=
  frame_look (b_findZ i) o (by simp) fitC_zero (br_cons (br_ptr rfl) (br_cons br_int br_nil)) (.inl rfl) (fun _ => rfl) rfl H
abbrev i_findZ := Ctr.mk (i := 4) (g := 31) @c_findZ
attribute [instance] i_findZ
theorem b_monZ (i : Int) : DoesK Try.prog 1 21 [.ptr 0 0, .int .i64 i] [.cells [.bool false, .int .i64 0, .lit (.slice none 0 0)]] (EndF 1 (.tup [.agg [.int .i64 0, .int .i64 0, .int .i64 0, .int .i64 0, .int .i64 0, .int .i64 0, .int .i64 0, .int .i64 0], .bool false]) ([.cells [.bool false, .int .i64 0, .lit (.slice none 0 0)]] ++ [])) := by
  refine DoesK.close ?_
  refine w_body (rs := [.cell 4 30, .tmp 5]) (tm := [.ptr 0 0, .int .i64 i, .any, .any, .any, .any, .any, .any, .any, .any, .any, .any, .any, .any, .any, .any, .any]) fn_21 rfl rfl rfl rfl fun R hR => ?_
  (all_goals (try ((first | (with_reducible refine wp_id ?_) | (with_reducible refine does_id ?_) | (with_reducible refine ops_id ?_)); refine walk ?_; (repeat' (first | exact trivial | with_reducible refine And.intro ?_ ?_)); all_goals (repeat (first | (with_reducible refine ImpB.mk fun hb => ?_) | (with_reducible refine ImpK.mk fun hK => ?_) | (with_reducible refine ImpF.mk fun hF => ?_) | (with_reducible refine ImpQ.mk fun hp => ?_) | (with_reducible refine AllE.mk fun p => ?_) | (with_reducible refine AllR.mk fun rest => ?_) | (with_reducible refine AllK.mk fun K => ?_))))); repeat' (with_reducible refine And.intro ?_ ?_))
  (focus (refine ⟨_, _, Gh.refl, [0], rfl, ?_⟩; (refine fitq ?_ ?_ ?_ <;> try exact trivial); (try any_goals (refine ⟨?_, ?_⟩)); (try any_goals (with_reducible rfl))))
  all_goals (repeat' (first | (refine And.intro ?_ ?_) | rfl))
theorem c_monZ {h : List Ch} {K : KT} {u : Nat} {i : Int} (H : K (.tup [.agg [.int .i64 0, .int .i64 0, .int .i64 0, .int .i64 0, .int .i64 0, .int .i64 0, .int .i64 0, .int .i64 0], .bool false]) h) (o : hth h u = .cells [.bool false, .int .i64 0, .lit (.slice none 0 0)]) : Does Try.prog 21 [.ptr u 0, .int .i64 i] h K :=
  frame_look (b_monZ i) o (by simp) fitC_zero (br_cons (br_ptr rfl) (br_cons br_int br_nil)) (.inl rfl) (fun _ => rfl) rfl H
abbrev i_monZ := Ctr.mk (i := 1) (g := 21) @c_monZ
attribute [instance] i_monZ
theorem b_enaZ (i : Int) (b : Bool) : DoesK Try.prog 1 14 [.ptr 0 0, .int .i64 i, .bool b] [.cells [.bool false, .int .i64 0, .lit (.slice none 0 0)]] (EndF 1 (.int .i64 2) ([.cells [.bool false, .int .i64 0, .lit (.slice none 0 0)]] ++ [])) := by
  refine DoesK.close ?_
  refine w_body (rs := [.tmp 6]) (tm := [.ptr 0 0, .int .i64 i, .bool b, .any, .any, .any, .any, .any, .any, .any, .any, .any, .any, .any, .any, .any, .any, .any, .any, .any, .any, .any, .any, .any, .any, .any, .any, .any, .any, .any, .any, .any, .any, .any, .any, .any, .any, .any, .any, .any, .any, .any, .any, .any, .any, .any, .any, .any]) fn_14 rfl rfl rfl rfl fun R hR => ?_
  (all_goals (try ((first | (with_reducible refine wp_id ?_) | (with_reducible refine does_id ?_) | (with_reducible refine ops_id ?_)); refine walk ?_; (repeat' (first | exact trivial | with_reducible refine And.intro ?_ ?_)); all_goals (repeat (first | (with_reducible refine ImpB.mk fun hb => ?_) | (with_reducible refine ImpK.mk fun hK => ?_) | (with_reducible refine ImpF.mk fun hF => ?_) | (with_reducible refine ImpQ.mk fun hp => ?_) | (with_reducible refine AllE.mk fun p => ?_) | (with_reducible refine AllR.mk fun rest => ?_) | (with_reducible refine AllK.mk fun K => ?_))))); repeat' (with_reducible refine And.intro ?_ ?_))
  (focus (refine ⟨_, _, Gh.refl, [0], rfl, ?_⟩; (refine fitq ?_ ?_ ?_ <;> try exact trivial); (try any_goals (refine ⟨?_, ?_⟩)); (try any_goals (with_reducible rfl))))
  all_goals (repeat' (first | (refine And.intro ?_ ?_) | rfl))
theorem c_enaZ {h : List Ch} {K : KT} {u : Nat} {i : Int} {b : Bool} (H : K (.int .i64 2) h) (o : hth h u = .cells [.bool false, .int .i64 0, .lit (.slice none 0 0)]) : Does Try.prog 14 [.ptr u 0, .int .i64 i, .bool b] h K :=
  frame_look (b_enaZ i b) o (by simp) fitC_zero (br_cons (br_ptr rfl) (br_cons br_int (br_cons br_bool br_nil))) (.inl rfl) (fun _ => rfl) rfl H
abbrev i_enaZ := Ctr.mk (i := 1) (g := 14) @c_enaZ
attribute [instance] i_enaZ
theorem b_chkZ (i : Int) : DoesK Try.prog 1 12 [.ptr 0 0, .int .i64 i, .any] [.cells [.bool false, .int .i64 0, .lit (.slice none 0 0)]] (EndF 1 (.lit (.slice none 0 0)) ([.cells [.bool false, .int .i64 0, .lit (.slice none 0 0)]] ++ [])) := by
  refine DoesK.close ?_
  refine w_body (rs := [.tmp 6]) (tm := [.ptr 0 0, .int .i64 i, .any, .any, .any, .any, .any, .any, .any, .any, .any, .any, .any, .any, .any, .any, .any, .any, .any, .any, .any, .any, .any, .any, .any, .any, .any, .any, .any, .any, .any, .any, .any, .any, .any, .any, .any, .any, .any, .any, .any, .any, .any, .any, .any, .any, .any, .any, .any, .any, .any, .any, .any, .any, .any, .any, .any, .any, .any, .any, .any, .any, .any, .any, .any, .any, .any, .any, .any, .any, .any, .any, .any, .any, .any, .any, .any, .any, .any, .any, .any, .any, .any, .any, .any, .any, .any, .any]) fn_12 rfl rfl rfl rfl fun R hR => ?_
  (all_goals (try ((first | (with_reducible refine wp_id ?_) | (with_reducible refine does_id ?_) | (with_reducible refine ops_id ?_)); refine walk ?_; (repeat' (first | exact trivial | with_reducible refine And.intro ?_ ?_)); all_goals (repeat (first | (with_reducible refine ImpB.mk fun hb => ?_) | (with_reducible refine ImpK.mk fun hK => ?_) | (with_reducible refine ImpF.mk fun hF => ?_) | (with_reducible refine ImpQ.mk fun hp => ?_) | (with_reducible refine AllE.mk fun p => ?_) | (with_reducible refine AllR.mk fun rest => ?_) | (with_reducible refine AllK.mk fun K => ?_))))); repeat' (with_reducible refine And.intro ?_ ?_))
  (focus (refine ⟨_, _, Gh.refl, [0], rfl, ?_⟩; (refine fitq ?_ ?_ ?_ <;> try exact trivial); (try any_goals (refine ⟨?_, ?_⟩)); (try any_goals (with_reducible rfl))))
  all_goals (repeat' (first | (refine And.intro ?_ ?_) | rfl))
theorem c_chkZ {h : List Ch} {K : KT} {u : Nat} {i : Int} {a : AV} (H : K (.lit (.slice none 0 0)) h) (o : hth h u = .cells [.bool false, .int .i64 0, .lit (.slice none 0 0)]) : Does Try.prog 12 [.ptr u 0, .int .i64 i, a] h K :=
  frame_look (b_chkZ i) o (by simp) fitC_zero (br_cons (br_ptr rfl) (br_cons br_int (br_cons br_any br_nil))) (.inl rfl) (fun _ => rfl) rfl H
abbrev i_chkZ := Ctr.mk (i := 2) (g := 12) @c_chkZ
attribute [instance] i_chkZ
theorem b_staZ (i : Int) : DoesK Try.prog 1 13 [.ptr 0 0, .int .i64 i] [.cells [.bool false, .int .i64 0, .lit (.slice none 0 0)]] (EndF 1 (.int .i64 0) ([.cells [.bool false, .int .i64 0, .lit (.slice none 0 0)]] ++ [])) := by
  refine DoesK.close ?_
  refine w_body (rs := [.tmp 4]) (tm := [.ptr 0 0, .int .i64 i, .any, .any, .any, .any, .any, .any, .any, .any, .any, .any, .any, .any, .any]) fn_13 rfl rfl rfl rfl fun R hR => ?_
  (all_goals (try ((first | (with_reducible refine wp_id ?_) | (with_reducible refine does_id ?_) | (with_reducible refine ops_id ?_)); refine walk ?_; (repeat' (first | exact trivial | with_reducible refine And.intro ?_ ?_)); all_goals (repeat (first | (with_reducible refine ImpB.mk fun hb => ?_) | (with_reducible refine ImpK.mk fun hK => ?_) | (with_reducible refine ImpF.mk fun hF => ?_) | (with_reducible refine ImpQ.mk fun hp => ?_) | (with_reducible refine AllE.mk fun p => ?_) | (with_reducible refine AllR.mk fun rest => ?_) | (with_reducible refine AllK.mk fun K => ?_))))); repeat' (with_reducible refine And.intro ?_ ?_))
  (focus (refine ⟨_, _, Gh.refl, [0], rfl, ?_⟩; (refine fitq ?_ ?_ ?_ <;> try exact trivial); (try any_goals (refine ⟨?_, ?_⟩)); (try any_goals (with_reducible rfl))))
  all_goals (repeat' (first | (refine And.intro ?_ ?_) | rfl))
theorem c_staZ {h : List Ch} {K : KT} {u : Nat} {i : Int} (H : K (.int .i64 0) h) (o : hth h u = .cells [.bool false, .int .i64 0, .lit (.slice none 0 0)]) : Does Try.prog 13 [.ptr u 0, .int .i64 i] h K :=
  frame_look (b_staZ i) o (by simp) fitC_zero (br_cons (br_ptr rfl) (br_cons br_int br_nil)) (.inl rfl) (fun _ => rfl) rfl H
abbrev i_staZ := Ctr.mk (i := 2) (g := 13) @c_staZ
attribute [instance] i_staZ
theorem b_cloZ  : DoesK Try.prog 1 20 [.ptr 0 0] [.cells [.bool false, .int .i64 0, .lit (.slice none 0 0)]] (EndF 1 (.lit (.pointer none)) ([.cells [.bool false, .int .i64 0, .lit (.slice none 0 0)]] ++ [])) := by
  refine DoesK.close ?_
  refine w_body (rs := [.tmp 2]) (tm := [.ptr 0 0, .any, .any, .any, .any, .any, .any, .any, .any, .any, .any, .any, .any, .any, .any, .any, .any, .any, .any, .any, .any, .any, .any, .any, .any, .any, .any, .any, .any, .any, .any, .any, .any, .any, .any, .any, .any, .any, .any, .any, .any, .any, .any, .any, .any, .any, .any, .any, .any, .any, .any, .any, .any, .any, .any, .any, .any, .any, .any, .any, .any, .any]) fn_20 rfl rfl rfl rfl fun R hR => ?_
  (all_goals (try ((first | (with_reducible refine wp_id ?_) | (with_reducible refine does_id ?_) | (with_reducible refine ops_id ?_)); refine walk ?_; (repeat' (first | exact trivial | with_reducible refine And.intro ?_ ?_)); all_goals (repeat (first | (with_reducible refine ImpB.mk fun hb => ?_) | (with_reducible refine ImpK.mk fun hK => ?_) | (with_reducible refine ImpF.mk fun hF => ?_) | (with_reducible refine ImpQ.mk fun hp => ?_) | (with_reducible refine AllE.mk fun p => ?_) | (with_reducible refine AllR.mk fun rest => ?_) | (with_reducible refine AllK.mk fun K => ?_))))); repeat' (with_reducible refine And.intro ?_ ?_))
  (focus (refine ⟨_, _, Gh.refl, [0], rfl, ?_⟩; (refine fitq ?_ ?_ ?_ <;> try exact trivial); (try any_goals (refine ⟨?_, ?_⟩)); (try any_goals (with_reducible rfl))))
  all_goals (repeat' (first | (refine And.intro ?_ ?_) | rfl))
theorem c_cloZ {h : List Ch} {K : KT} {u : Nat}  (H : K (.lit (.pointer none)) h) (o : hth h u = .cells [.bool false, .int .i64 0, .lit (.slice none 0 0)]) : Does Try.prog 20 [.ptr u 0] h K :=
  frame_look (b_cloZ) o (by simp) fitC_zero (br_cons (br_ptr rfl) br_nil) (.inl rfl) (fun _ => rfl) rfl H
abbrev i_cloZ := Ctr.mk (i := 1) (g := 20) @c_cloZ
attribute [instance] i_cloZ
theorem b_nilM (id now : Int) (on : Bool) : DoesK Try.prog 0 7 [.int .i64 id, .int .i64 now, .bool on] [] (EndF 0 (.bool true) []) := by
  refine DoesK.close ?_
  have hro : RoLit := .mk
  refine w_body (rs := [.tmp 6]) (tm := [.int .i64 id, .int .i64 now, .bool on, .any, .any, .any, .any, .any, .any, .any, .any, .any, .any, .any, .any, .any, .any, .any, .any, .any, .any, .any, .any, .any, .any, .any, .any, .any, .any, .any, .any, .any, .any, .any, .any, .any, .any, .any, .any, .any, .any, .any, .any, .any, .any, .any, .any, .any, .any, .any, .any, .any, .any, .any, .any, .any, .any, .any, .any, .any, .any, .any, .any, .any, .any, .any, .any, .any, .any, .any, .any, .any, .any, .any, .any, .any, .any, .any, .any, .any, .any, .any, .any, .any, .any, .any, .any, .any, .any, .any, .any, .any, .any]) fn_7 rfl rfl rfl rfl fun R hR => ?_
  (all_goals (try ((first | (with_reducible refine wp_id ?_) | (with_reducible refine does_id ?_) | (with_reducible refine ops_id ?_)); refine walk ?_; (repeat' (first | exact trivial | with_reducible refine And.intro ?_ ?_)); all_goals (repeat (first | (with_reducible refine ImpB.mk fun hb => ?_) | (with_reducible refine ImpK.mk fun hK => ?_) | (with_reducible refine ImpF.mk fun hF => ?_) | (with_reducible refine ImpQ.mk fun hp => ?_) | (with_reducible refine AllE.mk fun p => ?_) | (with_reducible refine AllR.mk fun rest => ?_) | (with_reducible refine AllK.mk fun K => ?_))))); repeat' (with_reducible refine And.intro ?_ ?_))
  (focus (refine ⟨_, _, Gh.refl, [], rfl, ?_⟩; (refine fitq ?_ ?_ ?_ <;> try exact trivial); (try any_goals (refine ⟨?_, ?_⟩)); (try any_goals (with_reducible rfl))))
  all_goals (repeat' (first | (refine And.intro ?_ ?_) | rfl))
end Go.V

set_option maxRecDepth 100000
set_option maxHeartbeats 8000000
namespace Go.V
open Go.Proofs
attribute [-go_sem] SL PL
/-- the result of a delta -/
def rsD (most : Int) (bg : Bool) (last v : Int) : Int := if bg = true ∧ most < max v last - min v last then 4 else 1
abbrev enD (id pa kd lo hi rep ev sev : Int) (d : Nat) (st res run : Int) : List AV := [.int .i64 id, .int .i64 pa, .int .i64 kd, .int .i64 lo, .int .i64 hi, .int .i64 rep, .int .i64 ev, .int .i64 sev, .ifc 98 (.ptr d 0), .bool false, .int .i64 st, .int .i64 res, .int .i64 run]
abbrev dlL (most : Int) (bg : Bool) (last : Int) : List AV := [.int .i64 most, .bool bg, .int .i64 last]
theorem k_dchk {n0 : Nat} {K : KT} {c0 c1 c2 c3 : Ch} {rest : List Ch} {most last v : Int} {bg : Bool} (q1 : inS v = true) (q2 : inS last = true) (H : K (.int .i64 (rsD most bg last v)) (c0 :: c1 :: c2 :: c3 :: .cells (dlL most true v) :: rest)) : DoesK Try.prog n0 66 [.ptr 4 0, .int .i64 v] (c0 :: c1 :: c2 :: c3 :: .cells (dlL most bg last) :: rest) K := by
  unfold inS at q1 q2
  simp at q1 q2
  have hw : IntKind.i64.wrap (max v last - min v last) = max v last - min v last := wrap_i64 _ (by omega) (by omega)
  cases bg
  · have hr : rsD most false last v = 1 := by unfold rsD; rw [if_neg (fun q => by cases q.1)]
    rw [hr] at H
    refine w_body (rs := [.tmp 4]) (tm := [.ptr 4 0, .int .i64 v, .any, .any, .any, .any, .any, .any, .any, .any, .any, .any, .any, .any, .any, .any, .any, .any, .any, .any, .any, .any, .any, .any, .any, .any, .any, .any, .any, .any, .any, .any, .any, .any, .any, .any, .any, .any, .any]) fn_66 rfl rfl rfl rfl fun R hR => ?_
    (have zx1 := @hw; all_goals (try ((first | (with_reducible refine wp_id ?_) | (with_reducible refine does_id ?_) | (with_reducible refine ops_id ?_)); refine walk ?_; (repeat' (first | exact trivial | with_reducible refine And.intro ?_ ?_)); all_goals (repeat (first | (with_reducible refine ImpB.mk fun hb => ?_) | (with_reducible refine ImpK.mk fun hK => ?_) | (with_reducible refine ImpF.mk fun hF => ?_) | (with_reducible refine ImpQ.mk fun hp => ?_) | (with_reducible refine AllE.mk fun p => ?_) | (with_reducible refine AllR.mk fun rest => ?_) | (with_reducible refine AllK.mk fun K => ?_))))); repeat' (with_reducible refine And.intro ?_ ?_))
    all_goals exact H
  · by_cases c : most < max v last - min v last
    · have hr : rsD most true last v = 4 := by unfold rsD; rw [if_pos ⟨rfl, c⟩]
      rw [hr] at H
      have hd : decide (max v last - min v last ≤ most) = false := decide_eq_false (by omega)
      refine w_body (rs := [.tmp 4]) (tm := [.ptr 4 0, .int .i64 v, .any, .any, .any, .any, .any, .any, .any, .any, .any, .any, .any, .any, .any, .any, .any, .any, .any, .any, .any, .any, .any, .any, .any, .any, .any, .any, .any, .any, .any, .any, .any, .any, .any, .any, .any, .any, .any]) fn_66 rfl rfl rfl rfl fun R hR => ?_
      (have zx1 := @hw; have zx2 := @hd; all_goals (try ((first | (with_reducible refine wp_id ?_) | (with_reducible refine does_id ?_) | (with_reducible refine ops_id ?_)); refine walk ?_; (repeat' (first | exact trivial | with_reducible refine And.intro ?_ ?_)); all_goals (repeat (first | (with_reducible refine ImpB.mk fun hb => ?_) | (with_reducible refine ImpK.mk fun hK => ?_) | (with_reducible refine ImpF.mk fun hF => ?_) | (with_reducible refine ImpQ.mk fun hp => ?_) | (with_reducible refine AllE.mk fun p => ?_) | (with_reducible refine AllR.mk fun rest => ?_) | (with_reducible refine AllK.mk fun K => ?_))))); repeat' (with_reducible refine And.intro ?_ ?_))
      all_goals exact H
    · have hr : rsD most true last v = 1 := by unfold rsD; rw [if_neg (fun q => c q.2)]
      rw [hr] at H
      have hd : decide (max v last - min v last ≤ most) = true := decide_eq_true (by omega)
      refine w_body (rs := [.tmp 4]) (tm := [.ptr 4 0, .int .i64 v, .any, .any, .any, .any, .any, .any, .any, .any, .any, .any, .any, .any, .any, .any, .any, .any, .any, .any, .any, .any, .any, .any, .any, .any, .any, .any, .any, .any, .any, .any, .any, .any, .any, .any, .any, .any, .any]) fn_66 rfl rfl rfl rfl fun R hR => ?_
      (have zx1 := @hw; have zx2 := @hd; all_goals (try ((first | (with_reducible refine wp_id ?_) | (with_reducible refine does_id ?_) | (with_reducible refine ops_id ?_)); refine walk ?_; (repeat' (first | exact trivial | with_reducible refine And.intro ?_ ?_)); all_goals (repeat (first | (with_reducible refine ImpB.mk fun hb => ?_) | (with_reducible refine ImpK.mk fun hK => ?_) | (with_reducible refine ImpF.mk fun hF => ?_) | (with_reducible refine ImpQ.mk fun hp => ?_) | (with_reducible refine AllE.mk fun p => ?_) | (with_reducible refine AllR.mk fun rest => ?_) | (with_reducible refine AllK.mk fun K => ?_))))); repeat' (with_reducible refine And.intro ?_ ?_))
      all_goals exact H
theorem c_dchk {K : KT} {c0 c1 c2 c3 : Ch} {rest : List Ch} {most last v : Int} {bg : Bool} (H : K (.int .i64 (rsD most bg last v)) (c0 :: c1 :: c2 :: c3 :: .cells (dlL most true v) :: rest)) (e1 : inS v = true) (e2 : inS last = true) : Does Try.prog 66 [.ptr 4 0, .int .i64 v] (c0 :: c1 :: c2 :: c3 :: .cells (dlL most bg last) :: rest) K := Does.of_K (k_dchk e1 e2 H)
abbrev i_dchk := Ctr.mk (i := 0) (g := 66) @c_dchk
attribute [instance] i_dchk
theorem k_feedD {n0 : Nat} {K : KT} {c0 c1 c2 : Ch} {rest : List Ch} {most last v id pa kd lo hi rep ev sev st res run : Int} {bg t : Bool} {st' res' run' : Int} (q1 : inS v = true) (q2 : inS last = true) (e : fdR rep st res run (rsD most bg last v) = (t, st', res', run')) (h0 : 0 ≤ run ∧ run ≤ 1000000) (H : K (.bool t) (c0 :: c1 :: c2 :: .cells (enD id pa kd lo hi rep ev sev 4 st' res' run') :: .cells (dlL most true v) :: rest)) : DoesK Try.prog n0 30 [.ptr 3 0, .int .i64 v] (c0 :: c1 :: c2 :: .cells (enD id pa kd lo hi rep ev sev 4 st res run) :: .cells (dlL most bg last) :: rest) K := by
  obtain ⟨r, hr⟩ : ∃ r, rsD most bg last v = r := ⟨_, rfl⟩
  rw [hr] at e
  unfold fdR at e
  by_cases c1 : r = res
  · have d1 : decide (¬ r = res) = false := decide_eq_false (fun q => q c1)
    rw [if_pos c1] at e
    have hw : IntKind.i64.wrap (run + 1) = run + 1 := wrap_i64 _ (by omega) (by omega)
    by_cases c2 : run + 1 < rep
    · have d2 : decide (run + 1 < rep) = true := decide_eq_true c2
      rw [if_pos (.inl c2)] at e
      cases e
      subst c1
      refine w_body (rs := [.tmp 4]) (tm := [.ptr 3 0, .int .i64 v, .any, .any, .any, .any, .any, .any, .any, .any, .any, .any, .any, .any, .any, .any, .any, .any, .any, .any, .any, .any, .any, .any, .any, .any, .any, .any, .any, .any, .any, .any, .any, .any, .any, .any, .any, .any, .any, .any, .any, .any, .any, .any, .any, .any, .any, .any, .any, .any, .any, .any, .any, .any]) fn_30 rfl rfl rfl rfl fun R hR => ?_
      (have zx1 := @hr; have zx2 := @d1; have zx3 := @d2; have zx4 := @hw; all_goals (try ((first | (with_reducible refine wp_id ?_) | (with_reducible refine does_id ?_) | (with_reducible refine ops_id ?_)); refine walk ?_; (repeat' (first | exact trivial | with_reducible refine And.intro ?_ ?_)); all_goals (repeat (first | (with_reducible refine ImpB.mk fun hb => ?_) | (with_reducible refine ImpK.mk fun hK => ?_) | (with_reducible refine ImpF.mk fun hF => ?_) | (with_reducible refine ImpQ.mk fun hp => ?_) | (with_reducible refine AllE.mk fun p => ?_) | (with_reducible refine AllR.mk fun rest => ?_) | (with_reducible refine AllK.mk fun K => ?_))))); repeat' (with_reducible refine And.intro ?_ ?_))
      all_goals exact H
    · have d2 : decide (run + 1 < rep) = false := decide_eq_false c2
      by_cases c3 : st = r
      · have d3 : decide (st = r) = true := decide_eq_true c3
        rw [if_pos (.inr c3)] at e
        cases e
        subst c1
        refine w_body (rs := [.tmp 4]) (tm := [.ptr 3 0, .int .i64 v, .any, .any, .any, .any, .any, .any, .any, .any, .any, .any, .any, .any, .any, .any, .any, .any, .any, .any, .any, .any, .any, .any, .any, .any, .any, .any, .any, .any, .any, .any, .any, .any, .any, .any, .any, .any, .any, .any, .any, .any, .any, .any, .any, .any, .any, .any, .any, .any, .any, .any, .any, .any]) fn_30 rfl rfl rfl rfl fun R hR => ?_
        (have zx1 := @hr; have zx2 := @d1; have zx3 := @d2; have zx4 := @d3; have zx5 := @hw; all_goals (try ((first | (with_reducible refine wp_id ?_) | (with_reducible refine does_id ?_) | (with_reducible refine ops_id ?_)); refine walk ?_; (repeat' (first | exact trivial | with_reducible refine And.intro ?_ ?_)); all_goals (repeat (first | (with_reducible refine ImpB.mk fun hb => ?_) | (with_reducible refine ImpK.mk fun hK => ?_) | (with_reducible refine ImpF.mk fun hF => ?_) | (with_reducible refine ImpQ.mk fun hp => ?_) | (with_reducible refine AllE.mk fun p => ?_) | (with_reducible refine AllR.mk fun rest => ?_) | (with_reducible refine AllK.mk fun K => ?_))))); repeat' (with_reducible refine And.intro ?_ ?_))
        all_goals exact H
      · have d3 : decide (st = r) = false := decide_eq_false c3
        rw [if_neg (fun q => q.elim c2 c3)] at e
        cases e
        subst c1
        refine w_body (rs := [.tmp 4]) (tm := [.ptr 3 0, .int .i64 v, .any, .any, .any, .any, .any, .any, .any, .any, .any, .any, .any, .any, .any, .any, .any, .any, .any, .any, .any, .any, .any, .any, .any, .any, .any, .any, .any, .any, .any, .any, .any, .any, .any, .any, .any, .any, .any, .any, .any, .any, .any, .any, .any, .any, .any, .any, .any, .any, .any, .any, .any, .any]) fn_30 rfl rfl rfl rfl fun R hR => ?_
        (have zx1 := @hr; have zx2 := @d1; have zx3 := @d2; have zx4 := @d3; have zx5 := @hw; all_goals (try ((first | (with_reducible refine wp_id ?_) | (with_reducible refine does_id ?_) | (with_reducible refine ops_id ?_)); refine walk ?_; (repeat' (first | exact trivial | with_reducible refine And.intro ?_ ?_)); all_goals (repeat (first | (with_reducible refine ImpB.mk fun hb => ?_) | (with_reducible refine ImpK.mk fun hK => ?_) | (with_reducible refine ImpF.mk fun hF => ?_) | (with_reducible refine ImpQ.mk fun hp => ?_) | (with_reducible refine AllE.mk fun p => ?_) | (with_reducible refine AllR.mk fun rest => ?_) | (with_reducible refine AllK.mk fun K => ?_))))); repeat' (with_reducible refine And.intro ?_ ?_))
        all_goals exact H
  · have d1 : decide (¬ r = res) = true := decide_eq_true c1
    rw [if_neg c1] at e
    have hw : IntKind.i64.wrap 1 = (1 : Int) := by decide
    by_cases c2 : (1 : Int) < rep
    · have d2 : decide ((1 : Int) < rep) = true := decide_eq_true c2
      rw [if_pos (.inl c2)] at e
      cases e
      refine w_body (rs := [.tmp 4]) (tm := [.ptr 3 0, .int .i64 v, .any, .any, .any, .any, .any, .any, .any, .any, .any, .any, .any, .any, .any, .any, .any, .any, .any, .any, .any, .any, .any, .any, .any, .any, .any, .any, .any, .any, .any, .any, .any, .any, .any, .any, .any, .any, .any, .any, .any, .any, .any, .any, .any, .any, .any, .any, .any, .any, .any, .any, .any, .any]) fn_30 rfl rfl rfl rfl fun R hR => ?_
      (have zx1 := @hr; have zx2 := @d1; have zx3 := @d2; have zx4 := @hw; all_goals (try ((first | (with_reducible refine wp_id ?_) | (with_reducible refine does_id ?_) | (with_reducible refine ops_id ?_)); refine walk ?_; (repeat' (first | exact trivial | with_reducible refine And.intro ?_ ?_)); all_goals (repeat (first | (with_reducible refine ImpB.mk fun hb => ?_) | (with_reducible refine ImpK.mk fun hK => ?_) | (with_reducible refine ImpF.mk fun hF => ?_) | (with_reducible refine ImpQ.mk fun hp => ?_) | (with_reducible refine AllE.mk fun p => ?_) | (with_reducible refine AllR.mk fun rest => ?_) | (with_reducible refine AllK.mk fun K => ?_))))); repeat' (with_reducible refine And.intro ?_ ?_))
      all_goals exact H
    · have d2 : decide ((1 : Int) < rep) = false := decide_eq_false c2
      by_cases c3 : st = r
      · have d3 : decide (st = r) = true := decide_eq_true c3
        rw [if_pos (.inr c3)] at e
        cases e
        refine w_body (rs := [.tmp 4]) (tm := [.ptr 3 0, .int .i64 v, .any, .any, .any, .any, .any, .any, .any, .any, .any, .any, .any, .any, .any, .any, .any, .any, .any, .any, .any, .any, .any, .any, .any, .any, .any, .any, .any, .any, .any, .any, .any, .any, .any, .any, .any, .any, .any, .any, .any, .any, .any, .any, .any, .any, .any, .any, .any, .any, .any, .any, .any, .any]) fn_30 rfl rfl rfl rfl fun R hR => ?_
        (have zx1 := @hr; have zx2 := @d1; have zx3 := @d2; have zx4 := @d3; have zx5 := @hw; all_goals (try ((first | (with_reducible refine wp_id ?_) | (with_reducible refine does_id ?_) | (with_reducible refine ops_id ?_)); refine walk ?_; (repeat' (first | exact trivial | with_reducible refine And.intro ?_ ?_)); all_goals (repeat (first | (with_reducible refine ImpB.mk fun hb => ?_) | (with_reducible refine ImpK.mk fun hK => ?_) | (with_reducible refine ImpF.mk fun hF => ?_) | (with_reducible refine ImpQ.mk fun hp => ?_) | (with_reducible refine AllE.mk fun p => ?_) | (with_reducible refine AllR.mk fun rest => ?_) | (with_reducible refine AllK.mk fun K => ?_))))); repeat' (with_reducible refine And.intro ?_ ?_))
        all_goals exact H
      · have d3 : decide (st = r) = false := decide_eq_false c3
        rw [if_neg (fun q => q.elim c2 c3)] at e
        cases e
        refine w_body (rs := [.tmp 4]) (tm := [.ptr 3 0, .int .i64 v, .any, .any, .any, .any, .any, .any, .any, .any, .any, .any, .any, .any, .any, .any, .any, .any, .any, .any, .any, .any, .any, .any, .any, .any, .any, .any, .any, .any, .any, .any, .any, .any, .any, .any, .any, .any, .any, .any, .any, .any, .any, .any, .any, .any, .any, .any, .any, .any, .any, .any, .any, .any]) fn_30 rfl rfl rfl rfl fun R hR => ?_
        (have zx1 := @hr; have zx2 := @d1; have zx3 := @d2; have zx4 := @d3; have zx5 := @hw; all_goals (try ((first | (with_reducible refine wp_id ?_) | (with_reducible refine does_id ?_) | (with_reducible refine ops_id ?_)); refine walk ?_; (repeat' (first | exact trivial | with_reducible refine And.intro ?_ ?_)); all_goals (repeat (first | (with_reducible refine ImpB.mk fun hb => ?_) | (with_reducible refine ImpK.mk fun hK => ?_) | (with_reducible refine ImpF.mk fun hF => ?_) | (with_reducible refine ImpQ.mk fun hp => ?_) | (with_reducible refine AllE.mk fun p => ?_) | (with_reducible refine AllR.mk fun rest => ?_) | (with_reducible refine AllK.mk fun K => ?_))))); repeat' (with_reducible refine And.intro ?_ ?_))
        all_goals exact H
theorem c_feedD {K : KT} {c0 c1 c2 : Ch} {rest : List Ch} {most last v id pa kd lo hi rep ev sev st res run : Int} {bg t : Bool} {st' res' run' : Int} (H : K (.bool t) (c0 :: c1 :: c2 :: .cells (enD id pa kd lo hi rep ev sev 4 st' res' run') :: .cells (dlL most true v) :: rest)) (e1 : inS v = true) (e2 : inS last = true) (e3 : fdR rep st res run (rsD most bg last v) = (t, st', res', run')) (s1 : 0 ≤ run ∧ run ≤ 1000000) : Does Try.prog 30 [.ptr 3 0, .int .i64 v] (c0 :: c1 :: c2 :: .cells (enD id pa kd lo hi rep ev sev 4 st res run) :: .cells (dlL most bg last) :: rest) K := Does.of_K (k_feedD e1 e2 e3 s1 H)
abbrev i_feedD := Ctr.mk (i := 2) (g := 30) @c_feedD
attribute [instance] i_feedD
/-- a delta that is right -/
structure isDel (m : Mon) : Prop where
  kind : m.kind = 3
  lo : m.low = 0
  hi : 0 ≤ m.high ∧ m.high ≤ 4294967296
theorem b_newD (m : Mon) (hm : isDel m) : DoesK Try.prog 0 23 [.agg (monL m)] [] (EndF 0 (.ifc 98 (.ptr 0 0)) [.cells (dlL m.high false 0)]) := by
  refine DoesK.close ?_
  obtain ⟨h1, h2, h3, h4⟩ := hm
  have d1 : decide (m.kind = 1) = false := decide_eq_false (by omega)
  have d2 : decide (m.kind = 2) = false := decide_eq_false (by omega)
  have d3 : decide (m.kind = 3) = true := decide_eq_true h1
  have d4 : decide (m.low = 0) = true := decide_eq_true h2
  have d5 : decide (0 ≤ m.high) = true := decide_eq_true h3
  have d6 : decide (m.high ≤ 4294967296) = true := decide_eq_true h4
  refine w_body (rs := [.tmp 2]) (tm := [.agg (monL m), .any, .any, .any, .any, .any, .any, .any, .any, .any, .any, .any, .any, .any, .any, .any, .any, .any, .any, .any, .any, .any, .any, .any, .any, .any, .any, .any, .any, .any, .any, .any, .any, .any, .any, .any, .any, .any, .any, .any, .any, .any, .any, .any, .any, .any, .any, .any, .any, .any, .any, .any, .any, .any, .any, .any, .any, .any, .any, .any, .any, .any, .any, .any, .any, .any, .any, .any, .any, .any, .any, .any, .any, .any, .any, .any]) fn_23 rfl rfl rfl rfl fun R hR => ?_
  (have zx1 := @d1; have zx2 := @d2; have zx3 := @d3; have zx4 := @d4; have zx5 := @d5; have zx6 := @d6; all_goals (try ((first | (with_reducible refine wp_id ?_) | (with_reducible refine does_id ?_) | (with_reducible refine ops_id ?_)); refine walk ?_; (repeat' (first | exact trivial | with_reducible refine And.intro ?_ ?_)); all_goals (repeat (first | (with_reducible refine ImpB.mk fun hb => ?_) | (with_reducible refine ImpK.mk fun hK => ?_) | (with_reducible refine ImpF.mk fun hF => ?_) | (with_reducible refine ImpQ.mk fun hp => ?_) | (with_reducible refine AllE.mk fun p => ?_) | (with_reducible refine AllR.mk fun rest => ?_) | (with_reducible refine AllK.mk fun K => ?_))))); repeat' (with_reducible refine And.intro ?_ ?_))
  (focus (refine ⟨_, _, Gh.refl, [1], rfl, ?_⟩; (refine fitq ?_ ?_ ?_ <;> try exact trivial); (try any_goals (refine ⟨?_, ?_⟩)); (try any_goals (with_reducible rfl))))
  all_goals (repeat' (first | (refine And.intro ?_ ?_) | rfl))
theorem c_newD {h : List Ch} {K : KT} {a b c lo hi d e f : Int} (H : K (.ifc 98 (.ptr h.length 0)) (h ++ [.cells (dlL hi false 0)])) (e1 : isDel ⟨a, b, c, lo, hi, d, e, f⟩) : Does Try.prog 23 [.agg [.int .i64 a, .int .i64 b, .int .i64 c, .int .i64 lo, .int .i64 hi, .int .i64 d, .int .i64 e, .int .i64 f]] h K :=
  frame_new (b_newD ⟨a, b, c, lo, hi, d, e, f⟩ e1) (br_cons (br_agg (br_cons br_int (br_cons br_int (br_cons br_int (br_cons br_int (br_cons br_int (br_cons br_int (br_cons br_int (br_cons br_int br_nil))))))))) br_nil) (.inl rfl) (fun _ => rfl) (by simp [renA, renL, rhoC]) H
abbrev i_newD := Ctr.mk (i := 1) (g := 23) @c_newD
attribute [instance] i_newD
end Go.V

set_option maxRecDepth 100000
set_option maxHeartbeats 8000000
namespace Go.V
open Go.Proofs
attribute [-go_sem] SL PL
/-- a service with one delta on parameter 0, as it lies -/
def SD (now : Int) (m : Mon) (st res run : Int) (bg : Bool) (last : Int) : List Ch := [.cells [.bool true, .int .i64 now, .csl 1 1 1], .crow [.ptr 2 0], .cells (enD m.id m.param m.kind m.low m.high m.rep m.ev m.sev 3 st res run), .cells (dlL m.high bg last)]
attribute [go_sem] SD
def svD (m : Mon) (k : Nat) : Ch := if k = 0 then .cells [.bool true, .int .i64 0, .lit (.slice none 0 0)] else .pack (SD 0 m 0 0 0 false 0)
theorem b_mnewD (m : Mon) (hm : isDel m) (hv : isMon m) : DoesK Try.prog 0 9 [.ro .mon [m]] [] (EndF 0 (.tup [.ptr 0 0, .int .i64 0]) [.pack (SD 0 m 0 0 0 false 0)]) := by
  refine DoesK.close ?_
  obtain ⟨n1, n2, n3, ⟨r1, r2⟩, s1, s2⟩ := hv
  have a1 : decide (m.rep < 1) = false := decide_eq_false (by omega)
  have a2 : decide (256 < m.rep) = false := decide_eq_false (by omega)
  have a3 : decide (m.sev < 1) = false := decide_eq_false (by omega)
  have a4 : decide (4 < m.sev) = false := decide_eq_false (by omega)
  have h0 : svD m 0 = .cells [.bool true, .int .i64 0, .lit (.slice none 0 0)] := if_pos rfl
  have h1 : svD m 1 = .pack (SD 0 m 0 0 0 false 0) := if_neg (by decide)
  refine w_body (rs := [.tmp 2, .tmp 3]) (tm := [.ro .mon [m], .any, .any, .any, .any, .any, .any, .any, .any, .any, .any, .any, .any, .any, .any, .any, .any, .any, .any, .any, .any, .any, .any, .any, .any, .any, .any, .any, .any, .any, .any, .any, .any, .any, .any, .any, .any, .any, .any, .any, .any, .any, .any, .any, .any, .any, .any, .any, .any, .any, .any, .any, .any, .any, .any, .any, .any, .any, .any, .any, .any, .any, .any, .any, .any, .any, .any, .any, .any, .any, .any, .any, .any, .any, .any, .any, .any, .any, .any, .any, .any, .any, .any, .any, .any, .any, .any, .any, .any, .any]) fn_9 rfl rfl rfl rfl fun R hR => ?_
  (all_goals (try ((first | (with_reducible refine wp_id ?_) | (with_reducible refine does_id ?_) | (with_reducible refine ops_id ?_)); refine walk ?_; (repeat' (first | exact trivial | with_reducible refine And.intro ?_ ?_)); all_goals (repeat (first | (with_reducible refine ImpB.mk fun hb => ?_) | (with_reducible refine ImpK.mk fun hK => ?_) | (with_reducible refine ImpF.mk fun hF => ?_) | (with_reducible refine ImpQ.mk fun hp => ?_) | (with_reducible refine AllE.mk fun p => ?_) | (with_reducible refine AllR.mk fun rest => ?_) | (with_reducible refine AllK.mk fun K => ?_))))); repeat' (with_reducible refine And.intro ?_ ?_))
  any_goals ((try (refine w_seq fun K hK => ?_)); (try (refine w_block ?_)); refine w_loop (A := Nat) (fun k => k ≤ 1) (fun k => 1 - k) (fun k => [(15, .int .i64 k), (4, .ptr 0 0)]) (fun k => [(0, svD m k)]) (0) (ws := ?ws1) (tk := ?tk1) ?hw1 ?ht1 ?hi ?h0 ?LH1; (case hw1 => simp only [go_sem, decide_true, decide_false, Int.reduceToNat, Nat.min_eq_left, Nat.min_eq_right, Int.reducePow, Nat.reducePow, Int.reduceLE, Int.reduceLT, Int.reduceMul, Int.reduceAdd, Int.reduceSub, Int.reduceNeg, Bool.not_true, Bool.not_false, Bool.not_not, ↓reduceIte, Nat.reduceAdd, Nat.reduceSub, Nat.reduceMul, Nat.reduceEqDiff, reduceCtorEq, Nat.reduceLT, Nat.reduceLeDiff, Nat.reduceGT]; exact rfl); (case ht1 => simp only [go_sem, decide_true, decide_false, Int.reduceToNat, Nat.min_eq_left, Nat.min_eq_right, Int.reducePow, Nat.reducePow, Int.reduceLE, Int.reduceLT, Int.reduceMul, Int.reduceAdd, Int.reduceSub, Int.reduceNeg, Bool.not_true, Bool.not_false, Bool.not_not, ↓reduceIte, Nat.reduceAdd, Nat.reduceSub, Nat.reduceMul, Nat.reduceEqDiff, reduceCtorEq, Nat.reduceLT, Nat.reduceLeDiff, Nat.reduceGT]; exact rfl); (case' LH1 => rintro k E t hx hE ht; simp only [go_sem] at ht; subst ht; simp only [go_sem]; try dsimp only at hx))
  case hi => exact Nat.zero_le _
  case h0 =>
    rw [h0]
    (focus (refine ⟨_, _, Gh.refl, [0], rfl, ?_⟩; (refine fitq ?_ ?_ ?_ <;> try exact trivial); (try any_goals (refine ⟨?_, ?_⟩)); (try any_goals (with_reducible rfl))))
    all_goals (repeat' (first | (refine And.intro ?_ ?_) | rfl))
  case LH1 =>
    have hk0 : k ≤ 1 := hx
    by_cases hk : k = 0
    · subst hk
      rw [h0]
      have hkd : decide (((0 : Nat) : Int) < 1) = true := by decide
      have hw : IntKind.i64.wrap 1 = ((1 : Nat) : Int) := by decide
      have hl : decide ((0 : Int) < ((0 : Nat) : Int)) = false := by decide
      have hat : [m].getD 0 Mon.zero = m := rfl
      have hnm := And.intro n1 (And.intro n2 n3)
      have hrs := And.intro a1 (And.intro a2 (And.intro a3 a4))
      (have zx1 := @hkd; have zx2 := @hw; have zx3 := @hl; have zx4 := @hat; have zx5 := @hnm; have zx6 := @hrs; all_goals (try ((first | (with_reducible refine wp_id ?_) | (with_reducible refine does_id ?_) | (with_reducible refine ops_id ?_)); refine walk ?_; (repeat' (first | exact trivial | with_reducible refine And.intro ?_ ?_)); all_goals (repeat (first | (with_reducible refine ImpB.mk fun hb => ?_) | (with_reducible refine ImpK.mk fun hK => ?_) | (with_reducible refine ImpF.mk fun hF => ?_) | (with_reducible refine ImpQ.mk fun hp => ?_) | (with_reducible refine AllE.mk fun p => ?_) | (with_reducible refine AllR.mk fun rest => ?_) | (with_reducible refine AllK.mk fun K => ?_))))); repeat' (with_reducible refine And.intro ?_ ?_))
      refine ⟨1, ⟨by first | omega | (dsimp only; omega), by first | omega | (dsimp only; omega)⟩, ?_⟩
      dsimp only
      rw [h1]
      all_goals trace_state
      (focus (refine ⟨_, _, gh_close (t := 0) (ts := [5, 3, 2]) (l := SD 0 m 0 0 0 false 0) ⟨⟨_, _, rfl⟩, ?_, by simp⟩, [0], rfl, ?_⟩; all_goals (refine fitq ?_ ?_ ?_ <;> try exact trivial); (try any_goals (refine ⟨?_, ?_⟩)); (try any_goals (with_reducible rfl))))
      all_goals (repeat' (first | (refine And.intro ?_ ?_) | rfl))
    · obtain rfl : k = 1 := by omega
      rw [h1]
      have hkd : decide (((1 : Nat) : Int) < 1) = false := by decide
      (have zx1 := @hkd; all_goals (try ((first | (with_reducible refine wp_id ?_) | (with_reducible refine does_id ?_) | (with_reducible refine ops_id ?_)); refine walk ?_; (repeat' (first | exact trivial | with_reducible refine And.intro ?_ ?_)); all_goals (repeat (first | (with_reducible refine ImpB.mk fun hb => ?_) | (with_reducible refine ImpK.mk fun hK => ?_) | (with_reducible refine ImpF.mk fun hF => ?_) | (with_reducible refine ImpQ.mk fun hp => ?_) | (with_reducible refine AllE.mk fun p => ?_) | (with_reducible refine AllR.mk fun rest => ?_) | (with_reducible refine AllK.mk fun K => ?_))))); repeat' (with_reducible refine And.intro ?_ ?_))
      (focus (refine ⟨_, _, Gh.refl, [0], rfl, ?_⟩; (refine fitq ?_ ?_ ?_ <;> try exact trivial); (try any_goals (refine ⟨?_, ?_⟩)); (try any_goals (with_reducible rfl))))
      all_goals (repeat' (first | (refine And.intro ?_ ?_) | rfl))
theorem c_mnewD {h : List Ch} {K : KT} {a : AV} {m : Mon} (H : K (.tup [.ptr h.length 0, .int .i64 0]) (h ++ [.pack (SD 0 m 0 0 0 false 0)])) (q1 : isRO .mon [m] a) (e1 : isDel m) (e2 : isMon m) : Does Try.prog 9 [a] h K :=
  frame_new (b_mnewD m e1 e2) (br_cons q1.br br_nil) (.inl (by rw [brTL, q1.brT]; rfl)) (fun _ => rfl) (by simp [renA, renL, rhoC]) H
abbrev i_mnewD := Ctr.mk (i := 1) (g := 9) @c_mnewD
attribute [instance] i_mnewD
end Go.V

set_option maxRecDepth 100000
set_option maxHeartbeats 8000000
namespace Go.V
open Go.Proofs
attribute [-go_sem] SL PL
theorem b_mcheckD (now n : Int) (id kd lo hi rep ev sev st res run a b last : Int) (bg t : Bool) (st' res' run' : Int) (hr0 : 0 ≤ run ∧ run ≤ 1000000) (e : fdR rep st res run (rsD hi bg last a) = (t, st', res', run')) (q1 : inS a = true) (q2 : inS last = true) :
    DoesK Try.prog 2 12 [.ptr 0 0, .int .i64 n, .ptr 1 0] [.pack (SD now ⟨id, 0, kd, lo, hi, rep, ev, sev⟩ st res run bg last), .pack (PO a b)]
      (EndF 2 (.ro .tra (if t then [⟨nowQ now n, id, st, st', a⟩] else [])) ([.pack (SD (nowQ now n) ⟨id, 0, kd, lo, hi, rep, ev, sev⟩ st' res' run' true a), .pack (PO a b)] ++ [])) := by
  refine DoesK.close ?_
  obtain ⟨nw, hnw⟩ : ∃ z, nowQ now n = z := ⟨_, rfl⟩
  rw [hnw]
  unfold nowQ at hnw
  obtain ⟨O, hO⟩ : ∃ O : List Tra, (if t then [⟨nw, id, st, st', a⟩] else []) = O := ⟨_, rfl⟩
  rw [hO]
  have hOl : O.length ≤ 1 := by rw [← hO]; cases t <;> simp
  have hz : decide (¬ (0 : Int) = 0) = false := by decide
  have g0 : ∀ l l', enF 0 l l' = .cells l := fun _ _ => if_pos rfl
  have g1 : ∀ l l', enF 1 l l' = .cells l' := fun _ _ => if_neg (by decide)
  have u0 : ouF 0 O = [] := if_pos rfl
  have u1 : ouF 1 O = O := if_neg (by decide)
  by_cases c1 : n ≤ 1099511627776
  · have d1 : decide (n ≤ 1099511627776) = true := decide_eq_true c1
    rw [if_pos c1] at hnw
    refine w_body (rs := [.tmp 6]) (tm := [.ptr 0 0, .int .i64 n, .ptr 1 0, .any, .any, .any, .any, .any, .any, .any, .any, .any, .any, .any, .any, .any, .any, .any, .any, .any, .any, .any, .any, .any, .any, .any, .any, .any, .any, .any, .any, .any, .any, .any, .any, .any, .any, .any, .any, .any, .any, .any, .any, .any, .any, .any, .any, .any, .any, .any, .any, .any, .any, .any, .any, .any, .any, .any, .any, .any, .any, .any, .any, .any, .any, .any, .any, .any, .any, .any, .any, .any, .any, .any, .any, .any, .any, .any, .any, .any, .any, .any, .any, .any, .any, .any, .any, .any]) fn_12 rfl rfl rfl rfl fun R hR => ?_
    (have zx1 := @d1; have zx2 := @hnw; all_goals (try ((first | (with_reducible refine wp_id ?_) | (with_reducible refine does_id ?_) | (with_reducible refine ops_id ?_)); refine walk ?_; (repeat' (first | exact trivial | with_reducible refine And.intro ?_ ?_)); all_goals (repeat (first | (with_reducible refine ImpB.mk fun hb => ?_) | (with_reducible refine ImpK.mk fun hK => ?_) | (with_reducible refine ImpF.mk fun hF => ?_) | (with_reducible refine ImpQ.mk fun hp => ?_) | (with_reducible refine AllE.mk fun p => ?_) | (with_reducible refine AllR.mk fun rest => ?_) | (with_reducible refine AllK.mk fun K => ?_))))); repeat' (with_reducible refine And.intro ?_ ?_))
    refine Wp.ghost (gh_adopt (s := 7) .tra trivial) ?_
    simp only [go_sem, decide_true, decide_false, Int.reduceToNat, Nat.min_eq_left, Nat.min_eq_right, Int.reducePow, Nat.reducePow, Int.reduceLE, Int.reduceLT, Int.reduceMul, Int.reduceAdd, Int.reduceSub, Int.reduceNeg, Bool.not_true, Bool.not_false, Bool.not_not, ↓reduceIte, Nat.reduceAdd, Nat.reduceSub, Nat.reduceMul, Nat.reduceEqDiff, reduceCtorEq, Nat.reduceLT, Nat.reduceLeDiff, Nat.reduceGT]
    any_goals ((try (refine w_seq fun K hK => ?_)); (try (refine w_block ?_)); refine w_loop (A := Nat) (fun k => k ≤ 1) (fun k => 1 - k) (fun k => [(38, .int .i64 k), (7, .sl 5 .tra 0 (ouF k O).length)]) (fun k => [(3, enF k (enD id 0 kd lo hi rep ev sev 4 st res run) (enD id 0 kd lo hi rep ev sev 4 st' res' run')), (4, enF k (dlL hi bg last) (dlL hi true a)), (5, .rows .tra (ouF k O))]) (0) (ws := ?ws1) (tk := ?tk1) ?hw1 ?ht1 ?hi ?h0 ?LH1; (case hw1 => simp only [go_sem, decide_true, decide_false, Int.reduceToNat, Nat.min_eq_left, Nat.min_eq_right, Int.reducePow, Nat.reducePow, Int.reduceLE, Int.reduceLT, Int.reduceMul, Int.reduceAdd, Int.reduceSub, Int.reduceNeg, Bool.not_true, Bool.not_false, Bool.not_not, ↓reduceIte, Nat.reduceAdd, Nat.reduceSub, Nat.reduceMul, Nat.reduceEqDiff, reduceCtorEq, Nat.reduceLT, Nat.reduceLeDiff, Nat.reduceGT]; exact rfl); (case ht1 => simp only [go_sem, decide_true, decide_false, Int.reduceToNat, Nat.min_eq_left, Nat.min_eq_right, Int.reducePow, Nat.reducePow, Int.reduceLE, Int.reduceLT, Int.reduceMul, Int.reduceAdd, Int.reduceSub, Int.reduceNeg, Bool.not_true, Bool.not_false, Bool.not_not, ↓reduceIte, Nat.reduceAdd, Nat.reduceSub, Nat.reduceMul, Nat.reduceEqDiff, reduceCtorEq, Nat.reduceLT, Nat.reduceLeDiff, Nat.reduceGT]; exact rfl); (case' LH1 => rintro k E t hx hE ht; simp only [go_sem] at ht; subst ht; simp only [go_sem]; try dsimp only at hx))
    case hi => exact Nat.zero_le _
    case h0 =>
      rw [g0, g0, u0]
      (focus (refine ⟨_, _, Gh.refl, [0, 1, 2, 3, 4, 5], rfl, ?_⟩; (refine fitq ?_ ?_ ?_ <;> try exact trivial); (try any_goals (refine ⟨?_, ?_⟩)); (try any_goals (with_reducible rfl))))
      all_goals (repeat' (first | (refine And.intro ?_ ?_) | rfl))
    case LH1 =>
      have hk0 : k ≤ 1 := hx
      by_cases hk : k = 0
      · subst hk
        rw [g0, g0, u0]
        have hkd : decide (((0 : Nat) : Int) < 1) = true := by decide
        have hw : IntKind.i64.wrap 1 = ((1 : Nat) : Int) := by decide
        cases t
        · have hO' : [] = O := hO
          (have zx1 := @hkd; have zx2 := @hw; have zx3 := @hz; all_goals (try ((first | (with_reducible refine wp_id ?_) | (with_reducible refine does_id ?_) | (with_reducible refine ops_id ?_)); refine walk ?_; (repeat' (first | exact trivial | with_reducible refine And.intro ?_ ?_)); all_goals (repeat (first | (with_reducible refine ImpB.mk fun hb => ?_) | (with_reducible refine ImpK.mk fun hK => ?_) | (with_reducible refine ImpF.mk fun hF => ?_) | (with_reducible refine ImpQ.mk fun hp => ?_) | (with_reducible refine AllE.mk fun p => ?_) | (with_reducible refine AllR.mk fun rest => ?_) | (with_reducible refine AllK.mk fun K => ?_))))); repeat' (with_reducible refine And.intro ?_ ?_))
          refine ⟨1, ⟨by first | omega | (dsimp only; omega), by first | omega | (dsimp only; omega)⟩, ?_⟩
          dsimp only
          rw [g1, g1, u1, ← hO']
          (focus (refine ⟨_, _, Gh.refl, [0, 1, 2, 3, 4, 5], rfl, ?_⟩; (refine fitq ?_ ?_ ?_ <;> try exact trivial); (try any_goals (refine ⟨?_, ?_⟩)); (try any_goals (with_reducible rfl))))
          all_goals (repeat' (first | (refine And.intro ?_ ?_) | rfl))
        · have hO' : [⟨nw, id, st, st', a⟩] = O := hO
          (have zx1 := @hkd; have zx2 := @hw; have zx3 := @hz; all_goals (try ((first | (with_reducible refine wp_id ?_) | (with_reducible refine does_id ?_) | (with_reducible refine ops_id ?_)); refine walk ?_; (repeat' (first | exact trivial | with_reducible refine And.intro ?_ ?_)); all_goals (repeat (first | (with_reducible refine ImpB.mk fun hb => ?_) | (with_reducible refine ImpK.mk fun hK => ?_) | (with_reducible refine ImpF.mk fun hF => ?_) | (with_reducible refine ImpQ.mk fun hp => ?_) | (with_reducible refine AllE.mk fun p => ?_) | (with_reducible refine AllR.mk fun rest => ?_) | (with_reducible refine AllK.mk fun K => ?_))))); repeat' (with_reducible refine And.intro ?_ ?_))
          refine ⟨1, ⟨by first | omega | (dsimp only; omega), by first | omega | (dsimp only; omega)⟩, ?_⟩
          dsimp only
          rw [g1, g1, u1, ← hO']
          (focus (refine ⟨_, _, Gh.refl, [0, 1, 2, 3, 4, 7], rfl, ?_⟩; (refine fitq ?_ ?_ ?_ <;> try exact trivial); (try any_goals (refine ⟨?_, ?_⟩)); (try any_goals (with_reducible rfl))))
          all_goals (repeat' (first | (refine And.intro ?_ ?_) | rfl))
      · obtain rfl : k = 1 := by omega
        rw [g1, g1, u1]
        have hkd : decide (((1 : Nat) : Int) < 1) = false := by decide
        (have zx1 := @hkd; all_goals (try ((first | (with_reducible refine wp_id ?_) | (with_reducible refine does_id ?_) | (with_reducible refine ops_id ?_)); refine walk ?_; (repeat' (first | exact trivial | with_reducible refine And.intro ?_ ?_)); all_goals (repeat (first | (with_reducible refine ImpB.mk fun hb => ?_) | (with_reducible refine ImpK.mk fun hK => ?_) | (with_reducible refine ImpF.mk fun hF => ?_) | (with_reducible refine ImpQ.mk fun hp => ?_) | (with_reducible refine AllE.mk fun p => ?_) | (with_reducible refine AllR.mk fun rest => ?_) | (with_reducible refine AllK.mk fun K => ?_))))); repeat' (with_reducible refine And.intro ?_ ?_))
        refine ⟨_, _, (gh_frz (t := 5) (e := .tra) (xs := O) rfl ?f1a ?f2a).trans (gh_close (t := 0) (ts := [2, 3, 4]) (l := SD nw ⟨id, 0, kd, lo, hi, rep, ev, sev⟩ st' res' run' true a) ⟨⟨_, _, rfl⟩, ?fca, by simp⟩), [0, 1], rfl, ?fta⟩
        case' fta => (refine fitq ?_ ?_ ?_ <;> try exact trivial)
        case' fca => simp only [go_sem, decide_true, decide_false, Int.reduceToNat, Nat.min_eq_left, Nat.min_eq_right, Int.reducePow, Nat.reducePow, Int.reduceLE, Int.reduceLT, Int.reduceMul, Int.reduceAdd, Int.reduceSub, Int.reduceNeg, Bool.not_true, Bool.not_false, Bool.not_not, ↓reduceIte, Nat.reduceAdd, Nat.reduceSub, Nat.reduceMul, Nat.reduceEqDiff, reduceCtorEq, Nat.reduceLT, Nat.reduceLeDiff, Nat.reduceGT]
        case' f1a => simp only [go_sem, decide_true, decide_false, Int.reduceToNat, Nat.min_eq_left, Nat.min_eq_right, Int.reducePow, Nat.reducePow, Int.reduceLE, Int.reduceLT, Int.reduceMul, Int.reduceAdd, Int.reduceSub, Int.reduceNeg, Bool.not_true, Bool.not_false, Bool.not_not, ↓reduceIte, Nat.reduceAdd, Nat.reduceSub, Nat.reduceMul, Nat.reduceEqDiff, reduceCtorEq, Nat.reduceLT, Nat.reduceLeDiff, Nat.reduceGT]
        case' f2a => simp only [go_sem, decide_true, decide_false, Int.reduceToNat, Nat.min_eq_left, Nat.min_eq_right, Int.reducePow, Nat.reducePow, Int.reduceLE, Int.reduceLT, Int.reduceMul, Int.reduceAdd, Int.reduceSub, Int.reduceNeg, Bool.not_true, Bool.not_false, Bool.not_not, ↓reduceIte, Nat.reduceAdd, Nat.reduceSub, Nat.reduceMul, Nat.reduceEqDiff, reduceCtorEq, Nat.reduceLT, Nat.reduceLeDiff, Nat.reduceGT]
        all_goals first | exact Nat.le_refl _ | exact ⟨Nat.le_refl _, False.elim⟩ | exact False.elim | (repeat' (first | (refine And.intro ?_ ?_) | rfl | exact False.elim | exact Nat.le_refl _))
  · have d1 : decide (n ≤ 1099511627776) = false := decide_eq_false c1
    rw [if_neg c1] at hnw
    have hnw2 := hnw.symm
    subst hnw2
    refine w_body (rs := [.tmp 6]) (tm := [.ptr 0 0, .int .i64 n, .ptr 1 0, .any, .any, .any, .any, .any, .any, .any, .any, .any, .any, .any, .any, .any, .any, .any, .any, .any, .any, .any, .any, .any, .any, .any, .any, .any, .any, .any, .any, .any, .any, .any, .any, .any, .any, .any, .any, .any, .any, .any, .any, .any, .any, .any, .any, .any, .any, .any, .any, .any, .any, .any, .any, .any, .any, .any, .any, .any, .any, .any, .any, .any, .any, .any, .any, .any, .any, .any, .any, .any, .any, .any, .any, .any, .any, .any, .any, .any, .any, .any, .any, .any, .any, .any, .any, .any]) fn_12 rfl rfl rfl rfl fun R hR => ?_
    (have zx1 := @d1; all_goals (try ((first | (with_reducible refine wp_id ?_) | (with_reducible refine does_id ?_) | (with_reducible refine ops_id ?_)); refine walk ?_; (repeat' (first | exact trivial | with_reducible refine And.intro ?_ ?_)); all_goals (repeat (first | (with_reducible refine ImpB.mk fun hb => ?_) | (with_reducible refine ImpK.mk fun hK => ?_) | (with_reducible refine ImpF.mk fun hF => ?_) | (with_reducible refine ImpQ.mk fun hp => ?_) | (with_reducible refine AllE.mk fun p => ?_) | (with_reducible refine AllR.mk fun rest => ?_) | (with_reducible refine AllK.mk fun K => ?_))))); repeat' (with_reducible refine And.intro ?_ ?_))
    refine Wp.ghost (gh_adopt (s := 7) .tra trivial) ?_
    simp only [go_sem, decide_true, decide_false, Int.reduceToNat, Nat.min_eq_left, Nat.min_eq_right, Int.reducePow, Nat.reducePow, Int.reduceLE, Int.reduceLT, Int.reduceMul, Int.reduceAdd, Int.reduceSub, Int.reduceNeg, Bool.not_true, Bool.not_false, Bool.not_not, ↓reduceIte, Nat.reduceAdd, Nat.reduceSub, Nat.reduceMul, Nat.reduceEqDiff, reduceCtorEq, Nat.reduceLT, Nat.reduceLeDiff, Nat.reduceGT]
    any_goals ((try (refine w_seq fun K hK => ?_)); (try (refine w_block ?_)); refine w_loop (A := Nat) (fun k => k ≤ 1) (fun k => 1 - k) (fun k => [(38, .int .i64 k), (7, .sl 5 .tra 0 (ouF k O).length)]) (fun k => [(3, enF k (enD id 0 kd lo hi rep ev sev 4 st res run) (enD id 0 kd lo hi rep ev sev 4 st' res' run')), (4, enF k (dlL hi bg last) (dlL hi true a)), (5, .rows .tra (ouF k O))]) (0) (ws := ?ws2) (tk := ?tk2) ?hw2 ?ht2 ?hi_1 ?h0_1 ?LH2; (case hw2 => simp only [go_sem, decide_true, decide_false, Int.reduceToNat, Nat.min_eq_left, Nat.min_eq_right, Int.reducePow, Nat.reducePow, Int.reduceLE, Int.reduceLT, Int.reduceMul, Int.reduceAdd, Int.reduceSub, Int.reduceNeg, Bool.not_true, Bool.not_false, Bool.not_not, ↓reduceIte, Nat.reduceAdd, Nat.reduceSub, Nat.reduceMul, Nat.reduceEqDiff, reduceCtorEq, Nat.reduceLT, Nat.reduceLeDiff, Nat.reduceGT]; exact rfl); (case ht2 => simp only [go_sem, decide_true, decide_false, Int.reduceToNat, Nat.min_eq_left, Nat.min_eq_right, Int.reducePow, Nat.reducePow, Int.reduceLE, Int.reduceLT, Int.reduceMul, Int.reduceAdd, Int.reduceSub, Int.reduceNeg, Bool.not_true, Bool.not_false, Bool.not_not, ↓reduceIte, Nat.reduceAdd, Nat.reduceSub, Nat.reduceMul, Nat.reduceEqDiff, reduceCtorEq, Nat.reduceLT, Nat.reduceLeDiff, Nat.reduceGT]; exact rfl); (case' LH2 => rintro k E t hx hE ht; simp only [go_sem] at ht; subst ht; simp only [go_sem]; try dsimp only at hx))
    case hi_1 => exact Nat.zero_le _
    case h0_1 =>
      rw [g0, g0, u0]
      (focus (refine ⟨_, _, Gh.refl, [0, 1, 2, 3, 4, 5], rfl, ?_⟩; (refine fitq ?_ ?_ ?_ <;> try exact trivial); (try any_goals (refine ⟨?_, ?_⟩)); (try any_goals (with_reducible rfl))))
      all_goals (repeat' (first | (refine And.intro ?_ ?_) | rfl))
    case LH2 =>
      have hk0 : k ≤ 1 := hx
      by_cases hk : k = 0
      · subst hk
        rw [g0, g0, u0]
        have hkd : decide (((0 : Nat) : Int) < 1) = true := by decide
        have hw : IntKind.i64.wrap 1 = ((1 : Nat) : Int) := by decide
        cases t
        · have hO' : [] = O := hO
          (have zx1 := @hkd; have zx2 := @hw; have zx3 := @hz; all_goals (try ((first | (with_reducible refine wp_id ?_) | (with_reducible refine does_id ?_) | (with_reducible refine ops_id ?_)); refine walk ?_; (repeat' (first | exact trivial | with_reducible refine And.intro ?_ ?_)); all_goals (repeat (first | (with_reducible refine ImpB.mk fun hb => ?_) | (with_reducible refine ImpK.mk fun hK => ?_) | (with_reducible refine ImpF.mk fun hF => ?_) | (with_reducible refine ImpQ.mk fun hp => ?_) | (with_reducible refine AllE.mk fun p => ?_) | (with_reducible refine AllR.mk fun rest => ?_) | (with_reducible refine AllK.mk fun K => ?_))))); repeat' (with_reducible refine And.intro ?_ ?_))
          refine ⟨1, ⟨by first | omega | (dsimp only; omega), by first | omega | (dsimp only; omega)⟩, ?_⟩
          dsimp only
          rw [g1, g1, u1, ← hO']
          (focus (refine ⟨_, _, Gh.refl, [0, 1, 2, 3, 4, 5], rfl, ?_⟩; (refine fitq ?_ ?_ ?_ <;> try exact trivial); (try any_goals (refine ⟨?_, ?_⟩)); (try any_goals (with_reducible rfl))))
          all_goals (repeat' (first | (refine And.intro ?_ ?_) | rfl))
        · have hO' : [⟨nw, id, st, st', a⟩] = O := hO
          (have zx1 := @hkd; have zx2 := @hw; have zx3 := @hz; all_goals (try ((first | (with_reducible refine wp_id ?_) | (with_reducible refine does_id ?_) | (with_reducible refine ops_id ?_)); refine walk ?_; (repeat' (first | exact trivial | with_reducible refine And.intro ?_ ?_)); all_goals (repeat (first | (with_reducible refine ImpB.mk fun hb => ?_) | (with_reducible refine ImpK.mk fun hK => ?_) | (with_reducible refine ImpF.mk fun hF => ?_) | (with_reducible refine ImpQ.mk fun hp => ?_) | (with_reducible refine AllE.mk fun p => ?_) | (with_reducible refine AllR.mk fun rest => ?_) | (with_reducible refine AllK.mk fun K => ?_))))); repeat' (with_reducible refine And.intro ?_ ?_))
          refine ⟨1, ⟨by first | omega | (dsimp only; omega), by first | omega | (dsimp only; omega)⟩, ?_⟩
          dsimp only
          rw [g1, g1, u1, ← hO']
          (focus (refine ⟨_, _, Gh.refl, [0, 1, 2, 3, 4, 7], rfl, ?_⟩; (refine fitq ?_ ?_ ?_ <;> try exact trivial); (try any_goals (refine ⟨?_, ?_⟩)); (try any_goals (with_reducible rfl))))
          all_goals (repeat' (first | (refine And.intro ?_ ?_) | rfl))
      · obtain rfl : k = 1 := by omega
        rw [g1, g1, u1]
        have hkd : decide (((1 : Nat) : Int) < 1) = false := by decide
        (have zx1 := @hkd; all_goals (try ((first | (with_reducible refine wp_id ?_) | (with_reducible refine does_id ?_) | (with_reducible refine ops_id ?_)); refine walk ?_; (repeat' (first | exact trivial | with_reducible refine And.intro ?_ ?_)); all_goals (repeat (first | (with_reducible refine ImpB.mk fun hb => ?_) | (with_reducible refine ImpK.mk fun hK => ?_) | (with_reducible refine ImpF.mk fun hF => ?_) | (with_reducible refine ImpQ.mk fun hp => ?_) | (with_reducible refine AllE.mk fun p => ?_) | (with_reducible refine AllR.mk fun rest => ?_) | (with_reducible refine AllK.mk fun K => ?_))))); repeat' (with_reducible refine And.intro ?_ ?_))
        refine ⟨_, _, (gh_frz (t := 5) (e := .tra) (xs := O) rfl ?f1b ?f2b).trans (gh_close (t := 0) (ts := [2, 3, 4]) (l := SD nw ⟨id, 0, kd, lo, hi, rep, ev, sev⟩ st' res' run' true a) ⟨⟨_, _, rfl⟩, ?fcb, by simp⟩), [0, 1], rfl, ?ftb⟩
        case' ftb => (refine fitq ?_ ?_ ?_ <;> try exact trivial)
        case' fcb => simp only [go_sem, decide_true, decide_false, Int.reduceToNat, Nat.min_eq_left, Nat.min_eq_right, Int.reducePow, Nat.reducePow, Int.reduceLE, Int.reduceLT, Int.reduceMul, Int.reduceAdd, Int.reduceSub, Int.reduceNeg, Bool.not_true, Bool.not_false, Bool.not_not, ↓reduceIte, Nat.reduceAdd, Nat.reduceSub, Nat.reduceMul, Nat.reduceEqDiff, reduceCtorEq, Nat.reduceLT, Nat.reduceLeDiff, Nat.reduceGT]
        case' f1b => simp only [go_sem, decide_true, decide_false, Int.reduceToNat, Nat.min_eq_left, Nat.min_eq_right, Int.reducePow, Nat.reducePow, Int.reduceLE, Int.reduceLT, Int.reduceMul, Int.reduceAdd, Int.reduceSub, Int.reduceNeg, Bool.not_true, Bool.not_false, Bool.not_not, ↓reduceIte, Nat.reduceAdd, Nat.reduceSub, Nat.reduceMul, Nat.reduceEqDiff, reduceCtorEq, Nat.reduceLT, Nat.reduceLeDiff, Nat.reduceGT]
        case' f2b => simp only [go_sem, decide_true, decide_false, Int.reduceToNat, Nat.min_eq_left, Nat.min_eq_right, Int.reducePow, Nat.reducePow, Int.reduceLE, Int.reduceLT, Int.reduceMul, Int.reduceAdd, Int.reduceSub, Int.reduceNeg, Bool.not_true, Bool.not_false, Bool.not_not, ↓reduceIte, Nat.reduceAdd, Nat.reduceSub, Nat.reduceMul, Nat.reduceEqDiff, reduceCtorEq, Nat.reduceLT, Nat.reduceLeDiff, Nat.reduceGT]
        all_goals first | exact Nat.le_refl _ | exact ⟨Nat.le_refl _, False.elim⟩ | exact False.elim | (repeat' (first | (refine And.intro ?_ ?_) | rfl | exact False.elim | exact Nat.le_refl _))
theorem c_mcheckD {h : List Ch} {K : KT} {u p : Nat} {now n : Int} {id kd lo hi rep ev sev st res run a b last : Int} {bg t : Bool} {st' res' run' : Int} (H : K (.ro .tra (if t then [⟨nowQ now n, id, st, st', a⟩] else [])) ((h.set u (.pack (SD (nowQ now n) ⟨id, 0, kd, lo, hi, rep, ev, sev⟩ st' res' run' true a))).set p (.pack (PO a b)))) (o : hth h u = .pack (SD now ⟨id, 0, kd, lo, hi, rep, ev, sev⟩ st res run bg last)) (o1 : hth h p = .pack (PO a b)) (e : fdR rep st res run (rsD hi bg last a) = (t, st', res', run')) (e1 : inS a = true) (e2 : inS last = true) (s1 : 0 ≤ run ∧ run ≤ 1000000) (s2 : u ≠ p) : Does Try.prog 12 [.ptr u 0, .int .i64 n, .ptr p 0] h K :=
  frame_two0 (b_mcheckD now n id kd lo hi rep ev sev st res run a b last bg t st' res' run' s1 e e1 e2) o o1 s2 (by simp) (by simp) (fitC_pack _) (fitC_pack _) (br_cons (br_ptr rfl) (br_cons br_int (br_cons (br_ptr rfl) br_nil))) rfl (fun _ => rfl) (fun _ => rfl) (by cases t <;> rfl) H
abbrev i_mcheckD := Ctr.mk (i := 1) (g := 12) @c_mcheckD
attribute [instance] i_mcheckD
end Go.V
