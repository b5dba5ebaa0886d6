/-
  The engine: Load.
  A sequence's run, for steps without comparisons.
  The engine: Tick.
-/
import Derived.Test.YtpnfoffggcfhfaaPart15
set_option linter.unusedVariables false
set_option linter.unusedSimpArgs false
set_option maxRecDepth 100000
set_option maxHeartbeats 8000000
namespace Go.V
open Go.Proofs
/-- a sequence as it is stored -/
abbrev mkP (id res : Int) (l : List Stp) : Prg := ⟨id, res, l, false, 0, false, 0⟩
/-- Load: the answer, and what is left -/
def ldQ (L : List Prg) (id res : Int) (l : List Stp) : Int × List Prg :=
  if ¬ (0 ≤ id ∧ id ≤ 65535 ∧ 0 ≤ res ∧ res ≤ 65535) then (1, L) else if vldQ l = false then (4, L) else
  if fnB L id then (if (atP L id).run then (12, L) else (0, L.set (fnI L id) (mkP id res l))) else
  if 256 ≤ L.length then (7, L) else (0, L.take (fnI L id) ++ mkP id res l :: L.drop (fnI L id))
theorem fn_le {L : List Prg} {id : Int} : fnI L id ≤ L.length := List.Sublist.length_le (List.takeWhile_sublist _)
theorem b_eLoad (now : Int) (L : List Prg) (id res : Int) (l : List Stp) (hL : L.length ≤ 1000000) (ha : litQ l) (hs : smQ l) : DoesK Try.prog 1 12 [.ptr 0 0, .int .i64 id, .int .i64 res, .ro .stp l] [.pack (EN now L)] (EndF 1 (.int .i64 (ldQ L id res l).1) ([.pack (EN now (ldQ L id res l).2)] ++ [])) := by
  refine DoesK.close ?_
  have hll : l.length ≤ 9223372036854775807 := by have := hs.1; omega
  unfold ldQ
  by_cases c1 : 0 ≤ id ∧ id ≤ 65535 ∧ 0 ≤ res ∧ res ≤ 65535
  · rw [if_neg (fun q => q c1)]
    obtain ⟨x1, x2, x3, x4⟩ := c1
    have d1 : decide (id < 0) = false := decide_eq_false (by omega)
    have d2 : decide (65535 < id) = false := decide_eq_false (by omega)
    have d3 : decide (res < 0) = false := decide_eq_false (by omega)
    have d4 : decide (65535 < res) = false := decide_eq_false (by omega)
    cases c2 : vldQ l
    · rw [if_pos rfl]
      refine w_body (rs := [.tmp 8]) (tm := [.ptr 0 0, .int .i64 id, .int .i64 res, .ro .stp l, .any, .any, .any, .any, .any, .any, .any, .any, .any, .any, .any, .any, .any, .any, .any, .any, .any, .any, .any, .any, .any, .any, .any, .any, .any, .any, .any, .any, .any, .any, .any, .any, .any, .any, .any, .any, .any, .any, .any, .any, .any, .any, .any, .any, .any, .any, .any, .any, .any, .any, .any, .any, .any, .any, .any, .any, .any, .any, .any, .any, .any, .any, .any, .any, .any, .any, .any, .any, .any, .any, .any, .any, .any, .any, .any, .any, .any, .any, .any]) fn_12 rfl rfl rfl rfl fun R hR => ?_
      (have zx1 := @d1; have zx2 := @d2; have zx3 := @d3; have zx4 := @d4; have zx5 := @c2; all_goals (try ((first | (with_reducible refine wp_id ?_) | (with_reducible refine does_id ?_) | (with_reducible refine ops_id ?_)); refine walk ?_; (repeat' (first | exact trivial | with_reducible refine And.intro ?_ ?_)); all_goals (repeat (first | (with_reducible refine ImpB.mk fun hb => ?_) | (with_reducible refine ImpK.mk fun hK => ?_) | (with_reducible refine ImpF.mk fun hF => ?_) | (with_reducible refine ImpQ.mk fun hp => ?_) | (with_reducible refine AllE.mk fun p => ?_) | (with_reducible refine AllR.mk fun rest => ?_) | (with_reducible refine AllK.mk fun K => ?_))))); repeat' (with_reducible refine And.intro ?_ ?_))
      (focus (refine ⟨_, _, Gh.refl, [0], rfl, ?_⟩; (refine fitq ?_ ?_ ?_ <;> try exact trivial); (try any_goals (refine ⟨?_, ?_⟩)); (try any_goals (with_reducible rfl))))
      all_goals (repeat' (first | (refine And.intro ?_ ?_) | (with_reducible rfl) | rfl))
    · rw [if_neg (by decide)]
      obtain ⟨i, hi⟩ : ∃ i, fnI L id = i := ⟨_, rfl⟩
      cases hb1 : fnB L id
      · rw [if_neg (by decide)]
        have hile := fn_le (L := L) (id := id)
        rw [hi] at hile
        by_cases c3 : 256 ≤ L.length
        · have d5 : decide ((256 : Int) ≤ L.length) = true := decide_eq_true (by omega)
          rw [if_pos c3]
          refine w_body (rs := [.tmp 8]) (tm := [.ptr 0 0, .int .i64 id, .int .i64 res, .ro .stp l, .any, .any, .any, .any, .any, .any, .any, .any, .any, .any, .any, .any, .any, .any, .any, .any, .any, .any, .any, .any, .any, .any, .any, .any, .any, .any, .any, .any, .any, .any, .any, .any, .any, .any, .any, .any, .any, .any, .any, .any, .any, .any, .any, .any, .any, .any, .any, .any, .any, .any, .any, .any, .any, .any, .any, .any, .any, .any, .any, .any, .any, .any, .any, .any, .any, .any, .any, .any, .any, .any, .any, .any, .any, .any, .any, .any, .any, .any, .any]) fn_12 rfl rfl rfl rfl fun R hR => ?_
          (have zx1 := @d1; have zx2 := @d2; have zx3 := @d3; have zx4 := @d4; have zx5 := @c2; have zx6 := @hi; have zx7 := @hb1; have zx8 := @d5; all_goals (try ((first | (with_reducible refine wp_id ?_) | (with_reducible refine does_id ?_) | (with_reducible refine ops_id ?_)); refine walk ?_; (repeat' (first | exact trivial | with_reducible refine And.intro ?_ ?_)); all_goals (repeat (first | (with_reducible refine ImpB.mk fun hb => ?_) | (with_reducible refine ImpK.mk fun hK => ?_) | (with_reducible refine ImpF.mk fun hF => ?_) | (with_reducible refine ImpQ.mk fun hp => ?_) | (with_reducible refine AllE.mk fun p => ?_) | (with_reducible refine AllR.mk fun rest => ?_) | (with_reducible refine AllK.mk fun K => ?_))))); repeat' (with_reducible refine And.intro ?_ ?_))
          (focus (refine ⟨_, _, gh_close (t := 0) (ts := [1]) (l := EN now L) ⟨⟨_, _, rfl⟩, ?_, by simp⟩, [0], rfl, ?_⟩; all_goals (refine fitq ?_ ?_ ?_ <;> try exact trivial); (try any_goals (refine ⟨?_, ?_⟩)); (try any_goals (with_reducible rfl))))
          all_goals (repeat' (first | (refine And.intro ?_ ?_) | (with_reducible rfl) | rfl))
        · have d5 : decide ((256 : Int) ≤ L.length) = false := decide_eq_false (by omega)
          rw [if_neg c3, hi]
          refine w_body (rs := [.tmp 8]) (tm := [.ptr 0 0, .int .i64 id, .int .i64 res, .ro .stp l, .any, .any, .any, .any, .any, .any, .any, .any, .any, .any, .any, .any, .any, .any, .any, .any, .any, .any, .any, .any, .any, .any, .any, .any, .any, .any, .any, .any, .any, .any, .any, .any, .any, .any, .any, .any, .any, .any, .any, .any, .any, .any, .any, .any, .any, .any, .any, .any, .any, .any, .any, .any, .any, .any, .any, .any, .any, .any, .any, .any, .any, .any, .any, .any, .any, .any, .any, .any, .any, .any, .any, .any, .any, .any, .any, .any, .any, .any, .any]) fn_12 rfl rfl rfl rfl fun R hR => ?_
          (have zx1 := @d1; have zx2 := @d2; have zx3 := @d3; have zx4 := @d4; have zx5 := @c2; have zx6 := @hi; have zx7 := @hb1; have zx8 := @d5; all_goals (try ((first | (with_reducible refine wp_id ?_) | (with_reducible refine does_id ?_) | (with_reducible refine ops_id ?_)); refine walk ?_; (repeat' (first | exact trivial | with_reducible refine And.intro ?_ ?_)); all_goals (repeat (first | (with_reducible refine ImpB.mk fun hb => ?_) | (with_reducible refine ImpK.mk fun hK => ?_) | (with_reducible refine ImpF.mk fun hF => ?_) | (with_reducible refine ImpQ.mk fun hp => ?_) | (with_reducible refine AllE.mk fun p => ?_) | (with_reducible refine AllR.mk fun rest => ?_) | (with_reducible refine AllK.mk fun K => ?_))))); repeat' (with_reducible refine And.intro ?_ ?_))
          all_goals first | omega | skip
          (focus (refine ⟨_, _, gh_close (t := 0) (ts := [4]) (l := EN now (L.take i ++ mkP id res l :: L.drop i)) ⟨⟨_, _, rfl⟩, ?_, by simp⟩, [0], rfl, ?_⟩; all_goals (refine fitq ?_ ?_ ?_ <;> try exact trivial); (try any_goals (refine ⟨?_, ?_⟩)); (try any_goals (with_reducible rfl))))
          all_goals (repeat' (first | (refine And.intro ?_ ?_) | rfl | (simp only [List.length_drop]; omega)))
      · have hlt := fn_lt hb1
        rw [if_pos rfl]
        unfold atP
        rw [hi] at hlt ⊢
        obtain ⟨x, hxe⟩ : ∃ x, L.getD i Prg.zero = x := ⟨_, rfl⟩
        rw [hxe]
        cases hr : x.run
        · rw [if_neg (by decide)]
          refine w_body (rs := [.tmp 8]) (tm := [.ptr 0 0, .int .i64 id, .int .i64 res, .ro .stp l, .any, .any, .any, .any, .any, .any, .any, .any, .any, .any, .any, .any, .any, .any, .any, .any, .any, .any, .any, .any, .any, .any, .any, .any, .any, .any, .any, .any, .any, .any, .any, .any, .any, .any, .any, .any, .any, .any, .any, .any, .any, .any, .any, .any, .any, .any, .any, .any, .any, .any, .any, .any, .any, .any, .any, .any, .any, .any, .any, .any, .any, .any, .any, .any, .any, .any, .any, .any, .any, .any, .any, .any, .any, .any, .any, .any, .any, .any, .any]) fn_12 rfl rfl rfl rfl fun R hR => ?_
          (have zx1 := @d1; have zx2 := @d2; have zx3 := @d3; have zx4 := @d4; have zx5 := @c2; have zx6 := @hi; have zx7 := @hb1; have zx8 := @hxe; have zx9 := @hr; all_goals (try ((first | (with_reducible refine wp_id ?_) | (with_reducible refine does_id ?_) | (with_reducible refine ops_id ?_)); refine walk ?_; (repeat' (first | exact trivial | with_reducible refine And.intro ?_ ?_)); all_goals (repeat (first | (with_reducible refine ImpB.mk fun hb => ?_) | (with_reducible refine ImpK.mk fun hK => ?_) | (with_reducible refine ImpF.mk fun hF => ?_) | (with_reducible refine ImpQ.mk fun hp => ?_) | (with_reducible refine AllE.mk fun p => ?_) | (with_reducible refine AllR.mk fun rest => ?_) | (with_reducible refine AllK.mk fun K => ?_))))); repeat' (with_reducible refine And.intro ?_ ?_))
          all_goals first | omega | skip
          (focus (refine ⟨_, _, gh_close (t := 0) (ts := [1]) (l := EN now (L.set i (mkP id res l))) ⟨⟨_, _, rfl⟩, ?_, by simp⟩, [0], rfl, ?_⟩; all_goals (refine fitq ?_ ?_ ?_ <;> try exact trivial); (try any_goals (refine ⟨?_, ?_⟩)); (try any_goals (with_reducible rfl))))
          all_goals (repeat' (first | (refine And.intro ?_ ?_) | (with_reducible rfl) | rfl))
        · rw [if_pos rfl]
          refine w_body (rs := [.tmp 8]) (tm := [.ptr 0 0, .int .i64 id, .int .i64 res, .ro .stp l, .any, .any, .any, .any, .any, .any, .any, .any, .any, .any, .any, .any, .any, .any, .any, .any, .any, .any, .any, .any, .any, .any, .any, .any, .any, .any, .any, .any, .any, .any, .any, .any, .any, .any, .any, .any, .any, .any, .any, .any, .any, .any, .any, .any, .any, .any, .any, .any, .any, .any, .any, .any, .any, .any, .any, .any, .any, .any, .any, .any, .any, .any, .any, .any, .any, .any, .any, .any, .any, .any, .any, .any, .any, .any, .any, .any, .any, .any, .any]) fn_12 rfl rfl rfl rfl fun R hR => ?_
          (have zx1 := @d1; have zx2 := @d2; have zx3 := @d3; have zx4 := @d4; have zx5 := @c2; have zx6 := @hi; have zx7 := @hb1; have zx8 := @hxe; have zx9 := @hr; all_goals (try ((first | (with_reducible refine wp_id ?_) | (with_reducible refine does_id ?_) | (with_reducible refine ops_id ?_)); refine walk ?_; (repeat' (first | exact trivial | with_reducible refine And.intro ?_ ?_)); all_goals (repeat (first | (with_reducible refine ImpB.mk fun hb => ?_) | (with_reducible refine ImpK.mk fun hK => ?_) | (with_reducible refine ImpF.mk fun hF => ?_) | (with_reducible refine ImpQ.mk fun hp => ?_) | (with_reducible refine AllE.mk fun p => ?_) | (with_reducible refine AllR.mk fun rest => ?_) | (with_reducible refine AllK.mk fun K => ?_))))); repeat' (with_reducible refine And.intro ?_ ?_))
          all_goals first | omega | skip
          (focus (refine ⟨_, _, gh_close (t := 0) (ts := [1]) (l := EN now L) ⟨⟨_, _, rfl⟩, ?_, by simp⟩, [0], rfl, ?_⟩; all_goals (refine fitq ?_ ?_ ?_ <;> try exact trivial); (try any_goals (refine ⟨?_, ?_⟩)); (try any_goals (with_reducible rfl))))
          all_goals (repeat' (first | (refine And.intro ?_ ?_) | (with_reducible rfl) | rfl))
  · rw [if_pos c1]
    by_cases x1 : id < 0
    · have d1 : decide (id < 0) = true := decide_eq_true x1
      refine w_body (rs := [.tmp 8]) (tm := [.ptr 0 0, .int .i64 id, .int .i64 res, .ro .stp l, .any, .any, .any, .any, .any, .any, .any, .any, .any, .any, .any, .any, .any, .any, .any, .any, .any, .any, .any, .any, .any, .any, .any, .any, .any, .any, .any, .any, .any, .any, .any, .any, .any, .any, .any, .any, .any, .any, .any, .any, .any, .any, .any, .any, .any, .any, .any, .any, .any, .any, .any, .any, .any, .any, .any, .any, .any, .any, .any, .any, .any, .any, .any, .any, .any, .any, .any, .any, .any, .any, .any, .any, .any, .any, .any, .any, .any, .any, .any]) fn_12 rfl rfl rfl rfl fun R hR => ?_
      (have zx1 := @d1; all_goals (try ((first | (with_reducible refine wp_id ?_) | (with_reducible refine does_id ?_) | (with_reducible refine ops_id ?_)); refine walk ?_; (repeat' (first | exact trivial | with_reducible refine And.intro ?_ ?_)); all_goals (repeat (first | (with_reducible refine ImpB.mk fun hb => ?_) | (with_reducible refine ImpK.mk fun hK => ?_) | (with_reducible refine ImpF.mk fun hF => ?_) | (with_reducible refine ImpQ.mk fun hp => ?_) | (with_reducible refine AllE.mk fun p => ?_) | (with_reducible refine AllR.mk fun rest => ?_) | (with_reducible refine AllK.mk fun K => ?_))))); repeat' (with_reducible refine And.intro ?_ ?_))
      (focus (refine ⟨_, _, Gh.refl, [0], rfl, ?_⟩; (refine fitq ?_ ?_ ?_ <;> try exact trivial); (try any_goals (refine ⟨?_, ?_⟩)); (try any_goals (with_reducible rfl))))
      all_goals (repeat' (first | (refine And.intro ?_ ?_) | (with_reducible rfl) | rfl))
    have d1 : decide (id < 0) = false := decide_eq_false x1
    by_cases x2 : 65535 < id
    · have d2 : decide (65535 < id) = true := decide_eq_true x2
      refine w_body (rs := [.tmp 8]) (tm := [.ptr 0 0, .int .i64 id, .int .i64 res, .ro .stp l, .any, .any, .any, .any, .any, .any, .any, .any, .any, .any, .any, .any, .any, .any, .any, .any, .any, .any, .any, .any, .any, .any, .any, .any, .any, .any, .any, .any, .any, .any, .any, .any, .any, .any, .any, .any, .any, .any, .any, .any, .any, .any, .any, .any, .any, .any, .any, .any, .any, .any, .any, .any, .any, .any, .any, .any, .any, .any, .any, .any, .any, .any, .any, .any, .any, .any, .any, .any, .any, .any, .any, .any, .any, .any, .any, .any, .any, .any, .any]) fn_12 rfl rfl rfl rfl fun R hR => ?_
      (have zx1 := @d1; have zx2 := @d2; all_goals (try ((first | (with_reducible refine wp_id ?_) | (with_reducible refine does_id ?_) | (with_reducible refine ops_id ?_)); refine walk ?_; (repeat' (first | exact trivial | with_reducible refine And.intro ?_ ?_)); all_goals (repeat (first | (with_reducible refine ImpB.mk fun hb => ?_) | (with_reducible refine ImpK.mk fun hK => ?_) | (with_reducible refine ImpF.mk fun hF => ?_) | (with_reducible refine ImpQ.mk fun hp => ?_) | (with_reducible refine AllE.mk fun p => ?_) | (with_reducible refine AllR.mk fun rest => ?_) | (with_reducible refine AllK.mk fun K => ?_))))); repeat' (with_reducible refine And.intro ?_ ?_))
      (focus (refine ⟨_, _, Gh.refl, [0], rfl, ?_⟩; (refine fitq ?_ ?_ ?_ <;> try exact trivial); (try any_goals (refine ⟨?_, ?_⟩)); (try any_goals (with_reducible rfl))))
      all_goals (repeat' (first | (refine And.intro ?_ ?_) | (with_reducible rfl) | rfl))
    have d2 : decide (65535 < id) = false := decide_eq_false x2
    by_cases x3 : res < 0
    · have d3 : decide (res < 0) = true := decide_eq_true x3
      refine w_body (rs := [.tmp 8]) (tm := [.ptr 0 0, .int .i64 id, .int .i64 res, .ro .stp l, .any, .any, .any, .any, .any, .any, .any, .any, .any, .any, .any, .any, .any, .any, .any, .any, .any, .any, .any, .any, .any, .any, .any, .any, .any, .any, .any, .any, .any, .any, .any, .any, .any, .any, .any, .any, .any, .any, .any, .any, .any, .any, .any, .any, .any, .any, .any, .any, .any, .any, .any, .any, .any, .any, .any, .any, .any, .any, .any, .any, .any, .any, .any, .any, .any, .any, .any, .any, .any, .any, .any, .any, .any, .any, .any, .any, .any, .any, .any]) fn_12 rfl rfl rfl rfl fun R hR => ?_
      (have zx1 := @d1; have zx2 := @d2; have zx3 := @d3; all_goals (try ((first | (with_reducible refine wp_id ?_) | (with_reducible refine does_id ?_) | (with_reducible refine ops_id ?_)); refine walk ?_; (repeat' (first | exact trivial | with_reducible refine And.intro ?_ ?_)); all_goals (repeat (first | (with_reducible refine ImpB.mk fun hb => ?_) | (with_reducible refine ImpK.mk fun hK => ?_) | (with_reducible refine ImpF.mk fun hF => ?_) | (with_reducible refine ImpQ.mk fun hp => ?_) | (with_reducible refine AllE.mk fun p => ?_) | (with_reducible refine AllR.mk fun rest => ?_) | (with_reducible refine AllK.mk fun K => ?_))))); repeat' (with_reducible refine And.intro ?_ ?_))
      (focus (refine ⟨_, _, Gh.refl, [0], rfl, ?_⟩; (refine fitq ?_ ?_ ?_ <;> try exact trivial); (try any_goals (refine ⟨?_, ?_⟩)); (try any_goals (with_reducible rfl))))
      all_goals (repeat' (first | (refine And.intro ?_ ?_) | (with_reducible rfl) | rfl))
    have d3 : decide (res < 0) = false := decide_eq_false x3
    have d4 : decide (65535 < res) = true := decide_eq_true (by omega)
    refine w_body (rs := [.tmp 8]) (tm := [.ptr 0 0, .int .i64 id, .int .i64 res, .ro .stp l, .any, .any, .any, .any, .any, .any, .any, .any, .any, .any, .any, .any, .any, .any, .any, .any, .any, .any, .any, .any, .any, .any, .any, .any, .any, .any, .any, .any, .any, .any, .any, .any, .any, .any, .any, .any, .any, .any, .any, .any, .any, .any, .any, .any, .any, .any, .any, .any, .any, .any, .any, .any, .any, .any, .any, .any, .any, .any, .any, .any, .any, .any, .any, .any, .any, .any, .any, .any, .any, .any, .any, .any, .any, .any, .any, .any, .any, .any, .any]) fn_12 rfl rfl rfl rfl fun R hR => ?_
    (have zx1 := @d1; have zx2 := @d2; have zx3 := @d3; have zx4 := @d4; all_goals (try ((first | (with_reducible refine wp_id ?_) | (with_reducible refine does_id ?_) | (with_reducible refine ops_id ?_)); refine walk ?_; (repeat' (first | exact trivial | with_reducible refine And.intro ?_ ?_)); all_goals (repeat (first | (with_reducible refine ImpB.mk fun hb => ?_) | (with_reducible refine ImpK.mk fun hK => ?_) | (with_reducible refine ImpF.mk fun hF => ?_) | (with_reducible refine ImpQ.mk fun hp => ?_) | (with_reducible refine AllE.mk fun p => ?_) | (with_reducible refine AllR.mk fun rest => ?_) | (with_reducible refine AllK.mk fun K => ?_))))); repeat' (with_reducible refine And.intro ?_ ?_))
    (focus (refine ⟨_, _, Gh.refl, [0], rfl, ?_⟩; (refine fitq ?_ ?_ ?_ <;> try exact trivial); (try any_goals (refine ⟨?_, ?_⟩)); (try any_goals (with_reducible rfl))))
    all_goals (repeat' (first | (refine And.intro ?_ ?_) | (with_reducible rfl) | rfl))
theorem c_eLoad {h : List Ch} {K : KT} {u : Nat} {now : Int} {L : List Prg} {id res : Int} {l : List Stp} {a : AV} (H : K (.int .i64 (ldQ L id res l).1) (h.set u (.pack (EN now (ldQ L id res l).2)))) (o : hth h u = .pack (EN now L)) (q1 : isRO .stp l a) (s1 : L.length ≤ 1000000) (s2 : litQ l) (s3 : smQ l) : Does Try.prog 12 [.ptr u 0, .int .i64 id, .int .i64 res, a] h K :=
  frame_obj0 (b_eLoad now L id res l s1 s2 s3) o (by simp) (fitC_pack _) (br_cons (br_ptr rfl) (br_cons br_int (br_cons br_int (br_cons q1.br br_nil)))) (.inl (by have t := q1.brT; simp [brTL, brT] at t ⊢; exact t)) (fun _ => rfl) rfl H
end Go.V

set_option maxRecDepth 100000
set_option maxHeartbeats 8000000
namespace Go.V
open Go Go.Proofs
theorem w_scopeL {P : Program} {k : Nat} {tm : List AV} {h : List Ch} {q : Post} {c b : Code} {A : Type} (l : Nat) (inv : A → Prop) (mu : A → Nat) (live : A → List (Nat × AV)) (heap : A → List Ch) {ws : List Nat} {tk : List AV} (hw : writes c = ws) (ht : killT tm ws = tk)
    (hf : findLabel c l = some (.seq .skip b)) (hx : ∀ i tm h, 1000000 ≤ i → q.x i tm h → False)
    (HB : ∀ (x : A) (E : List AV → List Ch → Prop) t, inv x → (∀ tm' h', Back k inv mu (fun x => liveT tk (live x)) heap x tm' h' → E tm' h') → liveT tk (live x) = t →
      Wp P k b t (heap x) ⟨q.n, fun i tm' h' => if i = l + 1000000 then E tm' h' else q.x i tm' h', q.r⟩)
    (H0 : ∀ q' : Post, q'.n = q.n → q'.r = q.r → (∀ x tm' h', inv x → At k (liveT tk (live x)) (heap x) tm' h' → Wp P k b tm' h' q') → Wp P k c tm h q') : Wp P k (.scope c) tm h q :=
  w_scope l inv mu (fun x => liveT tk (live x)) heap hf hx (fun x E h1 h2 => HB x E _ h1 h2 rfl) H0
/-- what a run of a sequence without comparisons leaves: whether it ended, where, whether and until when it waits, and what it sends -/
def rnR (now : Int) (l : List Stp) : Nat → Nat → Bool → Int → List Cmd → Bool × Nat × Bool × Int × List Cmd
  | 0, p, w, u, out => (false, p, w, u, out)
  | n + 1, p, w, u, out =>
    if p = l.length then (true, p, w, u, out) else
    if (l.getD p Stp.zero).kind = 1 then rnR now l n (p + 1) w u (out ++ [(l.getD p Stp.zero).c]) else
    if (l.getD p Stp.zero).kind = 2 then (if (if w then u else now + (l.getD p Stp.zero).ticks) ≤ now then rnR now l n (p + 1) false (if w then u else now + (l.getD p Stp.zero).ticks) out else (false, p, true, (if w then u else now + (l.getD p Stp.zero).ticks), out)) else
    if (l.getD p Stp.zero).kind = 5 then rnR now l n (l.getD p Stp.zero).next.toNat w u out else (true, p, w, u, out)
/-- steps without comparisons -/
def plainQ (l : List Stp) : Prop := l.length ≤ 1000000 ∧ ∀ s ∈ l, (s.kind = 1 ∨ s.kind = 2 ∨ s.kind = 5 ∨ s.kind = 6) ∧ (s.kind = 5 → 0 ≤ s.next ∧ s.next ≤ l.length) ∧ (0 ≤ s.ticks ∧ s.ticks ≤ 1099511627776) ∧ s.c.args.length ≤ 1000000 ∧ s.c.data.length ≤ 1000000
abbrev rnP (x : Prg) (r : Bool × Nat × Bool × Int × List Cmd) : Prg := ⟨x.id, x.res, x.steps, x.run && !r.1, r.2.1, r.2.2.1, r.2.2.2.1⟩
abbrev rnO (r : Bool × Nat × Bool × Int × List Cmd) : List Cmd := r.2.2.2.2
theorem b_qrun (now : Int) (L : List Prg) (i : Nat) (x : Prg) (p0 : Nat) (hlt : i < L.length) (hxe : L.getD i Prg.zero = ⟨x.id, x.res, x.steps, x.run, p0, x.wt, x.unt⟩) (hs : plainQ x.steps) (hp : p0 ≤ x.steps.length) (hn0 : 0 ≤ now) (hn1 : now ≤ 1099511627776) :
    DoesK Try.prog 1 33 [.ep 0 .prg i 0, .int .i64 now, .any] [.rows .prg L] (EndF 1 (.ro .cmd (rnO (rnR now x.steps 16 p0 x.wt x.unt []))) ([.rows .prg (L.set i (rnP x (rnR now x.steps 16 p0 x.wt x.unt [])))] ++ [])) := by
  refine DoesK.close ?_
  obtain ⟨xid, xres, l, run, xp, w0, u0⟩ := x
  dsimp only at hxe hs hp ⊢
  obtain ⟨T, hT⟩ : ∃ T, rnR now l 16 p0 w0 u0 [] = T := ⟨_, rfl⟩
  rw [hT]
  obtain ⟨hl, hall⟩ := hs
  have hs1 : ∀ a : Prg, (L.set i a).getD i Prg.zero = a := fun a => by rw [List.getD_eq_getElem?_getD, List.getElem?_set_self hlt]; rfl
  have hs2 : ∀ a b : Prg, (L.set i a).set i b = L.set i b := fun a b => List.set_set ..
  have hL0 : L = L.set i ⟨xid, xres, l, run, p0, w0, u0⟩ := by
    rw [← hxe, List.getD_eq_getElem?_getD, List.getElem?_eq_getElem hlt]
    exact (List.set_getElem_self hlt).symm
  have hln : ∀ a : Prg, (L.set i a).length = L.length := fun a => List.length_set ..
  refine w_body (rs := [.tmp 6]) (tm := [.ep 0 .prg i 0, .int .i64 now, .any, .any, .any, .any, .any, .any, .any, .any, .any, .any, .any, .any, .any, .any, .any, .any, .any, .any, .any, .any, .any, .any, .any, .any, .any, .any, .any, .any, .any, .any, .any, .any, .any, .any, .any, .any, .any, .any, .any, .any, .any, .any, .any, .any, .any, .any, .any, .any, .any, .any, .any, .any, .any, .any, .any, .any, .any, .any, .any, .any, .any, .any, .any, .any, .any, .any, .any, .any, .any, .any, .any, .any, .any, .any, .any, .any, .any, .any, .any, .any, .any, .any, .any, .any, .any, .any, .any, .any, .any, .any, .any, .any, .any, .any, .any, .any, .any, .any, .any, .any, .any, .any, .any, .any, .any, .any, .any, .any, .any, .any, .any, .any, .any, .any, .any, .any, .any, .any, .any, .any, .any, .any, .any, .any, .any, .any, .any, .any, .any, .any, .any, .any, .any, .any, .any, .any, .any, .any, .any, .any, .any, .any]) fn_33 rfl rfl rfl rfl fun R hR => ?_
  refine w_seq fun K2 hk2 => ?_; have hq2 := Slot.mk hk2; clear hk2
  (all_goals (try ((first | (with_reducible refine wp_id ?_) | (with_reducible refine does_id ?_) | (with_reducible refine ops_id ?_)); refine walk ?_; (repeat' (first | exact trivial | with_reducible refine And.intro ?_ ?_)); all_goals (repeat (first | (with_reducible refine ImpB.mk fun hb => ?_) | (with_reducible refine ImpK.mk fun hK => ?_) | (with_reducible refine ImpF.mk fun hF => ?_) | (with_reducible refine ImpQ.mk fun hp => ?_) | (with_reducible refine AllE.mk fun p => ?_) | (with_reducible refine AllR.mk fun rest => ?_) | (with_reducible refine AllK.mk fun K => ?_))))); repeat' (with_reducible refine And.intro ?_ ?_))
  refine hq2.un _ _ ?_
  refine w_scopeL (A := Nat × Nat × Bool × Int × List Cmd) 0 (fun z => z.1 ≤ 16 ∧ z.2.2.2.2.length ≤ 16 - z.1 ∧ z.2.1 ≤ l.length ∧ rnR now l z.1 z.2.1 z.2.2.1 z.2.2.2.1 z.2.2.2.2 = T) (fun z => z.1) (fun z => [(7, .sl 1 .cmd 0 z.2.2.2.2.length), (8, .int .i64 z.1)]) (fun z => [.rows .prg (L.set i ⟨xid, xres, l, run, z.2.1, z.2.2.1, z.2.2.2.1⟩), .rows .cmd z.2.2.2.2]) (ws := ?ws) (tk := ?tk) ?hw ?ht rfl ?hx ?HB ?HS
  case hw => simp only [go_sem, decide_true, decide_false, Int.reduceToNat, Nat.min_eq_left, Nat.min_eq_right, Int.reducePow, Nat.reducePow, Int.reduceLE, Int.reduceLT, Int.reduceMul, Int.reduceAdd, Int.reduceSub, Int.reduceNeg, Bool.not_true, Bool.not_false, Bool.not_not, ↓reduceIte, Nat.reduceAdd, Nat.reduceSub, Nat.reduceMul, Nat.reduceEqDiff, reduceCtorEq, Nat.reduceLT, Nat.reduceLeDiff, Nat.reduceGT]; exact rfl
  case ht => simp only [go_sem, decide_true, decide_false, Int.reduceToNat, Nat.min_eq_left, Nat.min_eq_right, Int.reducePow, Nat.reducePow, Int.reduceLE, Int.reduceLT, Int.reduceMul, Int.reduceAdd, Int.reduceSub, Int.reduceNeg, Bool.not_true, Bool.not_false, Bool.not_not, ↓reduceIte, Nat.reduceAdd, Nat.reduceSub, Nat.reduceMul, Nat.reduceEqDiff, reduceCtorEq, Nat.reduceLT, Nat.reduceLeDiff, Nat.reduceGT]; exact rfl
  case hx => intro _ _ _ _ h; exact h
  case' HB => rintro ⟨n, p, w, u, out⟩ E t hx hE ht; simp only [go_sem] at ht; subst ht; simp only [go_sem]; try dsimp only at hx
  case HS =>
    intro q' hqn hqr hK0
    refine w_seq fun K2 hk2 => ?_; have hq2 := Slot.mk hk2; clear hk2
    (all_goals (try ((first | (with_reducible refine wp_id ?_) | (with_reducible refine does_id ?_) | (with_reducible refine ops_id ?_)); refine walk ?_; (repeat' (first | exact trivial | with_reducible refine And.intro ?_ ?_)); all_goals (repeat (first | (with_reducible refine ImpB.mk fun hb => ?_) | (with_reducible refine ImpK.mk fun hK => ?_) | (with_reducible refine ImpF.mk fun hF => ?_) | (with_reducible refine ImpQ.mk fun hp => ?_) | (with_reducible refine AllE.mk fun p => ?_) | (with_reducible refine AllR.mk fun rest => ?_) | (with_reducible refine AllK.mk fun K => ?_))))); repeat' (with_reducible refine And.intro ?_ ?_))
    refine hq2.un _ _ ?_
    refine Wp.ghost (gh_adopt (s := 7) .cmd trivial) ?_
    simp only [go_sem, decide_true, decide_false, Int.reduceToNat, Nat.min_eq_left, Nat.min_eq_right, Int.reducePow, Nat.reducePow, Int.reduceLE, Int.reduceLT, Int.reduceMul, Int.reduceAdd, Int.reduceSub, Int.reduceNeg, Bool.not_true, Bool.not_false, Bool.not_not, ↓reduceIte, Nat.reduceAdd, Nat.reduceSub, Nat.reduceMul, Nat.reduceEqDiff, reduceCtorEq, Nat.reduceLT, Nat.reduceLeDiff, Nat.reduceGT]
    refine w_seq fun K2 hk2 => ?_; have hq3 := Slot.mk hk2; clear hk2
    (all_goals (try ((first | (with_reducible refine wp_id ?_) | (with_reducible refine does_id ?_) | (with_reducible refine ops_id ?_)); refine walk ?_; (repeat' (first | exact trivial | with_reducible refine And.intro ?_ ?_)); all_goals (repeat (first | (with_reducible refine ImpB.mk fun hb => ?_) | (with_reducible refine ImpK.mk fun hK => ?_) | (with_reducible refine ImpF.mk fun hF => ?_) | (with_reducible refine ImpQ.mk fun hp => ?_) | (with_reducible refine AllE.mk fun p => ?_) | (with_reducible refine AllR.mk fun rest => ?_) | (with_reducible refine AllK.mk fun K => ?_))))); repeat' (with_reducible refine And.intro ?_ ?_))
    refine hq3.un _ _ ?_
    refine w_seq fun K2 hk2 => w_label (hk2 _ _ ?_)
    refine hK0 (16, p0, w0, u0, []) _ _ ⟨Nat.le_refl _, Nat.le_refl _, hp, hT⟩ ?_
    simp only [go_sem]
    rw [← hL0]
    (focus (refine ⟨_, _, Gh.refl, [0, 1], rfl, ?_⟩; (refine fitq ?_ ?_ ?_ <;> try exact trivial); (try any_goals (refine ⟨?_, ?_⟩)); (try any_goals (with_reducible rfl))))
    all_goals (repeat' (first | (refine And.intro ?_ ?_) | rfl | trace_state))
  case HB =>
    obtain ⟨hn, hol, hpl, hq⟩ := hx
    cases n with
    | zero =>
      have d0 : decide (((0 : Nat) : Int) = 0) = true := decide_eq_true rfl
      have hq' : (false, p, w, u, out) = T := hq
      (have zx1 := @d0; have zx2 := @hs1; have zx3 := @hs2; all_goals (try ((first | (with_reducible refine wp_id ?_) | (with_reducible refine does_id ?_) | (with_reducible refine ops_id ?_)); refine walk ?_; (repeat' (first | exact trivial | with_reducible refine And.intro ?_ ?_)); all_goals (repeat (first | (with_reducible refine ImpB.mk fun hb => ?_) | (with_reducible refine ImpK.mk fun hK => ?_) | (with_reducible refine ImpF.mk fun hF => ?_) | (with_reducible refine ImpQ.mk fun hp => ?_) | (with_reducible refine AllE.mk fun p => ?_) | (with_reducible refine AllR.mk fun rest => ?_) | (with_reducible refine AllK.mk fun K => ?_))))); repeat' (with_reducible refine And.intro ?_ ?_))
      all_goals first | exact Int.natCast_nonneg _ | omega | (rw [hln]; omega) | skip
      subst hq'
      dsimp only [rnP, rnO]
      try simp only [Bool.not_true, Bool.and_false, Bool.not_false, Bool.and_true]
      refine ⟨_, _, gh_frz (t := 1) (e := .cmd) (xs := out) rfl ?f1a ?f2a, [0], rfl, ?fta⟩
      case' fta => (refine fitq ?_ ?_ ?_ <;> try exact trivial)
      case' f1a => simp only [go_sem, decide_true, decide_false, Int.reduceToNat, Nat.min_eq_left, Nat.min_eq_right, Int.reducePow, Nat.reducePow, Int.reduceLE, Int.reduceLT, Int.reduceMul, Int.reduceAdd, Int.reduceSub, Int.reduceNeg, Bool.not_true, Bool.not_false, Bool.not_not, ↓reduceIte, Nat.reduceAdd, Nat.reduceSub, Nat.reduceMul, Nat.reduceEqDiff, reduceCtorEq, Nat.reduceLT, Nat.reduceLeDiff, Nat.reduceGT]
      case' f2a => simp only [go_sem, decide_true, decide_false, Int.reduceToNat, Nat.min_eq_left, Nat.min_eq_right, Int.reducePow, Nat.reducePow, Int.reduceLE, Int.reduceLT, Int.reduceMul, Int.reduceAdd, Int.reduceSub, Int.reduceNeg, Bool.not_true, Bool.not_false, Bool.not_not, ↓reduceIte, Nat.reduceAdd, Nat.reduceSub, Nat.reduceMul, Nat.reduceEqDiff, reduceCtorEq, Nat.reduceLT, Nat.reduceLeDiff, Nat.reduceGT]
      all_goals first | exact Nat.le_refl _ | exact ⟨Nat.le_refl _, False.elim⟩ | exact False.elim | (repeat' (first | (refine And.intro ?_ ?_) | rfl)) | trace_state
    | succ n =>
      have d0 : decide (((n + 1 : Nat) : Int) = 0) = false := decide_eq_false (by omega)
      have hw1 : IntKind.i64.wrap (((n + 1 : Nat) : Int) - 1) = (n : Int) := by rw [wrap_i64 _ (by omega) (by omega)]; omega
      by_cases c1 : p = l.length
      · have d1 : decide ((p : Int) = (l.length : Int)) = true := decide_eq_true (by omega)
        rw [rnR, if_pos c1] at hq
        (have zx1 := @d0; have zx2 := @d1; have zx3 := @hs1; have zx4 := @hs2; all_goals (try ((first | (with_reducible refine wp_id ?_) | (with_reducible refine does_id ?_) | (with_reducible refine ops_id ?_)); refine walk ?_; (repeat' (first | exact trivial | with_reducible refine And.intro ?_ ?_)); all_goals (repeat (first | (with_reducible refine ImpB.mk fun hb => ?_) | (with_reducible refine ImpK.mk fun hK => ?_) | (with_reducible refine ImpF.mk fun hF => ?_) | (with_reducible refine ImpQ.mk fun hp => ?_) | (with_reducible refine AllE.mk fun p => ?_) | (with_reducible refine AllR.mk fun rest => ?_) | (with_reducible refine AllK.mk fun K => ?_))))); repeat' (with_reducible refine And.intro ?_ ?_))
        all_goals first | exact Int.natCast_nonneg _ | omega | (rw [hln]; omega) | skip
        subst hq
        dsimp only [rnP, rnO]
        try simp only [Bool.not_true, Bool.and_false, Bool.not_false, Bool.and_true]
        refine ⟨_, _, gh_frz (t := 1) (e := .cmd) (xs := out) rfl ?f1b ?f2b, [0], rfl, ?ftb⟩
        case' ftb => (refine fitq ?_ ?_ ?_ <;> try exact trivial)
        case' f1b => simp only [go_sem, decide_true, decide_false, Int.reduceToNat, Nat.min_eq_left, Nat.min_eq_right, Int.reducePow, Nat.reducePow, Int.reduceLE, Int.reduceLT, Int.reduceMul, Int.reduceAdd, Int.reduceSub, Int.reduceNeg, Bool.not_true, Bool.not_false, Bool.not_not, ↓reduceIte, Nat.reduceAdd, Nat.reduceSub, Nat.reduceMul, Nat.reduceEqDiff, reduceCtorEq, Nat.reduceLT, Nat.reduceLeDiff, Nat.reduceGT]
        case' f2b => simp only [go_sem, decide_true, decide_false, Int.reduceToNat, Nat.min_eq_left, Nat.min_eq_right, Int.reducePow, Nat.reducePow, Int.reduceLE, Int.reduceLT, Int.reduceMul, Int.reduceAdd, Int.reduceSub, Int.reduceNeg, Bool.not_true, Bool.not_false, Bool.not_not, ↓reduceIte, Nat.reduceAdd, Nat.reduceSub, Nat.reduceMul, Nat.reduceEqDiff, reduceCtorEq, Nat.reduceLT, Nat.reduceLeDiff, Nat.reduceGT]
        all_goals first | exact Nat.le_refl _ | exact ⟨Nat.le_refl _, False.elim⟩ | exact False.elim | (repeat' (first | (refine And.intro ?_ ?_) | rfl)) | trace_state
      · have d1 : decide ((p : Int) = (l.length : Int)) = false := decide_eq_false (by omega)
        have hpl2 : p < l.length := by omega
        have hal := hall _ (gM hpl2)
        rw [rnR, if_neg c1] at hq
        obtain ⟨s, hse⟩ : ∃ s, l.getD p Stp.zero = s := ⟨_, rfl⟩
        rw [hse] at hal hq
        obtain ⟨hkd, hnx, ⟨htk0, htk1⟩, hz1, hz2⟩ := hal
        have hwp : IntKind.i64.wrap ((p : Int) + 1) = ((p + 1 : Nat) : Int) := by rw [wrap_i64 _ (by omega) (by omega)]; omega
        by_cases k1 : s.kind = 1
        · have e1 : decide (s.kind = 1) = true := decide_eq_true k1
          rw [if_pos k1] at hq
          (have zx1 := @d0; have zx2 := @d1; have zx3 := @hs1; have zx4 := @hs2; have zx5 := @hw1; have zx6 := @hse; have zx7 := @e1; have zx8 := @hwp; all_goals (try ((first | (with_reducible refine wp_id ?_) | (with_reducible refine does_id ?_) | (with_reducible refine ops_id ?_)); refine walk ?_; (repeat' (first | exact trivial | with_reducible refine And.intro ?_ ?_)); all_goals (repeat (first | (with_reducible refine ImpB.mk fun hb => ?_) | (with_reducible refine ImpK.mk fun hK => ?_) | (with_reducible refine ImpF.mk fun hF => ?_) | (with_reducible refine ImpQ.mk fun hp => ?_) | (with_reducible refine AllE.mk fun p => ?_) | (with_reducible refine AllR.mk fun rest => ?_) | (with_reducible refine AllK.mk fun K => ?_))))); repeat' (with_reducible refine And.intro ?_ ?_))
          all_goals first | exact Int.natCast_nonneg _ | omega | (rw [hln]; omega) | skip
          refine ⟨(n, p + 1, w, u, out ++ [s.c]), ⟨⟨by first | omega | (dsimp only; omega), by first | (dsimp only; omega) | (simp only [List.length_append, List.length_cons, List.length_nil]; omega), by first | omega | (dsimp only; omega), hq⟩, by first | omega | (dsimp only; omega)⟩, ?_⟩
          try dsimp only
          (focus (refine ⟨_, _, Gh.refl, [0, 3], rfl, ?_⟩; (refine fitq ?_ ?_ ?_ <;> try exact trivial); (try any_goals (refine ⟨?_, ?_⟩)); (try any_goals (with_reducible rfl))))
          all_goals (repeat' (first | (refine And.intro ?_ ?_) | rfl | (simp only [List.length_append, List.length_cons, List.length_nil]; done) | trace_state))
        · have e1 : decide (s.kind = 1) = false := decide_eq_false k1
          rw [if_neg k1] at hq
          by_cases k2 : s.kind = 2
          · have e2 : decide (s.kind = 2) = true := decide_eq_true k2
            rw [if_pos k2] at hq
            have hwt : IntKind.i64.wrap (now + s.ticks) = now + s.ticks := wrap_i64 _ (by omega) (by omega)
            cases w
            · simp only [Bool.false_eq_true, ↓reduceIte] at hq
              by_cases k3 : now + s.ticks ≤ now
              · have e3 : decide (now + s.ticks ≤ now) = true := decide_eq_true k3
                rw [if_pos k3] at hq
                (have zx1 := @d0; have zx2 := @d1; have zx3 := @hs1; have zx4 := @hs2; have zx5 := @hw1; have zx6 := @hse; have zx7 := @e1; have zx8 := @hwp; have zx9 := @e2; have zx10 := @e3; have zx11 := @hwt; all_goals (try ((first | (with_reducible refine wp_id ?_) | (with_reducible refine does_id ?_) | (with_reducible refine ops_id ?_)); refine walk ?_; (repeat' (first | exact trivial | with_reducible refine And.intro ?_ ?_)); all_goals (repeat (first | (with_reducible refine ImpB.mk fun hb => ?_) | (with_reducible refine ImpK.mk fun hK => ?_) | (with_reducible refine ImpF.mk fun hF => ?_) | (with_reducible refine ImpQ.mk fun hp => ?_) | (with_reducible refine AllE.mk fun p => ?_) | (with_reducible refine AllR.mk fun rest => ?_) | (with_reducible refine AllK.mk fun K => ?_))))); repeat' (with_reducible refine And.intro ?_ ?_))
                all_goals first | exact Int.natCast_nonneg _ | omega | (rw [hln]; omega) | skip
                refine ⟨(n, p + 1, false, now + s.ticks, out), ⟨⟨by first | omega | (dsimp only; omega), by first | (dsimp only; omega) | (simp only [List.length_append, List.length_cons, List.length_nil]; omega), by first | omega | (dsimp only; omega), hq⟩, by first | omega | (dsimp only; omega)⟩, ?_⟩
                try dsimp only
                (focus (refine ⟨_, _, Gh.refl, [0, 1], rfl, ?_⟩; (refine fitq ?_ ?_ ?_ <;> try exact trivial); (try any_goals (refine ⟨?_, ?_⟩)); (try any_goals (with_reducible rfl))))
                all_goals (repeat' (first | (refine And.intro ?_ ?_) | rfl | (simp only [List.length_append, List.length_cons, List.length_nil]; done) | trace_state))
              · have e3 : decide (now + s.ticks ≤ now) = false := decide_eq_false k3
                rw [if_neg k3] at hq
                (have zx1 := @d0; have zx2 := @d1; have zx3 := @hs1; have zx4 := @hs2; have zx5 := @hw1; have zx6 := @hse; have zx7 := @e1; have zx8 := @hwp; have zx9 := @e2; have zx10 := @e3; have zx11 := @hwt; all_goals (try ((first | (with_reducible refine wp_id ?_) | (with_reducible refine does_id ?_) | (with_reducible refine ops_id ?_)); refine walk ?_; (repeat' (first | exact trivial | with_reducible refine And.intro ?_ ?_)); all_goals (repeat (first | (with_reducible refine ImpB.mk fun hb => ?_) | (with_reducible refine ImpK.mk fun hK => ?_) | (with_reducible refine ImpF.mk fun hF => ?_) | (with_reducible refine ImpQ.mk fun hp => ?_) | (with_reducible refine AllE.mk fun p => ?_) | (with_reducible refine AllR.mk fun rest => ?_) | (with_reducible refine AllK.mk fun K => ?_))))); repeat' (with_reducible refine And.intro ?_ ?_))
                all_goals first | exact Int.natCast_nonneg _ | omega | (rw [hln]; omega) | skip
                subst hq
                dsimp only [rnP, rnO]
                try simp only [Bool.not_true, Bool.and_false, Bool.not_false, Bool.and_true]
                refine ⟨_, _, gh_frz (t := 1) (e := .cmd) (xs := out) rfl ?f1c ?f2c, [0], rfl, ?ftc⟩
                case' ftc => (refine fitq ?_ ?_ ?_ <;> try exact trivial)
                case' f1c => simp only [go_sem, decide_true, decide_false, Int.reduceToNat, Nat.min_eq_left, Nat.min_eq_right, Int.reducePow, Nat.reducePow, Int.reduceLE, Int.reduceLT, Int.reduceMul, Int.reduceAdd, Int.reduceSub, Int.reduceNeg, Bool.not_true, Bool.not_false, Bool.not_not, ↓reduceIte, Nat.reduceAdd, Nat.reduceSub, Nat.reduceMul, Nat.reduceEqDiff, reduceCtorEq, Nat.reduceLT, Nat.reduceLeDiff, Nat.reduceGT]
                case' f2c => simp only [go_sem, decide_true, decide_false, Int.reduceToNat, Nat.min_eq_left, Nat.min_eq_right, Int.reducePow, Nat.reducePow, Int.reduceLE, Int.reduceLT, Int.reduceMul, Int.reduceAdd, Int.reduceSub, Int.reduceNeg, Bool.not_true, Bool.not_false, Bool.not_not, ↓reduceIte, Nat.reduceAdd, Nat.reduceSub, Nat.reduceMul, Nat.reduceEqDiff, reduceCtorEq, Nat.reduceLT, Nat.reduceLeDiff, Nat.reduceGT]
                all_goals first | exact Nat.le_refl _ | exact ⟨Nat.le_refl _, False.elim⟩ | exact False.elim | (repeat' (first | (refine And.intro ?_ ?_) | rfl)) | trace_state
            · simp only [↓reduceIte] at hq
              by_cases k3 : u ≤ now
              · have e3 : decide (u ≤ now) = true := decide_eq_true k3
                rw [if_pos k3] at hq
                (have zx1 := @d0; have zx2 := @d1; have zx3 := @hs1; have zx4 := @hs2; have zx5 := @hw1; have zx6 := @hse; have zx7 := @e1; have zx8 := @hwp; have zx9 := @e2; have zx10 := @e3; all_goals (try ((first | (with_reducible refine wp_id ?_) | (with_reducible refine does_id ?_) | (with_reducible refine ops_id ?_)); refine walk ?_; (repeat' (first | exact trivial | with_reducible refine And.intro ?_ ?_)); all_goals (repeat (first | (with_reducible refine ImpB.mk fun hb => ?_) | (with_reducible refine ImpK.mk fun hK => ?_) | (with_reducible refine ImpF.mk fun hF => ?_) | (with_reducible refine ImpQ.mk fun hp => ?_) | (with_reducible refine AllE.mk fun p => ?_) | (with_reducible refine AllR.mk fun rest => ?_) | (with_reducible refine AllK.mk fun K => ?_))))); repeat' (with_reducible refine And.intro ?_ ?_))
                all_goals first | exact Int.natCast_nonneg _ | omega | (rw [hln]; omega) | skip
                refine ⟨(n, p + 1, false, u, out), ⟨⟨by first | omega | (dsimp only; omega), by first | (dsimp only; omega) | (simp only [List.length_append, List.length_cons, List.length_nil]; omega), by first | omega | (dsimp only; omega), hq⟩, by first | omega | (dsimp only; omega)⟩, ?_⟩
                try dsimp only
                (focus (refine ⟨_, _, Gh.refl, [0, 1], rfl, ?_⟩; (refine fitq ?_ ?_ ?_ <;> try exact trivial); (try any_goals (refine ⟨?_, ?_⟩)); (try any_goals (with_reducible rfl))))
                all_goals (repeat' (first | (refine And.intro ?_ ?_) | rfl | (simp only [List.length_append, List.length_cons, List.length_nil]; done) | trace_state))
              · have e3 : decide (u ≤ now) = false := decide_eq_false k3
                rw [if_neg k3] at hq
                (have zx1 := @d0; have zx2 := @d1; have zx3 := @hs1; have zx4 := @hs2; have zx5 := @hw1; have zx6 := @hse; have zx7 := @e1; have zx8 := @hwp; have zx9 := @e2; have zx10 := @e3; all_goals (try ((first | (with_reducible refine wp_id ?_) | (with_reducible refine does_id ?_) | (with_reducible refine ops_id ?_)); refine walk ?_; (repeat' (first | exact trivial | with_reducible refine And.intro ?_ ?_)); all_goals (repeat (first | (with_reducible refine ImpB.mk fun hb => ?_) | (with_reducible refine ImpK.mk fun hK => ?_) | (with_reducible refine ImpF.mk fun hF => ?_) | (with_reducible refine ImpQ.mk fun hp => ?_) | (with_reducible refine AllE.mk fun p => ?_) | (with_reducible refine AllR.mk fun rest => ?_) | (with_reducible refine AllK.mk fun K => ?_))))); repeat' (with_reducible refine And.intro ?_ ?_))
                all_goals first | exact Int.natCast_nonneg _ | omega | (rw [hln]; omega) | skip
                subst hq
                dsimp only [rnP, rnO]
                try simp only [Bool.not_true, Bool.and_false, Bool.not_false, Bool.and_true]
                refine ⟨_, _, gh_frz (t := 1) (e := .cmd) (xs := out) rfl ?f1d ?f2d, [0], rfl, ?ftd⟩
                case' ftd => (refine fitq ?_ ?_ ?_ <;> try exact trivial)
                case' f1d => simp only [go_sem, decide_true, decide_false, Int.reduceToNat, Nat.min_eq_left, Nat.min_eq_right, Int.reducePow, Nat.reducePow, Int.reduceLE, Int.reduceLT, Int.reduceMul, Int.reduceAdd, Int.reduceSub, Int.reduceNeg, Bool.not_true, Bool.not_false, Bool.not_not, ↓reduceIte, Nat.reduceAdd, Nat.reduceSub, Nat.reduceMul, Nat.reduceEqDiff, reduceCtorEq, Nat.reduceLT, Nat.reduceLeDiff, Nat.reduceGT]
                case' f2d => simp only [go_sem, decide_true, decide_false, Int.reduceToNat, Nat.min_eq_left, Nat.min_eq_right, Int.reducePow, Nat.reducePow, Int.reduceLE, Int.reduceLT, Int.reduceMul, Int.reduceAdd, Int.reduceSub, Int.reduceNeg, Bool.not_true, Bool.not_false, Bool.not_not, ↓reduceIte, Nat.reduceAdd, Nat.reduceSub, Nat.reduceMul, Nat.reduceEqDiff, reduceCtorEq, Nat.reduceLT, Nat.reduceLeDiff, Nat.reduceGT]
                all_goals first | exact Nat.le_refl _ | exact ⟨Nat.le_refl _, False.elim⟩ | exact False.elim | (repeat' (first | (refine And.intro ?_ ?_) | rfl)) | trace_state
          · have e2 : decide (s.kind = 2) = false := decide_eq_false k2
            rw [if_neg k2] at hq
            have e3 : decide (s.kind = 3) = false := decide_eq_false (by omega)
            have e4 : decide (s.kind = 4) = false := decide_eq_false (by omega)
            have e34 := And.intro e3 e4
            by_cases k5 : s.kind = 5
            · have e5 : decide (s.kind = 5) = true := decide_eq_true k5
              obtain ⟨hx0, hx1⟩ := hnx k5
              rw [if_pos k5] at hq
              obtain ⟨x, hxn⟩ : ∃ x : Nat, s.next = (x : Int) := ⟨s.next.toNat, by omega⟩
              rw [hxn] at hx1 hq
              rw [Int.toNat_natCast] at hq
              (have zx1 := @d0; have zx2 := @d1; have zx3 := @hs1; have zx4 := @hs2; have zx5 := @hw1; have zx6 := @hse; have zx7 := @e1; have zx8 := @e2; have zx9 := @e34; have zx10 := @e5; have zx11 := @hxn; all_goals (try ((first | (with_reducible refine wp_id ?_) | (with_reducible refine does_id ?_) | (with_reducible refine ops_id ?_)); refine walk ?_; (repeat' (first | exact trivial | with_reducible refine And.intro ?_ ?_)); all_goals (repeat (first | (with_reducible refine ImpB.mk fun hb => ?_) | (with_reducible refine ImpK.mk fun hK => ?_) | (with_reducible refine ImpF.mk fun hF => ?_) | (with_reducible refine ImpQ.mk fun hp => ?_) | (with_reducible refine AllE.mk fun p => ?_) | (with_reducible refine AllR.mk fun rest => ?_) | (with_reducible refine AllK.mk fun K => ?_))))); repeat' (with_reducible refine And.intro ?_ ?_))
              all_goals first | exact Int.natCast_nonneg _ | omega | (rw [hln]; omega) | skip
              refine ⟨(n, x, w, u, out), ⟨⟨by first | omega | (dsimp only; omega), by first | (dsimp only; omega) | (simp only [List.length_append, List.length_cons, List.length_nil]; omega), by first | omega | (dsimp only; omega), hq⟩, by first | omega | (dsimp only; omega)⟩, ?_⟩
              try dsimp only
              (focus (refine ⟨_, _, Gh.refl, [0, 1], rfl, ?_⟩; (refine fitq ?_ ?_ ?_ <;> try exact trivial); (try any_goals (refine ⟨?_, ?_⟩)); (try any_goals (with_reducible rfl))))
              all_goals (repeat' (first | (refine And.intro ?_ ?_) | rfl | (simp only [List.length_append, List.length_cons, List.length_nil]; done) | trace_state))
            · have e5 : decide (s.kind = 5) = false := decide_eq_false k5
              have e6 : decide (s.kind = 6) = true := decide_eq_true (by omega)
              rw [if_neg k5] at hq
              (have zx1 := @d0; have zx2 := @d1; have zx3 := @hs1; have zx4 := @hs2; have zx5 := @hw1; have zx6 := @hse; have zx7 := @e1; have zx8 := @e2; have zx9 := @e34; have zx10 := @e5; have zx11 := @e6; all_goals (try ((first | (with_reducible refine wp_id ?_) | (with_reducible refine does_id ?_) | (with_reducible refine ops_id ?_)); refine walk ?_; (repeat' (first | exact trivial | with_reducible refine And.intro ?_ ?_)); all_goals (repeat (first | (with_reducible refine ImpB.mk fun hb => ?_) | (with_reducible refine ImpK.mk fun hK => ?_) | (with_reducible refine ImpF.mk fun hF => ?_) | (with_reducible refine ImpQ.mk fun hp => ?_) | (with_reducible refine AllE.mk fun p => ?_) | (with_reducible refine AllR.mk fun rest => ?_) | (with_reducible refine AllK.mk fun K => ?_))))); repeat' (with_reducible refine And.intro ?_ ?_))
              all_goals first | exact Int.natCast_nonneg _ | omega | (rw [hln]; omega) | skip
              subst hq
              dsimp only [rnP, rnO]
              try simp only [Bool.not_true, Bool.and_false, Bool.not_false, Bool.and_true]
              refine ⟨_, _, gh_frz (t := 1) (e := .cmd) (xs := out) rfl ?f1e ?f2e, [0], rfl, ?fte⟩
              case' fte => (refine fitq ?_ ?_ ?_ <;> try exact trivial)
              case' f1e => simp only [go_sem, decide_true, decide_false, Int.reduceToNat, Nat.min_eq_left, Nat.min_eq_right, Int.reducePow, Nat.reducePow, Int.reduceLE, Int.reduceLT, Int.reduceMul, Int.reduceAdd, Int.reduceSub, Int.reduceNeg, Bool.not_true, Bool.not_false, Bool.not_not, ↓reduceIte, Nat.reduceAdd, Nat.reduceSub, Nat.reduceMul, Nat.reduceEqDiff, reduceCtorEq, Nat.reduceLT, Nat.reduceLeDiff, Nat.reduceGT]
              case' f2e => simp only [go_sem, decide_true, decide_false, Int.reduceToNat, Nat.min_eq_left, Nat.min_eq_right, Int.reducePow, Nat.reducePow, Int.reduceLE, Int.reduceLT, Int.reduceMul, Int.reduceAdd, Int.reduceSub, Int.reduceNeg, Bool.not_true, Bool.not_false, Bool.not_not, ↓reduceIte, Nat.reduceAdd, Nat.reduceSub, Nat.reduceMul, Nat.reduceEqDiff, reduceCtorEq, Nat.reduceLT, Nat.reduceLeDiff, Nat.reduceGT]
              all_goals first | exact Nat.le_refl _ | exact ⟨Nat.le_refl _, False.elim⟩ | exact False.elim | (repeat' (first | (refine And.intro ?_ ?_) | rfl)) | trace_state
theorem br_ep {h : List Ch} {t i off : Nat} {e : Ety} : brA [t] h (.ep 0 e i off) (.ep t e i off) := by simp [brA, fitA]
abbrev rnX (now : Int) (x : Prg) : Bool × Nat × Bool × Int × List Cmd := rnR now x.steps 16 x.pos.toNat x.wt x.unt []
def okR (x : Prg) : Prop := plainQ x.steps ∧ 0 ≤ x.pos ∧ x.pos ≤ x.steps.length
theorem c_qrun {h : List Ch} {K : KT} {t i : Nat} {now : Int} {L : List Prg} {x : Prg} {a : AV} (H : K (.ro .cmd (rnO (rnX now x))) (h.set t (.rows .prg (L.set i (rnP x (rnX now x)))))) (o : hth h t = .rows .prg L) (e1 : L.getD i Prg.zero = x) (s1 : i < L.length) (s2 : okR x) (s3 : 0 ≤ now ∧ now ≤ 1099511627776) : Does Try.prog 33 [.ep t .prg i 0, .int .i64 now, a] h K := by
  obtain ⟨h1, h2, h3⟩ := s2
  have hc : ((x.pos.toNat : Nat) : Int) = x.pos := by omega
  exact frame_obj0 (b_qrun now L i x x.pos.toNat s1 (by rw [hc]; exact e1) h1 (by omega) s3.1 s3.2) o (by simp) (fitC_rows _ _) (br_cons br_ep (br_cons br_int (br_cons br_any br_nil))) (.inl rfl) (fun _ => rfl) rfl H
abbrev i_qrun := Ctr.mk (i := 0) (g := 33) @c_qrun
attribute [instance] i_qrun
theorem rnO_le (now : Int) (l : List Stp) : ∀ n p w u out, (rnO (rnR now l n p w u out)).length ≤ out.length + n
  | 0, p, w, u, out => Nat.le_refl _
  | n + 1, p, w, u, out => by
    rw [rnR]
    split
    · exact Nat.le_add_right _ _
    split
    · have := rnO_le now l n (p + 1) w u (out ++ [(l.getD p Stp.zero).c])
      rw [List.length_append, List.length_cons, List.length_nil] at this
      omega
    split
    · generalize (if w then u else now + (l.getD p Stp.zero).ticks) = v
      split
      · have := rnO_le now l n (p + 1) false v out
        omega
      · exact Nat.le_add_right _ _
    split
    · have := rnO_le now l n (l.getD p Stp.zero).next.toNat w u out
      omega
    · exact Nat.le_add_right _ _
end Go.V

set_option maxRecDepth 100000
set_option maxHeartbeats 8000000
namespace Go.V
open Go.Proofs
/-- a sequence after a tick, and what it sends -/
def tkX (now : Int) (x : Prg) : Prg := if x.run then rnP x (rnX now x) else x
def tkC (now : Int) (x : Prg) : List Cmd := if x.run then rnO (rnX now x) else []
abbrev tkL (now : Int) (L : List Prg) : List Prg := L.map (tkX now)
abbrev tkO (now : Int) (L : List Prg) : List Cmd := L.flatMap (tkC now)
abbrev tkM (now : Int) (L : List Prg) (k : Nat) : List Prg := (L.take k).map (tkX now) ++ L.drop k
theorem tkM_len {now : Int} {L : List Prg} {k : Nat} (h : k ≤ L.length) : (tkM now L k).length = L.length := by
  rw [tkM, List.length_append, List.length_map, List.length_take, List.length_drop]; omega
theorem tkM_at {now : Int} {L : List Prg} {k : Nat} (h : k < L.length) : (tkM now L k).getD k Prg.zero = L.getD k Prg.zero := by
  rw [tkM, List.getD_eq_getElem?_getD, List.getElem?_append_right (by rw [List.length_map, List.length_take]; omega), List.length_map, List.length_take, List.getElem?_drop, List.getD_eq_getElem?_getD, show k + (k - min k L.length) = k by omega]
theorem tkM_next {now : Int} {L : List Prg} {k : Nat} (h : k < L.length) : (tkM now L k).set k (tkX now (L.getD k Prg.zero)) = tkM now L (k + 1) := by
  have hl : ((L.take k).map (tkX now)).length = k := by rw [List.length_map, List.length_take]; omega
  rw [tkM, tkM, getT (z := Prg.zero) h, List.map_append, List.map_cons, List.map_nil, List.drop_eq_getElem_cons h, getEq h, List.set_append_right _ _ (by omega), hl, Nat.sub_self, List.set_cons_zero, List.append_assoc]
  rfl
theorem tkO_next {now : Int} {L : List Prg} {k : Nat} (h : k < L.length) : tkO now (L.take (k + 1)) = tkO now (L.take k) ++ tkC now (L.getD k Prg.zero) := by
  rw [tkO, getT (z := Prg.zero) h, List.flatMap_append, List.flatMap_cons, List.flatMap_nil, List.append_nil]
theorem tkC_le (now : Int) (x : Prg) : (tkC now x).length ≤ 16 := by
  unfold tkC
  split
  · have := rnO_le now x.steps 16 x.pos.toNat x.wt x.unt []
    simpa using this
  · exact Nat.zero_le _
theorem tkO_le (now : Int) (L : List Prg) : (tkO now L).length ≤ 16 * L.length := by
  induction L with
  | nil => exact Nat.le_refl _
  | cons x L ih =>
    have := tkC_le now x
    rw [tkO, List.flatMap_cons, List.length_append, List.length_cons]
    unfold tkO at ih
    omega
theorem b_eTick (now0 : Int) (L : List Prg) (n : Int) (hL : L.length ≤ 1000000) (hx0 : ∀ x ∈ L, okR x) (hn0 : 0 ≤ now0) (hn1 : now0 ≤ 1099511627776) : DoesK Try.prog 1 14 [.ptr 0 0, .int .i64 n, .any] [.pack (EN now0 L)] (EndF 1 (.ro .cmd (tkO (atQ now0 n) L)) ([.pack (EN (atQ now0 n) (tkL (atQ now0 n) L))] ++ [])) := by
  refine DoesK.close ?_
  have hna : 0 ≤ atQ now0 n ∧ atQ now0 n ≤ 1099511627776 := by unfold atQ; split <;> omega
  obtain ⟨now, hnow⟩ : ∃ z, atQ now0 n = z := ⟨_, rfl⟩
  rw [hnow] at hna ⊢
  refine w_body (rs := [.tmp 6]) (tm := [.ptr 0 0, .int .i64 n, .any, .any, .any, .any, .any, .any, .any, .any, .any, .any, .any, .any, .any, .any, .any, .any, .any, .any, .any, .any, .any, .any, .any, .any, .any, .any, .any, .any, .any, .any, .any, .any, .any, .any, .any, .any, .any, .any, .any, .any, .any, .any, .any, .any, .any]) fn_14 rfl rfl rfl rfl fun R hR => ?_
  (have zx1 := @hnow; all_goals (try ((first | (with_reducible refine wp_id ?_) | (with_reducible refine does_id ?_) | (with_reducible refine ops_id ?_)); refine walk ?_; (repeat' (first | exact trivial | with_reducible refine And.intro ?_ ?_)); all_goals (repeat (first | (with_reducible refine ImpB.mk fun hb => ?_) | (with_reducible refine ImpK.mk fun hK => ?_) | (with_reducible refine ImpF.mk fun hF => ?_) | (with_reducible refine ImpQ.mk fun hp => ?_) | (with_reducible refine AllE.mk fun p => ?_) | (with_reducible refine AllR.mk fun rest => ?_) | (with_reducible refine AllK.mk fun K => ?_))))); repeat' (with_reducible refine And.intro ?_ ?_))
  refine Wp.ghost (gh_adopt (s := 7) .cmd trivial) ?_
  simp only [go_sem, decide_true, decide_false, Int.reduceToNat, Nat.min_eq_left, Nat.min_eq_right, Int.reducePow, Nat.reducePow, Int.reduceLE, Int.reduceLT, Int.reduceMul, Int.reduceAdd, Int.reduceSub, Int.reduceNeg, Bool.not_true, Bool.not_false, Bool.not_not, ↓reduceIte, Nat.reduceAdd, Nat.reduceSub, Nat.reduceMul, Nat.reduceEqDiff, reduceCtorEq, Nat.reduceLT, Nat.reduceLeDiff, Nat.reduceGT]
  any_goals ((try (refine w_seq fun K hK => ?_)); (try (refine w_block ?_)); refine w_loop (A := Nat) (fun k => k ≤ L.length) (fun k => L.length - k) (fun k => [(7, .sl 2 .cmd 0 (tkO now (L.take k)).length), (20, .int .i64 k)]) (fun k => [(1, .rows .prg (tkM now L k)), (2, .rows .cmd (tkO now (L.take k)))]) (0) (ws := ?ws1) (tk := ?tk1) ?hw1 ?ht1 ?hi ?h0 ?LH1; (case hw1 => simp only [go_sem, decide_true, decide_false, Int.reduceToNat, Nat.min_eq_left, Nat.min_eq_right, Int.reducePow, Nat.reducePow, Int.reduceLE, Int.reduceLT, Int.reduceMul, Int.reduceAdd, Int.reduceSub, Int.reduceNeg, Bool.not_true, Bool.not_false, Bool.not_not, ↓reduceIte, Nat.reduceAdd, Nat.reduceSub, Nat.reduceMul, Nat.reduceEqDiff, reduceCtorEq, Nat.reduceLT, Nat.reduceLeDiff, Nat.reduceGT]; exact rfl); (case ht1 => simp only [go_sem, decide_true, decide_false, Int.reduceToNat, Nat.min_eq_left, Nat.min_eq_right, Int.reducePow, Nat.reducePow, Int.reduceLE, Int.reduceLT, Int.reduceMul, Int.reduceAdd, Int.reduceSub, Int.reduceNeg, Bool.not_true, Bool.not_false, Bool.not_not, ↓reduceIte, Nat.reduceAdd, Nat.reduceSub, Nat.reduceMul, Nat.reduceEqDiff, reduceCtorEq, Nat.reduceLT, Nat.reduceLeDiff, Nat.reduceGT]; exact rfl); (case' LH1 => rintro k E t hx hE ht; simp only [go_sem] at ht; subst ht; simp only [go_sem]; try dsimp only at hx))
  case hi => exact Nat.zero_le _
  case h0 => (focus (refine ⟨_, _, Gh.refl, [0, 1, 2], rfl, ?_⟩; (refine fitq ?_ ?_ ?_ <;> try exact trivial); (try any_goals (refine ⟨?_, ?_⟩)); (try any_goals (with_reducible rfl)))); (all_goals (repeat' (first | (refine And.intro ?_ ?_) | rfl | trace_state)))
  case LH1 =>
    have hk0 : k ≤ L.length := hx
    have hle := tkO_le now (L.take k)
    rw [List.length_take] at hle
    have hml := tkM_len (now := now) hk0
    have hw : IntKind.i64.wrap ((k : Int) + 1) = ((k + 1 : Nat) : Int) := by rw [wrap_i64 _ (by omega) (by omega)]; omega
    by_cases hk : k < L.length
    · have hkd : decide ((k : Int) < L.length) = true := decide_eq_true (by omega)
      have hn1 := tkO_next (now := now) hk
      have hn2 := tkM_next (now := now) hk
      have hat := tkM_at (now := now) hk
      have hxk := hx0 _ (getM (z := Prg.zero) hk)
      have hcl := tkC_le now (L.getD k Prg.zero)
      obtain ⟨x, hxe⟩ : ∃ x, L.getD k Prg.zero = x := ⟨_, rfl⟩
      rw [hxe] at hn1 hn2 hat hxk hcl
      obtain ⟨M, hM⟩ : ∃ M, tkM now L k = M := ⟨_, rfl⟩
      rw [hM] at hn2 hat hml ⊢
      obtain ⟨O, hO⟩ : ∃ O, tkO now (L.take k) = O := ⟨_, rfl⟩
      rw [hO] at hn1 hle ⊢
      cases c : x.run
      · have t1 : tkX now x = x := if_neg (by rw [c]; decide)
        have t2 : tkC now x = [] := if_neg (by rw [c]; decide)
        rw [t1] at hn2
        rw [t2, List.append_nil] at hn1
        have hs : M.set k x = M := by
          have hkm : k < M.length := by omega
          rw [← hat, getEq hkm]
          exact List.set_getElem_self hkm
        rw [hs] at hn2
        (have zx1 := @hkd; have zx2 := @hw; have zx3 := @hat; have zx4 := @c; all_goals (try ((first | (with_reducible refine wp_id ?_) | (with_reducible refine does_id ?_) | (with_reducible refine ops_id ?_)); refine walk ?_; (repeat' (first | exact trivial | with_reducible refine And.intro ?_ ?_)); all_goals (repeat (first | (with_reducible refine ImpB.mk fun hb => ?_) | (with_reducible refine ImpK.mk fun hK => ?_) | (with_reducible refine ImpF.mk fun hF => ?_) | (with_reducible refine ImpQ.mk fun hp => ?_) | (with_reducible refine AllE.mk fun p => ?_) | (with_reducible refine AllR.mk fun rest => ?_) | (with_reducible refine AllK.mk fun K => ?_))))); repeat' (with_reducible refine And.intro ?_ ?_))
        all_goals first | exact Int.natCast_nonneg _ | omega | (rw [hml]; omega) | skip
        refine ⟨k + 1, ⟨by first | omega | (dsimp only; omega), by first | omega | (dsimp only; omega)⟩, ?_⟩
        dsimp only
        rw [hn1, ← hn2]
        (focus (refine ⟨_, _, Gh.refl, [0, 1, 2], rfl, ?_⟩; (refine fitq ?_ ?_ ?_ <;> try exact trivial); (try any_goals (refine ⟨?_, ?_⟩)); (try any_goals (with_reducible rfl))))
        all_goals (repeat' (first | (refine And.intro ?_ ?_) | rfl | trace_state))
      · have t1 : tkX now x = rnP x (rnX now x) := if_pos c
        have t2 : tkC now x = rnO (rnX now x) := if_pos c
        rw [t1] at hn2
        rw [t2] at hn1 hcl
        have hkm : k < M.length := by omega
        (have zx1 := @hkd; have zx2 := @hw; have zx3 := @hat; have zx4 := @c; all_goals (try ((first | (with_reducible refine wp_id ?_) | (with_reducible refine does_id ?_) | (with_reducible refine ops_id ?_)); refine walk ?_; (repeat' (first | exact trivial | with_reducible refine And.intro ?_ ?_)); all_goals (repeat (first | (with_reducible refine ImpB.mk fun hb => ?_) | (with_reducible refine ImpK.mk fun hK => ?_) | (with_reducible refine ImpF.mk fun hF => ?_) | (with_reducible refine ImpQ.mk fun hp => ?_) | (with_reducible refine AllE.mk fun p => ?_) | (with_reducible refine AllR.mk fun rest => ?_) | (with_reducible refine AllK.mk fun K => ?_))))); repeat' (with_reducible refine And.intro ?_ ?_))
        all_goals first | exact Int.natCast_nonneg _ | omega | exact hxk | exact hna | (rw [hml]; omega) | skip
        refine ⟨k + 1, ⟨by first | omega | (dsimp only; omega), by first | omega | (dsimp only; omega)⟩, ?_⟩
        dsimp only
        rw [hn1, ← hn2]
        (focus (refine ⟨_, _, Gh.refl, [0, 1, 3], rfl, ?_⟩; (refine fitq ?_ ?_ ?_ <;> try exact trivial); (try any_goals (refine ⟨?_, ?_⟩)); (try any_goals (with_reducible rfl))))
        all_goals (repeat' (first | (refine And.intro ?_ ?_) | rfl | (simp only [List.length_append]; done) | trace_state))
    · have hkd : decide ((k : Int) < L.length) = false := decide_eq_false (by omega)
      obtain rfl : k = L.length := by omega
      rw [tkM, List.drop_length, List.append_nil, List.take_of_length_le (Nat.le_refl _)]
      (have zx1 := @hkd; all_goals (try ((first | (with_reducible refine wp_id ?_) | (with_reducible refine does_id ?_) | (with_reducible refine ops_id ?_)); refine walk ?_; (repeat' (first | exact trivial | with_reducible refine And.intro ?_ ?_)); all_goals (repeat (first | (with_reducible refine ImpB.mk fun hb => ?_) | (with_reducible refine ImpK.mk fun hK => ?_) | (with_reducible refine ImpF.mk fun hF => ?_) | (with_reducible refine ImpQ.mk fun hp => ?_) | (with_reducible refine AllE.mk fun p => ?_) | (with_reducible refine AllR.mk fun rest => ?_) | (with_reducible refine AllK.mk fun K => ?_))))); repeat' (with_reducible refine And.intro ?_ ?_))
      have hmp : L.length = (tkL now L).length := (List.length_map _).symm
      rw [hmp]
      refine ⟨_, _, (gh_frz (t := 2) (e := .cmd) (xs := tkO now L) rfl ?f1 ?f2).trans (gh_close (t := 0) (ts := [1]) (l := EN now (tkL now L)) ⟨⟨_, _, rfl⟩, ?fc, by simp⟩), [0], rfl, ?ft⟩
      case' ft => (refine fitq ?_ ?_ ?_ <;> try exact trivial)
      case' fc => simp only [go_sem, decide_true, decide_false, Int.reduceToNat, Nat.min_eq_left, Nat.min_eq_right, Int.reducePow, Nat.reducePow, Int.reduceLE, Int.reduceLT, Int.reduceMul, Int.reduceAdd, Int.reduceSub, Int.reduceNeg, Bool.not_true, Bool.not_false, Bool.not_not, ↓reduceIte, Nat.reduceAdd, Nat.reduceSub, Nat.reduceMul, Nat.reduceEqDiff, reduceCtorEq, Nat.reduceLT, Nat.reduceLeDiff, Nat.reduceGT]
      case' f1 => simp only [go_sem, decide_true, decide_false, Int.reduceToNat, Nat.min_eq_left, Nat.min_eq_right, Int.reducePow, Nat.reducePow, Int.reduceLE, Int.reduceLT, Int.reduceMul, Int.reduceAdd, Int.reduceSub, Int.reduceNeg, Bool.not_true, Bool.not_false, Bool.not_not, ↓reduceIte, Nat.reduceAdd, Nat.reduceSub, Nat.reduceMul, Nat.reduceEqDiff, reduceCtorEq, Nat.reduceLT, Nat.reduceLeDiff, Nat.reduceGT]
      case' f2 => simp only [go_sem, decide_true, decide_false, Int.reduceToNat, Nat.min_eq_left, Nat.min_eq_right, Int.reducePow, Nat.reducePow, Int.reduceLE, Int.reduceLT, Int.reduceMul, Int.reduceAdd, Int.reduceSub, Int.reduceNeg, Bool.not_true, Bool.not_false, Bool.not_not, ↓reduceIte, Nat.reduceAdd, Nat.reduceSub, Nat.reduceMul, Nat.reduceEqDiff, reduceCtorEq, Nat.reduceLT, Nat.reduceLeDiff, Nat.reduceGT]
      all_goals first | exact Nat.le_refl _ | exact ⟨Nat.le_refl _, False.elim⟩ | exact False.elim | (repeat' (first | (refine And.intro ?_ ?_) | rfl)) | trace_state
theorem c_eTick {h : List Ch} {K : KT} {u : Nat} {now0 n : Int} {L : List Prg} {a : AV} (H : K (.ro .cmd (tkO (atQ now0 n) L)) (h.set u (.pack (EN (atQ now0 n) (tkL (atQ now0 n) L))))) (o : hth h u = .pack (EN now0 L)) (s1 : L.length ≤ 1000000) (s2 : ∀ x ∈ L, okR x) (s3 : 0 ≤ now0 ∧ now0 ≤ 1099511627776) : Does Try.prog 14 [.ptr u 0, .int .i64 n, a] h K :=
  frame_obj0 (b_eTick now0 L n s1 s2 s3.1 s3.2) o (by simp) (fitC_pack _) (br_cons (br_ptr rfl) (br_cons br_int (br_cons br_any br_nil))) (.inl rfl) (fun _ => rfl) rfl H
end Go.V
