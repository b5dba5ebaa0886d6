/-
  archive: the reference's Add.
  archive: the reference's sorted.
-/
import Derived.Test.YtoohlpieakeecaaPart17
set_option linter.unusedVariables false
set_option linter.unusedSimpArgs false
set_option maxRecDepth 100000
set_option maxHeartbeats 8000000
namespace Go.V
open Go.Proofs
def hitB (a n : Int) (r : REnt) : Bool := decide (r.apid = a) && decide (r.count = n)
def itR (r : REnt) : Itm := ⟨r.apid, r.cnt, r.time, r.data⟩
def newR (i : Itm) (n : Int) : REnt := ⟨i.apid, i.count, i.time, i.data, n⟩
def addR (rs : List REnt) (i : Itm) : List REnt × Int :=
  if rightB i = false then (rs, 1)
  else match rs.find? (hitB i.apid (extR rs i.apid i.count)) with
    | some r => (rs, if sameI (itR r) i = true then 9 else 4)
    | none => (rs ++ [newR i (extR rs i.apid i.count)], 0)
theorem find_at {α : Type} {p : α → Bool} {d : α} : ∀ {l : List α} {k : Nat}, (∀ i, i < k → p (l.getD i d) = false) → k < l.length → p (l.getD k d) = true → l.find? p = some (l.getD k d)
  | [], _, _, h, _ => by simp at h
  | x :: l, 0, _, _, h => by
    have h : p x = true := h
    show (x :: l).find? p = some x
    rw [List.find?_cons_of_pos h]
  | x :: l, k + 1, h1, h2, h3 => by
    have h0 : p x = false := h1 0 (by omega)
    rw [List.find?_cons_of_neg (by rw [h0]; decide)]
    exact find_at (fun i hi => h1 (i + 1) (by omega)) (by simpa using h2) h3
theorem find_no {α : Type} {p : α → Bool} {d : α} : ∀ {l : List α}, (∀ i, i < l.length → p (l.getD i d) = false) → l.find? p = none
  | [], _ => rfl
  | x :: l, h => by
    have h0 : p x = false := h 0 (by simp)
    rw [List.find?_cons_of_neg (by rw [h0]; decide)]
    exact find_no (d := d) fun i hi => h (i + 1) (by simpa using hi)
theorem b_raddW (rs : List REnt) (i : Itm) (hr : rightB i = false) : DoesK Try.prog 0 21 [.ro .ren rs, .agg (itL i)] [] (EndF 0 (.tup [.ro .ren rs, .int .i64 1]) []) := by
  refine DoesK.close ?_
  obtain ⟨a, c, t, d⟩ := i
  dsimp only [itL]
  unfold rightB at hr
  by_cases c0 : a < 0
  · have d0 : decide (a < 0) = true := decide_eq_true c0
    refine w_body (rs := [.tmp 4, .tmp 5]) (tm := [.ro .ren rs, .agg [.int .i64 a, .int .i64 c, .int .i64 t, .ro .byte d], .any, .any, .any, .any, .any, .any, .any, .any, .any, .any, .any, .any, .any, .any, .any, .any, .any, .any, .any, .any, .any, .any, .any, .any, .any, .any, .any, .any, .any, .any, .any, .any, .any, .any, .any, .any, .any, .any, .any, .any, .any, .any, .any, .any, .any, .any, .any, .any, .any, .any, .any, .any, .any, .any, .any, .any, .any, .any, .any, .any, .any, .any, .any, .any, .any, .any, .any, .any, .any, .any, .any, .any, .any, .any, .any, .any, .any, .any, .any, .any, .any, .any, .any, .any, .any, .any, .any, .any, .any, .any, .any, .any, .any, .any, .any, .any, .any, .any, .any, .any, .any, .any, .any, .any, .any, .any, .any, .any]) fn_21 rfl rfl rfl rfl fun R hR => ?_
    (have zx1 := @d0; all_goals (try ((first | (with_reducible refine wp_id ?_) | (with_reducible refine does_id ?_) | (with_reducible refine ops_id ?_)); refine walk ?_; (repeat' (first | exact trivial | with_reducible refine And.intro ?_ ?_)); all_goals (repeat (first | (with_reducible refine ImpB.mk fun hb => ?_) | (with_reducible refine ImpK.mk fun hK => ?_) | (with_reducible refine ImpF.mk fun hF => ?_) | (with_reducible refine ImpQ.mk fun hp => ?_) | (with_reducible refine AllE.mk fun p => ?_) | (with_reducible refine AllR.mk fun rest => ?_) | (with_reducible refine AllK.mk fun K => ?_))))); repeat' (with_reducible refine And.intro ?_ ?_))
    (focus (refine ⟨_, _, Gh.refl, [], rfl, ?_⟩; (refine fitq ?_ ?_ ?_ <;> try exact trivial); (try any_goals (refine ⟨?_, ?_⟩)); (try any_goals (with_reducible rfl))))
    all_goals (repeat' (first | (refine And.intro ?_ ?_) | rfl))
  have d0 : decide (a < 0) = false := decide_eq_false c0
  by_cases c1 : 2046 < a
  · have d1 : decide (2046 < a) = true := decide_eq_true c1
    refine w_body (rs := [.tmp 4, .tmp 5]) (tm := [.ro .ren rs, .agg [.int .i64 a, .int .i64 c, .int .i64 t, .ro .byte d], .any, .any, .any, .any, .any, .any, .any, .any, .any, .any, .any, .any, .any, .any, .any, .any, .any, .any, .any, .any, .any, .any, .any, .any, .any, .any, .any, .any, .any, .any, .any, .any, .any, .any, .any, .any, .any, .any, .any, .any, .any, .any, .any, .any, .any, .any, .any, .any, .any, .any, .any, .any, .any, .any, .any, .any, .any, .any, .any, .any, .any, .any, .any, .any, .any, .any, .any, .any, .any, .any, .any, .any, .any, .any, .any, .any, .any, .any, .any, .any, .any, .any, .any, .any, .any, .any, .any, .any, .any, .any, .any, .any, .any, .any, .any, .any, .any, .any, .any, .any, .any, .any, .any, .any, .any, .any, .any, .any]) fn_21 rfl rfl rfl rfl fun R hR => ?_
    (have zx1 := @d0; have zx2 := @d1; all_goals (try ((first | (with_reducible refine wp_id ?_) | (with_reducible refine does_id ?_) | (with_reducible refine ops_id ?_)); refine walk ?_; (repeat' (first | exact trivial | with_reducible refine And.intro ?_ ?_)); all_goals (repeat (first | (with_reducible refine ImpB.mk fun hb => ?_) | (with_reducible refine ImpK.mk fun hK => ?_) | (with_reducible refine ImpF.mk fun hF => ?_) | (with_reducible refine ImpQ.mk fun hp => ?_) | (with_reducible refine AllE.mk fun p => ?_) | (with_reducible refine AllR.mk fun rest => ?_) | (with_reducible refine AllK.mk fun K => ?_))))); repeat' (with_reducible refine And.intro ?_ ?_))
    (focus (refine ⟨_, _, Gh.refl, [], rfl, ?_⟩; (refine fitq ?_ ?_ ?_ <;> try exact trivial); (try any_goals (refine ⟨?_, ?_⟩)); (try any_goals (with_reducible rfl))))
    all_goals (repeat' (first | (refine And.intro ?_ ?_) | rfl))
  have d1 : decide (2046 < a) = false := decide_eq_false c1
  by_cases c2 : c < 0
  · have d2 : decide (c < 0) = true := decide_eq_true c2
    refine w_body (rs := [.tmp 4, .tmp 5]) (tm := [.ro .ren rs, .agg [.int .i64 a, .int .i64 c, .int .i64 t, .ro .byte d], .any, .any, .any, .any, .any, .any, .any, .any, .any, .any, .any, .any, .any, .any, .any, .any, .any, .any, .any, .any, .any, .any, .any, .any, .any, .any, .any, .any, .any, .any, .any, .any, .any, .any, .any, .any, .any, .any, .any, .any, .any, .any, .any, .any, .any, .any, .any, .any, .any, .any, .any, .any, .any, .any, .any, .any, .any, .any, .any, .any, .any, .any, .any, .any, .any, .any, .any, .any, .any, .any, .any, .any, .any, .any, .any, .any, .any, .any, .any, .any, .any, .any, .any, .any, .any, .any, .any, .any, .any, .any, .any, .any, .any, .any, .any, .any, .any, .any, .any, .any, .any, .any, .any, .any, .any, .any, .any, .any]) fn_21 rfl rfl rfl rfl fun R hR => ?_
    (have zx1 := @d0; have zx2 := @d1; have zx3 := @d2; all_goals (try ((first | (with_reducible refine wp_id ?_) | (with_reducible refine does_id ?_) | (with_reducible refine ops_id ?_)); refine walk ?_; (repeat' (first | exact trivial | with_reducible refine And.intro ?_ ?_)); all_goals (repeat (first | (with_reducible refine ImpB.mk fun hb => ?_) | (with_reducible refine ImpK.mk fun hK => ?_) | (with_reducible refine ImpF.mk fun hF => ?_) | (with_reducible refine ImpQ.mk fun hp => ?_) | (with_reducible refine AllE.mk fun p => ?_) | (with_reducible refine AllR.mk fun rest => ?_) | (with_reducible refine AllK.mk fun K => ?_))))); repeat' (with_reducible refine And.intro ?_ ?_))
    (focus (refine ⟨_, _, Gh.refl, [], rfl, ?_⟩; (refine fitq ?_ ?_ ?_ <;> try exact trivial); (try any_goals (refine ⟨?_, ?_⟩)); (try any_goals (with_reducible rfl))))
    all_goals (repeat' (first | (refine And.intro ?_ ?_) | rfl))
  have d2 : decide (c < 0) = false := decide_eq_false c2
  by_cases c3 : 16383 < c
  · have d3 : decide (16383 < c) = true := decide_eq_true c3
    refine w_body (rs := [.tmp 4, .tmp 5]) (tm := [.ro .ren rs, .agg [.int .i64 a, .int .i64 c, .int .i64 t, .ro .byte d], .any, .any, .any, .any, .any, .any, .any, .any, .any, .any, .any, .any, .any, .any, .any, .any, .any, .any, .any, .any, .any, .any, .any, .any, .any, .any, .any, .any, .any, .any, .any, .any, .any, .any, .any, .any, .any, .any, .any, .any, .any, .any, .any, .any, .any, .any, .any, .any, .any, .any, .any, .any, .any, .any, .any, .any, .any, .any, .any, .any, .any, .any, .any, .any, .any, .any, .any, .any, .any, .any, .any, .any, .any, .any, .any, .any, .any, .any, .any, .any, .any, .any, .any, .any, .any, .any, .any, .any, .any, .any, .any, .any, .any, .any, .any, .any, .any, .any, .any, .any, .any, .any, .any, .any, .any, .any, .any, .any]) fn_21 rfl rfl rfl rfl fun R hR => ?_
    (have zx1 := @d0; have zx2 := @d1; have zx3 := @d2; have zx4 := @d3; all_goals (try ((first | (with_reducible refine wp_id ?_) | (with_reducible refine does_id ?_) | (with_reducible refine ops_id ?_)); refine walk ?_; (repeat' (first | exact trivial | with_reducible refine And.intro ?_ ?_)); all_goals (repeat (first | (with_reducible refine ImpB.mk fun hb => ?_) | (with_reducible refine ImpK.mk fun hK => ?_) | (with_reducible refine ImpF.mk fun hF => ?_) | (with_reducible refine ImpQ.mk fun hp => ?_) | (with_reducible refine AllE.mk fun p => ?_) | (with_reducible refine AllR.mk fun rest => ?_) | (with_reducible refine AllK.mk fun K => ?_))))); repeat' (with_reducible refine And.intro ?_ ?_))
    (focus (refine ⟨_, _, Gh.refl, [], rfl, ?_⟩; (refine fitq ?_ ?_ ?_ <;> try exact trivial); (try any_goals (refine ⟨?_, ?_⟩)); (try any_goals (with_reducible rfl))))
    all_goals (repeat' (first | (refine And.intro ?_ ?_) | rfl))
  have d3 : decide (16383 < c) = false := decide_eq_false c3
  by_cases c4 : t < 0
  · have d4 : decide (t < 0) = true := decide_eq_true c4
    refine w_body (rs := [.tmp 4, .tmp 5]) (tm := [.ro .ren rs, .agg [.int .i64 a, .int .i64 c, .int .i64 t, .ro .byte d], .any, .any, .any, .any, .any, .any, .any, .any, .any, .any, .any, .any, .any, .any, .any, .any, .any, .any, .any, .any, .any, .any, .any, .any, .any, .any, .any, .any, .any, .any, .any, .any, .any, .any, .any, .any, .any, .any, .any, .any, .any, .any, .any, .any, .any, .any, .any, .any, .any, .any, .any, .any, .any, .any, .any, .any, .any, .any, .any, .any, .any, .any, .any, .any, .any, .any, .any, .any, .any, .any, .any, .any, .any, .any, .any, .any, .any, .any, .any, .any, .any, .any, .any, .any, .any, .any, .any, .any, .any, .any, .any, .any, .any, .any, .any, .any, .any, .any, .any, .any, .any, .any, .any, .any, .any, .any, .any, .any]) fn_21 rfl rfl rfl rfl fun R hR => ?_
    (have zx1 := @d0; have zx2 := @d1; have zx3 := @d2; have zx4 := @d3; have zx5 := @d4; all_goals (try ((first | (with_reducible refine wp_id ?_) | (with_reducible refine does_id ?_) | (with_reducible refine ops_id ?_)); refine walk ?_; (repeat' (first | exact trivial | with_reducible refine And.intro ?_ ?_)); all_goals (repeat (first | (with_reducible refine ImpB.mk fun hb => ?_) | (with_reducible refine ImpK.mk fun hK => ?_) | (with_reducible refine ImpF.mk fun hF => ?_) | (with_reducible refine ImpQ.mk fun hp => ?_) | (with_reducible refine AllE.mk fun p => ?_) | (with_reducible refine AllR.mk fun rest => ?_) | (with_reducible refine AllK.mk fun K => ?_))))); repeat' (with_reducible refine And.intro ?_ ?_))
    (focus (refine ⟨_, _, Gh.refl, [], rfl, ?_⟩; (refine fitq ?_ ?_ ?_ <;> try exact trivial); (try any_goals (refine ⟨?_, ?_⟩)); (try any_goals (with_reducible rfl))))
    all_goals (repeat' (first | (refine And.intro ?_ ?_) | rfl))
  have d4 : decide (t < 0) = false := decide_eq_false c4
  by_cases c5 : 1099511627776 < t
  · have d5 : decide (1099511627776 < t) = true := decide_eq_true c5
    refine w_body (rs := [.tmp 4, .tmp 5]) (tm := [.ro .ren rs, .agg [.int .i64 a, .int .i64 c, .int .i64 t, .ro .byte d], .any, .any, .any, .any, .any, .any, .any, .any, .any, .any, .any, .any, .any, .any, .any, .any, .any, .any, .any, .any, .any, .any, .any, .any, .any, .any, .any, .any, .any, .any, .any, .any, .any, .any, .any, .any, .any, .any, .any, .any, .any, .any, .any, .any, .any, .any, .any, .any, .any, .any, .any, .any, .any, .any, .any, .any, .any, .any, .any, .any, .any, .any, .any, .any, .any, .any, .any, .any, .any, .any, .any, .any, .any, .any, .any, .any, .any, .any, .any, .any, .any, .any, .any, .any, .any, .any, .any, .any, .any, .any, .any, .any, .any, .any, .any, .any, .any, .any, .any, .any, .any, .any, .any, .any, .any, .any, .any, .any]) fn_21 rfl rfl rfl rfl fun R hR => ?_
    (have zx1 := @d0; have zx2 := @d1; have zx3 := @d2; have zx4 := @d3; have zx5 := @d4; have zx6 := @d5; all_goals (try ((first | (with_reducible refine wp_id ?_) | (with_reducible refine does_id ?_) | (with_reducible refine ops_id ?_)); refine walk ?_; (repeat' (first | exact trivial | with_reducible refine And.intro ?_ ?_)); all_goals (repeat (first | (with_reducible refine ImpB.mk fun hb => ?_) | (with_reducible refine ImpK.mk fun hK => ?_) | (with_reducible refine ImpF.mk fun hF => ?_) | (with_reducible refine ImpQ.mk fun hp => ?_) | (with_reducible refine AllE.mk fun p => ?_) | (with_reducible refine AllR.mk fun rest => ?_) | (with_reducible refine AllK.mk fun K => ?_))))); repeat' (with_reducible refine And.intro ?_ ?_))
    (focus (refine ⟨_, _, Gh.refl, [], rfl, ?_⟩; (refine fitq ?_ ?_ ?_ <;> try exact trivial); (try any_goals (refine ⟨?_, ?_⟩)); (try any_goals (with_reducible rfl))))
    all_goals (repeat' (first | (refine And.intro ?_ ?_) | rfl))
  have d5 : decide (1099511627776 < t) = false := decide_eq_false c5
  by_cases c6 : (4096 : Int) < (d.length : Int)
  · have d6 : decide ((4096 : Int) < (d.length : Int)) = true := decide_eq_true c6
    refine w_body (rs := [.tmp 4, .tmp 5]) (tm := [.ro .ren rs, .agg [.int .i64 a, .int .i64 c, .int .i64 t, .ro .byte d], .any, .any, .any, .any, .any, .any, .any, .any, .any, .any, .any, .any, .any, .any, .any, .any, .any, .any, .any, .any, .any, .any, .any, .any, .any, .any, .any, .any, .any, .any, .any, .any, .any, .any, .any, .any, .any, .any, .any, .any, .any, .any, .any, .any, .any, .any, .any, .any, .any, .any, .any, .any, .any, .any, .any, .any, .any, .any, .any, .any, .any, .any, .any, .any, .any, .any, .any, .any, .any, .any, .any, .any, .any, .any, .any, .any, .any, .any, .any, .any, .any, .any, .any, .any, .any, .any, .any, .any, .any, .any, .any, .any, .any, .any, .any, .any, .any, .any, .any, .any, .any, .any, .any, .any, .any, .any, .any, .any]) fn_21 rfl rfl rfl rfl fun R hR => ?_
    (have zx1 := @d0; have zx2 := @d1; have zx3 := @d2; have zx4 := @d3; have zx5 := @d4; have zx6 := @d5; have zx7 := @d6; all_goals (try ((first | (with_reducible refine wp_id ?_) | (with_reducible refine does_id ?_) | (with_reducible refine ops_id ?_)); refine walk ?_; (repeat' (first | exact trivial | with_reducible refine And.intro ?_ ?_)); all_goals (repeat (first | (with_reducible refine ImpB.mk fun hb => ?_) | (with_reducible refine ImpK.mk fun hK => ?_) | (with_reducible refine ImpF.mk fun hF => ?_) | (with_reducible refine ImpQ.mk fun hp => ?_) | (with_reducible refine AllE.mk fun p => ?_) | (with_reducible refine AllR.mk fun rest => ?_) | (with_reducible refine AllK.mk fun K => ?_))))); repeat' (with_reducible refine And.intro ?_ ?_))
    (focus (refine ⟨_, _, Gh.refl, [], rfl, ?_⟩; (refine fitq ?_ ?_ ?_ <;> try exact trivial); (try any_goals (refine ⟨?_, ?_⟩)); (try any_goals (with_reducible rfl))))
    all_goals (repeat' (first | (refine And.intro ?_ ?_) | rfl))
  have d6 : decide ((4096 : Int) < (d.length : Int)) = false := decide_eq_false c6
  exfalso
  simp only [Bool.and_eq_false_imp, decide_eq_true_eq, decide_eq_false_iff_not] at hr
  exact hr (by omega) (by omega) (by omega) (by omega) (by omega) (by omega) (by omega)
theorem b_radd52 (rs : List REnt) (i : Itm) (hr : rightB i = true) (h : okR rs) : DoesK Try.prog 0 21 [.ro .ren rs, .agg (itL i)] [] (EndF 0 (.tup [.ro .ren (addR rs i).1, .int .i64 (addR rs i).2]) []) := by
  refine DoesK.close ?_
  have hro : RoLit := .mk
  have hlr := h.len
  have q := rightB_of hr
  have hadd : addR rs i = match rs.find? (hitB i.apid (extR rs i.apid i.count)) with
    | some r => (rs, if sameI (itR r) i = true then 9 else 4)
    | none => (rs ++ [newR i (extR rs i.apid i.count)], 0) := by unfold addR; rw [if_neg (by rw [hr]; decide)]
  generalize addR rs i = AR at *
  obtain ⟨a, c, t, d⟩ := i
  dsimp only [itL] at q hadd ⊢
  obtain ⟨q1, q2, q3, q4, q5, q6, q7⟩ := q
  have d0 : decide (a < 0) = false := decide_eq_false (by omega)
  have d1 : decide (2046 < a) = false := decide_eq_false (by omega)
  have d2 : decide (c < 0) = false := decide_eq_false (by omega)
  have d3 : decide (16383 < c) = false := decide_eq_false (by omega)
  have d4 : decide (t < 0) = false := decide_eq_false (by omega)
  have d5 : decide (1099511627776 < t) = false := decide_eq_false (by omega)
  have d6 : decide ((4096 : Int) < (d.length : Int)) = false := decide_eq_false (by omega)
  have hc2 : 0 ≤ c ∧ c < 16384 := ⟨q3, q4⟩
  obtain ⟨N, hN⟩ : ∃ N, extR rs a c = N := ⟨_, rfl⟩
  rw [hN] at hadd
  have D := And.intro d0 (And.intro d1 (And.intro d2 (And.intro d3 (And.intro d4 (And.intro d5 d6)))))
  refine w_body (rs := [.tmp 4, .tmp 5]) (tm := [.ro .ren rs, .agg [.int .i64 a, .int .i64 c, .int .i64 t, .ro .byte d], .any, .any, .any, .any, .any, .any, .any, .any, .any, .any, .any, .any, .any, .any, .any, .any, .any, .any, .any, .any, .any, .any, .any, .any, .any, .any, .any, .any, .any, .any, .any, .any, .any, .any, .any, .any, .any, .any, .any, .any, .any, .any, .any, .any, .any, .any, .any, .any, .any, .any, .any, .any, .any, .any, .any, .any, .any, .any, .any, .any, .any, .any, .any, .any, .any, .any, .any, .any, .any, .any, .any, .any, .any, .any, .any, .any, .any, .any, .any, .any, .any, .any, .any, .any, .any, .any, .any, .any, .any, .any, .any, .any, .any, .any, .any, .any, .any, .any, .any, .any, .any, .any, .any, .any, .any, .any, .any, .any]) fn_21 rfl rfl rfl rfl fun R hR => ?_
  (have zx1 := @D; have zx2 := @hN; all_goals (try ((first | (with_reducible refine wp_id ?_) | (with_reducible refine does_id ?_) | (with_reducible refine ops_id ?_)); refine walk ?_; (repeat' (first | exact trivial | with_reducible refine And.intro ?_ ?_)); all_goals (repeat (first | (with_reducible refine ImpB.mk fun hb => ?_) | (with_reducible refine ImpK.mk fun hK => ?_) | (with_reducible refine ImpF.mk fun hF => ?_) | (with_reducible refine ImpQ.mk fun hp => ?_) | (with_reducible refine AllE.mk fun p => ?_) | (with_reducible refine AllR.mk fun rest => ?_) | (with_reducible refine AllK.mk fun K => ?_))))); repeat' (with_reducible refine And.intro ?_ ?_))
  any_goals ((try (refine w_seq fun K hK => ?_)); (try (refine w_block ?_)); refine w_loop (A := Nat) (fun k => k ≤ rs.length ∧ ∀ i, i < k → hitB a N (rs.getD i REnt.zero) = false) (fun k => rs.length - k) (fun k => [(7, .int .i64 k)]) (fun k => []) (0) (ws := ?ws1) (tk := ?tk1) ?hw1 ?ht1 ?hi ?h0 ?LH1; (case hw1 => simp only [go_sem, decide_true, decide_false, Int.reduceToNat, Nat.min_eq_left, Nat.min_eq_right, Int.reducePow, Nat.reducePow, Int.reduceLE, Int.reduceLT, Int.reduceMul, Int.reduceAdd, Int.reduceSub, Int.reduceNeg, Bool.not_true, Bool.not_false, Bool.not_not, ↓reduceIte, Nat.reduceAdd, Nat.reduceSub, Nat.reduceMul, Nat.reduceEqDiff, reduceCtorEq, Nat.reduceLT, Nat.reduceLeDiff, Nat.reduceGT]; exact rfl); (case ht1 => simp only [go_sem, decide_true, decide_false, Int.reduceToNat, Nat.min_eq_left, Nat.min_eq_right, Int.reducePow, Nat.reducePow, Int.reduceLE, Int.reduceLT, Int.reduceMul, Int.reduceAdd, Int.reduceSub, Int.reduceNeg, Bool.not_true, Bool.not_false, Bool.not_not, ↓reduceIte, Nat.reduceAdd, Nat.reduceSub, Nat.reduceMul, Nat.reduceEqDiff, reduceCtorEq, Nat.reduceLT, Nat.reduceLeDiff, Nat.reduceGT]; exact rfl); (case' LH1 => rintro k E t hx hE ht; simp only [go_sem] at ht; subst ht; simp only [go_sem]; try dsimp only at hx))
  case hi => exact ⟨Nat.zero_le _, fun i hi => absurd hi (by omega)⟩
  case h0 =>
    (focus (refine ⟨_, _, Gh.refl, [0], rfl, ?_⟩; (refine fitq ?_ ?_ ?_ <;> try exact trivial); (try any_goals (refine ⟨?_, ?_⟩)); (try any_goals (with_reducible rfl))))
    all_goals (repeat' (first | (refine And.intro ?_ ?_) | rfl))
  case LH1 =>
    obtain ⟨hk0, hka⟩ := hx
    by_cases hk : k < rs.length
    · have hkd : decide ((k : Int) < (rs.length : Int)) = true := decide_eq_true (by omega)
      have hw : IntKind.i64.wrap ((k : Int) + 1) = ((k + 1 : Nat) : Int) := by rw [wrap_i64 _ (by omega) (by omega)]; omega
      have hfa := find_at (p := hitB a N) (d := REnt.zero) hka hk
      obtain ⟨r, hr2⟩ : ∃ r, rs.getD k REnt.zero = r := ⟨_, rfl⟩
      rw [hr2] at hfa
      by_cases c1 : r.apid = a
      · have e1 : decide (r.apid = a) = true := decide_eq_true c1
        by_cases c2 : r.count = N
        · have e2 : decide (r.count = N) = true := decide_eq_true c2
          have hf := hfa (by unfold hitB; rw [e1, e2]; rfl)
          rw [hf] at hadd
          cases hs : sameI (itR r) ⟨a, c, t, d⟩ with
          | true =>
            have hs2 : sameI ⟨r.apid, r.cnt, r.time, r.data⟩ ⟨a, c, t, d⟩ = true := hs
            have hadd : AR = (rs, 9) := by rw [hadd]; dsimp only; rw [if_pos hs]
            (have zx1 := @hkd; have zx2 := @hw; have zx3 := @hr2; have zx4 := @e1; have zx5 := @e2; have zx6 := @hs2; all_goals (try ((first | (with_reducible refine wp_id ?_) | (with_reducible refine does_id ?_) | (with_reducible refine ops_id ?_)); refine walk ?_; (repeat' (first | exact trivial | with_reducible refine And.intro ?_ ?_)); all_goals (repeat (first | (with_reducible refine ImpB.mk fun hb => ?_) | (with_reducible refine ImpK.mk fun hK => ?_) | (with_reducible refine ImpF.mk fun hF => ?_) | (with_reducible refine ImpQ.mk fun hp => ?_) | (with_reducible refine AllE.mk fun p => ?_) | (with_reducible refine AllR.mk fun rest => ?_) | (with_reducible refine AllK.mk fun K => ?_))))); repeat' (with_reducible refine And.intro ?_ ?_))
            (all_goals first | exact Int.natCast_nonneg _ | exact Int.ofNat_lt.2 (by assumption) | assumption | omega | exact Nat.le_refl _ | (exfalso; simp at hb; done) | (simp only [go_sem, decide_true, decide_false, Int.reduceToNat, Nat.min_eq_left, Nat.min_eq_right, Int.reducePow, Nat.reducePow, Int.reduceLE, Int.reduceLT, Int.reduceMul, Int.reduceAdd, Int.reduceSub, Int.reduceNeg, Bool.not_true, Bool.not_false, Bool.not_not, ↓reduceIte, Nat.reduceAdd, Nat.reduceSub, Nat.reduceMul, Nat.reduceEqDiff, reduceCtorEq, Nat.reduceLT, Nat.reduceLeDiff, Nat.reduceGT]; done) | (unfold capM; omega) | (simp only [List.length_drop, List.length_take, List.length_append, List.length_cons, List.length_nil]; omega) | skip)
            rw [hadd]
            (focus (refine ⟨_, _, Gh.refl, [], rfl, ?_⟩; (refine fitq ?_ ?_ ?_ <;> try exact trivial); (try any_goals (refine ⟨?_, ?_⟩)); (try any_goals (with_reducible rfl))))
            all_goals (repeat' (first | (refine And.intro ?_ ?_) | rfl))
          | false =>
            have hs2 : sameI ⟨r.apid, r.cnt, r.time, r.data⟩ ⟨a, c, t, d⟩ = false := hs
            have hadd : AR = (rs, 4) := by rw [hadd]; dsimp only; rw [if_neg (by rw [hs]; decide)]
            (have zx1 := @hkd; have zx2 := @hw; have zx3 := @hr2; have zx4 := @e1; have zx5 := @e2; have zx6 := @hs2; all_goals (try ((first | (with_reducible refine wp_id ?_) | (with_reducible refine does_id ?_) | (with_reducible refine ops_id ?_)); refine walk ?_; (repeat' (first | exact trivial | with_reducible refine And.intro ?_ ?_)); all_goals (repeat (first | (with_reducible refine ImpB.mk fun hb => ?_) | (with_reducible refine ImpK.mk fun hK => ?_) | (with_reducible refine ImpF.mk fun hF => ?_) | (with_reducible refine ImpQ.mk fun hp => ?_) | (with_reducible refine AllE.mk fun p => ?_) | (with_reducible refine AllR.mk fun rest => ?_) | (with_reducible refine AllK.mk fun K => ?_))))); repeat' (with_reducible refine And.intro ?_ ?_))
            (all_goals first | exact Int.natCast_nonneg _ | exact Int.ofNat_lt.2 (by assumption) | assumption | omega | exact Nat.le_refl _ | (exfalso; simp at hb; done) | (simp only [go_sem, decide_true, decide_false, Int.reduceToNat, Nat.min_eq_left, Nat.min_eq_right, Int.reducePow, Nat.reducePow, Int.reduceLE, Int.reduceLT, Int.reduceMul, Int.reduceAdd, Int.reduceSub, Int.reduceNeg, Bool.not_true, Bool.not_false, Bool.not_not, ↓reduceIte, Nat.reduceAdd, Nat.reduceSub, Nat.reduceMul, Nat.reduceEqDiff, reduceCtorEq, Nat.reduceLT, Nat.reduceLeDiff, Nat.reduceGT]; done) | (unfold capM; omega) | (simp only [List.length_drop, List.length_take, List.length_append, List.length_cons, List.length_nil]; omega) | skip)
            rw [hadd]
            (focus (refine ⟨_, _, Gh.refl, [], rfl, ?_⟩; (refine fitq ?_ ?_ ?_ <;> try exact trivial); (try any_goals (refine ⟨?_, ?_⟩)); (try any_goals (with_reducible rfl))))
            all_goals (repeat' (first | (refine And.intro ?_ ?_) | rfl))
        · have e2 : decide (r.count = N) = false := decide_eq_false c2
          (have zx1 := @hkd; have zx2 := @hw; have zx3 := @hr2; have zx4 := @e1; have zx5 := @e2; all_goals (try ((first | (with_reducible refine wp_id ?_) | (with_reducible refine does_id ?_) | (with_reducible refine ops_id ?_)); refine walk ?_; (repeat' (first | exact trivial | with_reducible refine And.intro ?_ ?_)); all_goals (repeat (first | (with_reducible refine ImpB.mk fun hb => ?_) | (with_reducible refine ImpK.mk fun hK => ?_) | (with_reducible refine ImpF.mk fun hF => ?_) | (with_reducible refine ImpQ.mk fun hp => ?_) | (with_reducible refine AllE.mk fun p => ?_) | (with_reducible refine AllR.mk fun rest => ?_) | (with_reducible refine AllK.mk fun K => ?_))))); repeat' (with_reducible refine And.intro ?_ ?_))
          (all_goals first | exact Int.natCast_nonneg _ | exact Int.ofNat_lt.2 (by assumption) | assumption | omega | exact Nat.le_refl _ | (exfalso; simp at hb; done) | (simp only [go_sem, decide_true, decide_false, Int.reduceToNat, Nat.min_eq_left, Nat.min_eq_right, Int.reducePow, Nat.reducePow, Int.reduceLE, Int.reduceLT, Int.reduceMul, Int.reduceAdd, Int.reduceSub, Int.reduceNeg, Bool.not_true, Bool.not_false, Bool.not_not, ↓reduceIte, Nat.reduceAdd, Nat.reduceSub, Nat.reduceMul, Nat.reduceEqDiff, reduceCtorEq, Nat.reduceLT, Nat.reduceLeDiff, Nat.reduceGT]; done) | (unfold capM; omega) | (simp only [List.length_drop, List.length_take, List.length_append, List.length_cons, List.length_nil]; omega) | skip)
          refine ⟨k + 1, ⟨⟨(by omega : k + 1 ≤ rs.length), fun i hi => ?_⟩, (by first | omega | (dsimp only; omega))⟩, ?_⟩
          · rcases Nat.lt_or_ge i k with z | z
            · exact hka i z
            · obtain rfl : i = k := by omega
              rw [hr2]; unfold hitB; rw [e1, e2]; rfl
          (focus (refine ⟨_, _, Gh.refl, [0], rfl, ?_⟩; (refine fitq ?_ ?_ ?_ <;> try exact trivial); (try any_goals (refine ⟨?_, ?_⟩)); (try any_goals (with_reducible rfl))))
          all_goals (repeat' (first | (refine And.intro ?_ ?_) | rfl))
      · have e1 : decide (r.apid = a) = false := decide_eq_false c1
        (have zx1 := @hkd; have zx2 := @hw; have zx3 := @hr2; have zx4 := @e1; all_goals (try ((first | (with_reducible refine wp_id ?_) | (with_reducible refine does_id ?_) | (with_reducible refine ops_id ?_)); refine walk ?_; (repeat' (first | exact trivial | with_reducible refine And.intro ?_ ?_)); all_goals (repeat (first | (with_reducible refine ImpB.mk fun hb => ?_) | (with_reducible refine ImpK.mk fun hK => ?_) | (with_reducible refine ImpF.mk fun hF => ?_) | (with_reducible refine ImpQ.mk fun hp => ?_) | (with_reducible refine AllE.mk fun p => ?_) | (with_reducible refine AllR.mk fun rest => ?_) | (with_reducible refine AllK.mk fun K => ?_))))); repeat' (with_reducible refine And.intro ?_ ?_))
        (all_goals first | exact Int.natCast_nonneg _ | exact Int.ofNat_lt.2 (by assumption) | assumption | omega | exact Nat.le_refl _ | (exfalso; simp at hb; done) | (simp only [go_sem, decide_true, decide_false, Int.reduceToNat, Nat.min_eq_left, Nat.min_eq_right, Int.reducePow, Nat.reducePow, Int.reduceLE, Int.reduceLT, Int.reduceMul, Int.reduceAdd, Int.reduceSub, Int.reduceNeg, Bool.not_true, Bool.not_false, Bool.not_not, ↓reduceIte, Nat.reduceAdd, Nat.reduceSub, Nat.reduceMul, Nat.reduceEqDiff, reduceCtorEq, Nat.reduceLT, Nat.reduceLeDiff, Nat.reduceGT]; done) | (unfold capM; omega) | (simp only [List.length_drop, List.length_take, List.length_append, List.length_cons, List.length_nil]; omega) | skip)
        refine ⟨k + 1, ⟨⟨(by omega : k + 1 ≤ rs.length), fun i hi => ?_⟩, (by first | omega | (dsimp only; omega))⟩, ?_⟩
        · rcases Nat.lt_or_ge i k with z | z
          · exact hka i z
          · obtain rfl : i = k := by omega
            rw [hr2]; unfold hitB; rw [e1]; rfl
        (focus (refine ⟨_, _, Gh.refl, [0], rfl, ?_⟩; (refine fitq ?_ ?_ ?_ <;> try exact trivial); (try any_goals (refine ⟨?_, ?_⟩)); (try any_goals (with_reducible rfl))))
        all_goals (repeat' (first | (refine And.intro ?_ ?_) | rfl))
    · have hkd : decide ((k : Int) < (rs.length : Int)) = false := decide_eq_false (by omega)
      have hf := find_no (p := hitB a N) (d := REnt.zero) (l := rs) fun i hi => hka i (by omega)
      rw [hf] at hadd
      have hadd : AR = (rs ++ [⟨a, c, t, d, N⟩], 0) := hadd
      (have zx1 := @hkd; all_goals (try ((first | (with_reducible refine wp_id ?_) | (with_reducible refine does_id ?_) | (with_reducible refine ops_id ?_)); refine walk ?_; (repeat' (first | exact trivial | with_reducible refine And.intro ?_ ?_)); all_goals (repeat (first | (with_reducible refine ImpB.mk fun hb => ?_) | (with_reducible refine ImpK.mk fun hK => ?_) | (with_reducible refine ImpF.mk fun hF => ?_) | (with_reducible refine ImpQ.mk fun hp => ?_) | (with_reducible refine AllE.mk fun p => ?_) | (with_reducible refine AllR.mk fun rest => ?_) | (with_reducible refine AllK.mk fun K => ?_))))); repeat' (with_reducible refine And.intro ?_ ?_))
      (all_goals first | exact Int.natCast_nonneg _ | exact Int.ofNat_lt.2 (by assumption) | assumption | omega | exact Nat.le_refl _ | (exfalso; simp at hb; done) | (simp only [go_sem, decide_true, decide_false, Int.reduceToNat, Nat.min_eq_left, Nat.min_eq_right, Int.reducePow, Nat.reducePow, Int.reduceLE, Int.reduceLT, Int.reduceMul, Int.reduceAdd, Int.reduceSub, Int.reduceNeg, Bool.not_true, Bool.not_false, Bool.not_not, ↓reduceIte, Nat.reduceAdd, Nat.reduceSub, Nat.reduceMul, Nat.reduceEqDiff, reduceCtorEq, Nat.reduceLT, Nat.reduceLeDiff, Nat.reduceGT]; done) | (unfold capM; omega) | (simp only [List.length_drop, List.length_take, List.length_append, List.length_cons, List.length_nil]; omega) | skip)
      all_goals
        rw [hadd]
        have hll : rs.length + 1 = (rs ++ [(⟨a, c, t, d, N⟩ : REnt)]).length := by simp
        rw [hll]
        refine ⟨_, _, gh_frz (t := 3) (e := .ren) (xs := rs ++ [⟨a, c, t, d, N⟩]) rfl ?_ ?_, [], rfl, ?_⟩
        · simp only [go_sem, decide_true, decide_false, Int.reduceToNat, Nat.min_eq_left, Nat.min_eq_right, Int.reducePow, Nat.reducePow, Int.reduceLE, Int.reduceLT, Int.reduceMul, Int.reduceAdd, Int.reduceSub, Int.reduceNeg, Bool.not_true, Bool.not_false, Bool.not_not, ↓reduceIte, Nat.reduceAdd, Nat.reduceSub, Nat.reduceMul, Nat.reduceEqDiff, reduceCtorEq, Nat.reduceLT, Nat.reduceLeDiff, Nat.reduceGT]
          all_goals exact Nat.le_refl _
        · simp only [go_sem, decide_true, decide_false, Int.reduceToNat, Nat.min_eq_left, Nat.min_eq_right, Int.reducePow, Nat.reducePow, Int.reduceLE, Int.reduceLT, Int.reduceMul, Int.reduceAdd, Int.reduceSub, Int.reduceNeg, Bool.not_true, Bool.not_false, Bool.not_not, ↓reduceIte, Nat.reduceAdd, Nat.reduceSub, Nat.reduceMul, Nat.reduceEqDiff, reduceCtorEq, Nat.reduceLT, Nat.reduceLeDiff, Nat.reduceGT]
        · (refine fitq ?_ ?_ ?_ <;> try exact trivial)
          all_goals exact (List.take_of_length_le (by rw [List.length_append]; exact Nat.le_refl _)).symm
theorem c_raddX {h : List Ch} {K : KT} {rs qs : List REnt} {a c t r : Int} {d : List UInt8} (H : K (.tup [.ro .ren qs, .int .i64 r]) h) (e1 : okR rs) (e3 : addR rs ⟨a, c, t, d⟩ = (qs, r)) : Does Try.prog 21 [.ro .ren rs, .agg [.int .i64 a, .int .i64 c, .int .i64 t, .ro .byte d]] h K := by
  cases hr : rightB ⟨a, c, t, d⟩ with
  | false =>
    unfold addR at e3
    rw [if_pos hr] at e3
    obtain ⟨rfl, rfl⟩ := Prod.mk.inj e3
    exact frame_pure (b_raddW rs ⟨a, c, t, d⟩ hr) (br_cons br_ro (br_cons (br_it ⟨a, c, t, d⟩) br_nil)) (.inl rfl) (fun _ => rfl) H
  | true =>
    have b := b_radd52 rs ⟨a, c, t, d⟩ hr e1
    rw [e3] at b
    exact frame_pure b (br_cons br_ro (br_cons (br_it ⟨a, c, t, d⟩) br_nil)) (.inl rfl) (fun _ => rfl) H
abbrev i_raddX := Ctr.mk (i := 0) (g := 21) @c_raddX
attribute [instance] i_raddX
end Go.V

set_option maxRecDepth 100000
set_option maxHeartbeats 8000000
namespace Go.V
open Go.Proofs
abbrev sAt (s : List REnt) (k : Nat) : REnt := s.getD k REnt.zero
def swp (s : List REnt) (k : Nat) : List REnt := (s.set (k + 1) (sAt s k)).set k (sAt s (k + 1))
def bub (lt : REnt → REnt → Bool) (s : List REnt) : Nat → List REnt
  | 0 => s
  | k + 1 => if lt (sAt s (k + 1)) (sAt s k) = true then bub lt (swp s k) k else s
theorem swp_len (s : List REnt) (k : Nat) : (swp s k).length = s.length := by simp [swp]
theorem bub_stop {lt : REnt → REnt → Bool} {s : List REnt} {k : Nat} (h : ¬ (0 < k ∧ lt (sAt s k) (sAt s (k - 1)) = true)) : bub lt s k = s := by
  cases k with
  | zero => rfl
  | succ k =>
    rw [bub]
    exact if_neg fun q => h ⟨by omega, q⟩
theorem bub_go {lt : REnt → REnt → Bool} {s : List REnt} {k : Nat} (h : 0 < k) (h2 : lt (sAt s k) (sAt s (k - 1)) = true) : bub lt s k = bub lt ((s.set k (sAt s (k - 1))).set (k - 1) (sAt s k)) (k - 1) := by
  cases k with
  | zero => omega
  | succ k =>
    rw [bub]
    exact if_pos h2
def oS (lt : REnt → REnt → Bool) (l : List REnt) : Nat → List REnt
  | 0 => l
  | i + 1 => bub lt (oS lt l i) i
theorem bub_len (lt : REnt → REnt → Bool) : ∀ (k : Nat) (s : List REnt), (bub lt s k).length = s.length
  | 0, _ => rfl
  | k + 1, s => by
    rw [bub]
    split
    · rw [bub_len lt k, swp_len]
    · rfl
theorem oS_len (lt : REnt → REnt → Bool) (l : List REnt) : ∀ i, (oS lt l i).length = l.length
  | 0 => rfl
  | i + 1 => by
    show (bub lt (oS lt l i) i).length = _
    rw [bub_len, oS_len lt l i]
def sortR (lt : REnt → REnt → Bool) (l : List REnt) : List REnt := oS lt l (max 1 l.length)
def ltB (x y : REnt) : Bool := if x.time = y.time then (if x.apid = y.apid then decide (x.count < y.count) else decide (x.apid < y.apid)) else decide (x.time < y.time)
abbrev enL (x : REnt) : List AV := [.int .i64 x.apid, .int .i64 x.cnt, .int .i64 x.time, .ro .byte x.data, .int .i64 x.count]
theorem br_en {h : List Ch} {σ : List Nat} (x : REnt) : brA σ h (.agg (enL x)) (.agg (enL x)) := br_agg (br_cons br_int (br_cons br_int (br_cons br_int (br_cons br_ro (br_cons br_int br_nil)))))
theorem b_before (x y : REnt) : DoesK Try.prog 0 56 [.agg (enL x), .agg (enL y)] [] (EndF 0 (.bool (ltB x y)) []) := by
  refine DoesK.close ?_
  obtain ⟨a, c, t, d, n⟩ := x
  obtain ⟨a2, c2, t2, d2, n2⟩ := y
  dsimp only [enL]
  unfold ltB
  by_cases c1 : t = t2
  · have d1 : decide (¬ t = t2) = false := decide_eq_false fun q => q c1
    by_cases c3 : a = a2
    · have d3 : decide (¬ a = a2) = false := decide_eq_false fun q => q c3
      refine w_body (rs := [.tmp 4]) (tm := [.agg [.int .i64 a, .int .i64 c, .int .i64 t, .ro .byte d, .int .i64 n], .agg [.int .i64 a2, .int .i64 c2, .int .i64 t2, .ro .byte d2, .int .i64 n2], .any, .any, .any, .any, .any, .any, .any, .any, .any, .any, .any, .any, .any, .any, .any, .any, .any, .any, .any, .any, .any, .any, .any, .any, .any, .any, .any, .any, .any, .any, .any, .any, .any, .any, .any, .any]) fn_56 rfl rfl rfl rfl fun R hR => ?_
      (have zx1 := @d1; have zx2 := @d3; all_goals (try ((first | (with_reducible refine wp_id ?_) | (with_reducible refine does_id ?_) | (with_reducible refine ops_id ?_)); refine walk ?_; (repeat' (first | exact trivial | with_reducible refine And.intro ?_ ?_)); all_goals (repeat (first | (with_reducible refine ImpB.mk fun hb => ?_) | (with_reducible refine ImpK.mk fun hK => ?_) | (with_reducible refine ImpF.mk fun hF => ?_) | (with_reducible refine ImpQ.mk fun hp => ?_) | (with_reducible refine AllE.mk fun p => ?_) | (with_reducible refine AllR.mk fun rest => ?_) | (with_reducible refine AllK.mk fun K => ?_))))); repeat' (with_reducible refine And.intro ?_ ?_))
      rw [if_pos c1, if_pos c3]
      (focus (refine ⟨_, _, Gh.refl, [], rfl, ?_⟩; (refine fitq ?_ ?_ ?_ <;> try exact trivial); (try any_goals (refine ⟨?_, ?_⟩)); (try any_goals (with_reducible rfl))))
      all_goals (repeat' (first | (refine And.intro ?_ ?_) | rfl))
    · have d3 : decide (¬ a = a2) = true := decide_eq_true c3
      refine w_body (rs := [.tmp 4]) (tm := [.agg [.int .i64 a, .int .i64 c, .int .i64 t, .ro .byte d, .int .i64 n], .agg [.int .i64 a2, .int .i64 c2, .int .i64 t2, .ro .byte d2, .int .i64 n2], .any, .any, .any, .any, .any, .any, .any, .any, .any, .any, .any, .any, .any, .any, .any, .any, .any, .any, .any, .any, .any, .any, .any, .any, .any, .any, .any, .any, .any, .any, .any, .any, .any, .any, .any, .any]) fn_56 rfl rfl rfl rfl fun R hR => ?_
      (have zx1 := @d1; have zx2 := @d3; all_goals (try ((first | (with_reducible refine wp_id ?_) | (with_reducible refine does_id ?_) | (with_reducible refine ops_id ?_)); refine walk ?_; (repeat' (first | exact trivial | with_reducible refine And.intro ?_ ?_)); all_goals (repeat (first | (with_reducible refine ImpB.mk fun hb => ?_) | (with_reducible refine ImpK.mk fun hK => ?_) | (with_reducible refine ImpF.mk fun hF => ?_) | (with_reducible refine ImpQ.mk fun hp => ?_) | (with_reducible refine AllE.mk fun p => ?_) | (with_reducible refine AllR.mk fun rest => ?_) | (with_reducible refine AllK.mk fun K => ?_))))); repeat' (with_reducible refine And.intro ?_ ?_))
      rw [if_pos c1, if_neg c3]
      (focus (refine ⟨_, _, Gh.refl, [], rfl, ?_⟩; (refine fitq ?_ ?_ ?_ <;> try exact trivial); (try any_goals (refine ⟨?_, ?_⟩)); (try any_goals (with_reducible rfl))))
      all_goals (repeat' (first | (refine And.intro ?_ ?_) | rfl))
  · have d1 : decide (¬ t = t2) = true := decide_eq_true c1
    refine w_body (rs := [.tmp 4]) (tm := [.agg [.int .i64 a, .int .i64 c, .int .i64 t, .ro .byte d, .int .i64 n], .agg [.int .i64 a2, .int .i64 c2, .int .i64 t2, .ro .byte d2, .int .i64 n2], .any, .any, .any, .any, .any, .any, .any, .any, .any, .any, .any, .any, .any, .any, .any, .any, .any, .any, .any, .any, .any, .any, .any, .any, .any, .any, .any, .any, .any, .any, .any, .any, .any, .any, .any, .any]) fn_56 rfl rfl rfl rfl fun R hR => ?_
    (have zx1 := @d1; all_goals (try ((first | (with_reducible refine wp_id ?_) | (with_reducible refine does_id ?_) | (with_reducible refine ops_id ?_)); refine walk ?_; (repeat' (first | exact trivial | with_reducible refine And.intro ?_ ?_)); all_goals (repeat (first | (with_reducible refine ImpB.mk fun hb => ?_) | (with_reducible refine ImpK.mk fun hK => ?_) | (with_reducible refine ImpF.mk fun hF => ?_) | (with_reducible refine ImpQ.mk fun hp => ?_) | (with_reducible refine AllE.mk fun p => ?_) | (with_reducible refine AllR.mk fun rest => ?_) | (with_reducible refine AllK.mk fun K => ?_))))); repeat' (with_reducible refine And.intro ?_ ?_))
    rw [if_neg c1]
    (focus (refine ⟨_, _, Gh.refl, [], rfl, ?_⟩; (refine fitq ?_ ?_ ?_ <;> try exact trivial); (try any_goals (refine ⟨?_, ?_⟩)); (try any_goals (with_reducible rfl))))
    all_goals (repeat' (first | (refine And.intro ?_ ?_) | rfl))
theorem c_before {h : List Ch} {K : KT} {a c t n a2 c2 t2 n2 : Int} {d d2 : List UInt8} (H : K (.bool (ltB ⟨a, c, t, d, n⟩ ⟨a2, c2, t2, d2, n2⟩)) h) : Does Try.prog 56 [.agg [.int .i64 a, .int .i64 c, .int .i64 t, .ro .byte d, .int .i64 n], .agg [.int .i64 a2, .int .i64 c2, .int .i64 t2, .ro .byte d2, .int .i64 n2]] h K :=
  frame_pure (b_before ⟨a, c, t, d, n⟩ ⟨a2, c2, t2, d2, n2⟩) (br_cons (br_en ⟨a, c, t, d, n⟩) (br_cons (br_en ⟨a2, c2, t2, d2, n2⟩) br_nil)) (.inr rfl) (fun _ => rfl) H
abbrev i_before := Ctr.mk (i := 0) (g := 56) @c_before
attribute [instance] i_before
def itmR (s : List REnt) (k : Nat) : List Itm := (s.take k).map itR
theorem itmR_next {s : List REnt} {k : Nat} (h : k < s.length) : itmR s (k + 1) = itmR s k ++ [itR (s.getD k REnt.zero)] := by
  unfold itmR
  rw [List.take_succ_eq_append_getElem h, List.map_append, List.getD_eq_getElem?_getD, List.getElem?_eq_getElem h]
  rfl
theorem itmR_len {s : List REnt} {k : Nat} (h : k ≤ s.length) : (itmR s k).length = k := by unfold itmR; rw [List.length_map, List.length_take]; omega
theorem b_sortedB (l : List REnt) (hl : l.length ≤ 100000) : DoesK Try.prog 0 43 [.ro .ren l, .bool false] [] (EndF 0 (.ro .itm ((sortR ltB l).map itR)) []) := by
  refine DoesK.close ?_
  refine w_body (rs := [.tmp 4]) (tm := [.ro .ren l, .bool false, .any, .any, .any, .any, .any, .any, .any, .any, .any, .any, .any, .any, .any, .any, .any, .any, .any, .any, .any, .any, .any, .any, .any, .any, .any, .any, .any, .any, .any, .any, .any, .any, .any, .any, .any, .any, .any, .any, .any, .any, .any, .any, .any, .any, .any, .any, .any, .any, .any, .any, .any, .any, .any, .any, .any, .any, .any, .any, .any, .any, .any, .any, .any, .any, .any, .any, .any, .any, .any, .any, .any, .any, .any, .any, .any, .any, .any, .any, .any, .any, .any, .any, .any, .any, .any, .any, .any, .any]) fn_43 rfl rfl rfl rfl fun R hR => ?_
  (all_goals (try ((first | (with_reducible refine wp_id ?_) | (with_reducible refine does_id ?_) | (with_reducible refine ops_id ?_)); refine walk ?_; (repeat' (first | exact trivial | with_reducible refine And.intro ?_ ?_)); all_goals (repeat (first | (with_reducible refine ImpB.mk fun hb => ?_) | (with_reducible refine ImpK.mk fun hK => ?_) | (with_reducible refine ImpF.mk fun hF => ?_) | (with_reducible refine ImpQ.mk fun hp => ?_) | (with_reducible refine AllE.mk fun p => ?_) | (with_reducible refine AllR.mk fun rest => ?_) | (with_reducible refine AllK.mk fun K => ?_))))); repeat' (with_reducible refine And.intro ?_ ?_))
  any_goals first | (show l.length * 56 ≤ 140737488355328; omega) | (show l.length ≤ 140737488355328; omega)
  any_goals ((try (refine w_seq fun K hK => ?_)); (try (refine w_block ?_)); refine w_loop (A := Nat) (fun i => 1 ≤ i ∧ i ≤ max 1 l.length) (fun i => l.length + 1 - i) (fun i => [(6, .int .i64 i)]) (fun i => [(1, .rows .ren (oS ltB l i))]) (1) (ws := ?ws4) (tk := ?tk4) ?hw4 ?ht4 ?hi ?h0 ?LH4; (case hw4 => simp only [go_sem, decide_true, decide_false, Int.reduceToNat, Nat.min_eq_left, Nat.min_eq_right, Int.reducePow, Nat.reducePow, Int.reduceLE, Int.reduceLT, Int.reduceMul, Int.reduceAdd, Int.reduceSub, Int.reduceNeg, Bool.not_true, Bool.not_false, Bool.not_not, ↓reduceIte, Nat.reduceAdd, Nat.reduceSub, Nat.reduceMul, Nat.reduceEqDiff, reduceCtorEq, Nat.reduceLT, Nat.reduceLeDiff, Nat.reduceGT]; exact rfl); (case ht4 => simp only [go_sem, decide_true, decide_false, Int.reduceToNat, Nat.min_eq_left, Nat.min_eq_right, Int.reducePow, Nat.reducePow, Int.reduceLE, Int.reduceLT, Int.reduceMul, Int.reduceAdd, Int.reduceSub, Int.reduceNeg, Bool.not_true, Bool.not_false, Bool.not_not, ↓reduceIte, Nat.reduceAdd, Nat.reduceSub, Nat.reduceMul, Nat.reduceEqDiff, reduceCtorEq, Nat.reduceLT, Nat.reduceLeDiff, Nat.reduceGT]; exact rfl); (case' LH4 => rintro i E t hx hE ht; simp only [go_sem] at ht; subst ht; simp only [go_sem]; try dsimp only at hx))
  case hi => exact ⟨Nat.le_refl _, Nat.le_max_left _ _⟩
  case h0 =>
    (focus (refine ⟨_, _, Gh.refl, [0, 1], rfl, ?_⟩; (refine fitq ?_ ?_ ?_ <;> try exact trivial); (try any_goals (refine ⟨?_, ?_⟩)); (try any_goals (with_reducible rfl))))
    all_goals (repeat' (first | (refine And.intro ?_ ?_) | rfl))
  case LH4 =>
    obtain ⟨hi1, hi2⟩ := hx
    have hol := oS_len ltB l i
    by_cases hin : i < l.length
    · have hid : decide ((i : Int) < (l.length : Int)) = true := decide_eq_true (by omega)
      have hiw : IntKind.i64.wrap ((i : Int) + 1) = ((i + 1 : Nat) : Int) := by rw [wrap_i64 _ (by omega) (by omega)]; omega
      (have zx1 := @hid; all_goals (try ((first | (with_reducible refine wp_id ?_) | (with_reducible refine does_id ?_) | (with_reducible refine ops_id ?_)); refine walk ?_; (repeat' (first | exact trivial | with_reducible refine And.intro ?_ ?_)); all_goals (repeat (first | (with_reducible refine ImpB.mk fun hb => ?_) | (with_reducible refine ImpK.mk fun hK => ?_) | (with_reducible refine ImpF.mk fun hF => ?_) | (with_reducible refine ImpQ.mk fun hp => ?_) | (with_reducible refine AllE.mk fun p => ?_) | (with_reducible refine AllR.mk fun rest => ?_) | (with_reducible refine AllK.mk fun K => ?_))))); repeat' (with_reducible refine And.intro ?_ ?_))
      any_goals ((try (refine w_seq fun K hK => ?_)); (try (refine w_block ?_)); refine w_loop (A := Nat × List REnt) (fun p => (p.1 ≤ i ∧ p.2.length = l.length) ∧ bub ltB p.2 p.1 = oS ltB l (i + 1)) (fun p => p.1) (fun p => [(7, .int .i64 p.1)]) (fun p => [(1, .rows .ren p.2)]) ((i, oS ltB l i)) (ws := ?ws5) (tk := ?tk5) ?hw5 ?ht5 ?hi_1 ?h0_1 ?LH5; (case hw5 => simp only [go_sem, decide_true, decide_false, Int.reduceToNat, Nat.min_eq_left, Nat.min_eq_right, Int.reducePow, Nat.reducePow, Int.reduceLE, Int.reduceLT, Int.reduceMul, Int.reduceAdd, Int.reduceSub, Int.reduceNeg, Bool.not_true, Bool.not_false, Bool.not_not, ↓reduceIte, Nat.reduceAdd, Nat.reduceSub, Nat.reduceMul, Nat.reduceEqDiff, reduceCtorEq, Nat.reduceLT, Nat.reduceLeDiff, Nat.reduceGT]; exact rfl); (case ht5 => simp only [go_sem, decide_true, decide_false, Int.reduceToNat, Nat.min_eq_left, Nat.min_eq_right, Int.reducePow, Nat.reducePow, Int.reduceLE, Int.reduceLT, Int.reduceMul, Int.reduceAdd, Int.reduceSub, Int.reduceNeg, Bool.not_true, Bool.not_false, Bool.not_not, ↓reduceIte, Nat.reduceAdd, Nat.reduceSub, Nat.reduceMul, Nat.reduceEqDiff, reduceCtorEq, Nat.reduceLT, Nat.reduceLeDiff, Nat.reduceGT]; exact rfl); (case' LH5 => rintro ⟨k, s⟩ E t hx hE ht; simp only [go_sem] at ht; subst ht; simp only [go_sem]; try dsimp only at hx))
      case hi_1 => exact ⟨⟨Nat.le_refl _, hol⟩, rfl⟩
      case h0_1 =>
        (focus (refine ⟨_, _, Gh.refl, [0, 1], rfl, ?_⟩; (refine fitq ?_ ?_ ?_ <;> try exact trivial); (try any_goals (refine ⟨?_, ?_⟩)); (try any_goals (with_reducible rfl))))
        all_goals (repeat' (first | (refine And.intro ?_ ?_) | rfl))
      case LH5 =>
        obtain ⟨⟨hk0, hsl⟩, hkb⟩ := hx
        by_cases hk : 0 < k
        · have hkd : decide (0 < (k : Int)) = true := decide_eq_true (by omega)
          have hkw : IntKind.i64.wrap ((k : Int) - 1) = ((k - 1 : Nat) : Int) := by rw [wrap_i64 _ (by omega) (by omega)]; omega
          obtain ⟨y, hy⟩ : ∃ y, s.getD k REnt.zero = y := ⟨_, rfl⟩
          obtain ⟨z, hz⟩ : ∃ z, s.getD (k - 1) REnt.zero = z := ⟨_, rfl⟩
          cases hc : ltB y z with
          | true =>
            have hc2 : ltB ⟨y.apid, y.cnt, y.time, y.data, y.count⟩ ⟨z.apid, z.cnt, z.time, z.data, z.count⟩ = true := hc
            have hg := bub_go (lt := ltB) (s := s) hk (by rw [show sAt s k = y from hy, show sAt s (k - 1) = z from hz]; exact hc)
            rw [show sAt s k = y from hy, show sAt s (k - 1) = z from hz] at hg
            (have zx1 := @hkd; have zx2 := @hkw; have zx3 := @hy; have zx4 := @hz; have zx5 := @hc2; all_goals (try ((first | (with_reducible refine wp_id ?_) | (with_reducible refine does_id ?_) | (with_reducible refine ops_id ?_)); refine walk ?_; (repeat' (first | exact trivial | with_reducible refine And.intro ?_ ?_)); all_goals (repeat (first | (with_reducible refine ImpB.mk fun hb => ?_) | (with_reducible refine ImpK.mk fun hK => ?_) | (with_reducible refine ImpF.mk fun hF => ?_) | (with_reducible refine ImpQ.mk fun hp => ?_) | (with_reducible refine AllE.mk fun p => ?_) | (with_reducible refine AllR.mk fun rest => ?_) | (with_reducible refine AllK.mk fun K => ?_))))); repeat' (with_reducible refine And.intro ?_ ?_))
            (all_goals first | exact Int.natCast_nonneg _ | exact Int.ofNat_lt.2 (by assumption) | assumption | omega | exact Nat.le_refl _ | (exfalso; simp at hb; done) | (simp only [go_sem, decide_true, decide_false, Int.reduceToNat, Nat.min_eq_left, Nat.min_eq_right, Int.reducePow, Nat.reducePow, Int.reduceLE, Int.reduceLT, Int.reduceMul, Int.reduceAdd, Int.reduceSub, Int.reduceNeg, Bool.not_true, Bool.not_false, Bool.not_not, ↓reduceIte, Nat.reduceAdd, Nat.reduceSub, Nat.reduceMul, Nat.reduceEqDiff, reduceCtorEq, Nat.reduceLT, Nat.reduceLeDiff, Nat.reduceGT]; done) | (unfold capM; omega) | (simp only [List.length_drop, List.length_take, List.length_append, List.length_cons, List.length_nil]; omega) | skip)
            refine ⟨(k - 1, (s.set k z).set (k - 1) y), ⟨⟨⟨(show k - 1 ≤ i by omega), (show ((s.set k z).set (k - 1) y).length = l.length by rw [List.length_set, List.length_set]; exact hsl)⟩, hg.symm.trans hkb⟩, (show k - 1 < k by omega)⟩, ?_⟩
            (focus (refine ⟨_, _, Gh.refl, [0, 1], rfl, ?_⟩; (refine fitq ?_ ?_ ?_ <;> try exact trivial); (try any_goals (refine ⟨?_, ?_⟩)); (try any_goals (with_reducible rfl))))
            all_goals (repeat' (first | (refine And.intro ?_ ?_) | rfl))
          | false =>
            have hc2 : ltB ⟨y.apid, y.cnt, y.time, y.data, y.count⟩ ⟨z.apid, z.cnt, z.time, z.data, z.count⟩ = false := hc
            have hb2 := bub_stop (lt := ltB) (s := s) (k := k) (fun q => by rw [show sAt s k = y from hy, show sAt s (k - 1) = z from hz, hc] at q; exact absurd q.2 (by decide))
            rw [hb2] at hkb
            subst hkb
            (have zx1 := @hkd; have zx2 := @hkw; have zx3 := @hy; have zx4 := @hz; have zx5 := @hc2; have zx6 := @hiw; all_goals (try ((first | (with_reducible refine wp_id ?_) | (with_reducible refine does_id ?_) | (with_reducible refine ops_id ?_)); refine walk ?_; (repeat' (first | exact trivial | with_reducible refine And.intro ?_ ?_)); all_goals (repeat (first | (with_reducible refine ImpB.mk fun hb => ?_) | (with_reducible refine ImpK.mk fun hK => ?_) | (with_reducible refine ImpF.mk fun hF => ?_) | (with_reducible refine ImpQ.mk fun hp => ?_) | (with_reducible refine AllE.mk fun p => ?_) | (with_reducible refine AllR.mk fun rest => ?_) | (with_reducible refine AllK.mk fun K => ?_))))); repeat' (with_reducible refine And.intro ?_ ?_))
            (all_goals first | exact Int.natCast_nonneg _ | exact Int.ofNat_lt.2 (by assumption) | assumption | omega | exact Nat.le_refl _ | (exfalso; simp at hb; done) | (simp only [go_sem, decide_true, decide_false, Int.reduceToNat, Nat.min_eq_left, Nat.min_eq_right, Int.reducePow, Nat.reducePow, Int.reduceLE, Int.reduceLT, Int.reduceMul, Int.reduceAdd, Int.reduceSub, Int.reduceNeg, Bool.not_true, Bool.not_false, Bool.not_not, ↓reduceIte, Nat.reduceAdd, Nat.reduceSub, Nat.reduceMul, Nat.reduceEqDiff, reduceCtorEq, Nat.reduceLT, Nat.reduceLeDiff, Nat.reduceGT]; done) | (unfold capM; omega) | (simp only [List.length_drop, List.length_take, List.length_append, List.length_cons, List.length_nil]; omega) | skip)
            refine ⟨i + 1, ⟨⟨(by omega : 1 ≤ i + 1), (by omega : i + 1 ≤ max 1 l.length)⟩, (by first | omega | (dsimp only; omega))⟩, ?_⟩
            (focus (refine ⟨_, _, Gh.refl, [0, 1], rfl, ?_⟩; (refine fitq ?_ ?_ ?_ <;> try exact trivial); (try any_goals (refine ⟨?_, ?_⟩)); (try any_goals (with_reducible rfl))))
            all_goals (repeat' (first | (refine And.intro ?_ ?_) | rfl))
        · have hkd : decide (0 < (k : Int)) = false := decide_eq_false (by omega)
          have hb2 := bub_stop (lt := ltB) (s := s) (k := k) (fun q => hk q.1)
          rw [hb2] at hkb
          subst hkb
          (have zx1 := @hkd; have zx2 := @hiw; all_goals (try ((first | (with_reducible refine wp_id ?_) | (with_reducible refine does_id ?_) | (with_reducible refine ops_id ?_)); refine walk ?_; (repeat' (first | exact trivial | with_reducible refine And.intro ?_ ?_)); all_goals (repeat (first | (with_reducible refine ImpB.mk fun hb => ?_) | (with_reducible refine ImpK.mk fun hK => ?_) | (with_reducible refine ImpF.mk fun hF => ?_) | (with_reducible refine ImpQ.mk fun hp => ?_) | (with_reducible refine AllE.mk fun p => ?_) | (with_reducible refine AllR.mk fun rest => ?_) | (with_reducible refine AllK.mk fun K => ?_))))); repeat' (with_reducible refine And.intro ?_ ?_))
          (all_goals first | exact Int.natCast_nonneg _ | exact Int.ofNat_lt.2 (by assumption) | assumption | omega | exact Nat.le_refl _ | (exfalso; simp at hb; done) | (simp only [go_sem, decide_true, decide_false, Int.reduceToNat, Nat.min_eq_left, Nat.min_eq_right, Int.reducePow, Nat.reducePow, Int.reduceLE, Int.reduceLT, Int.reduceMul, Int.reduceAdd, Int.reduceSub, Int.reduceNeg, Bool.not_true, Bool.not_false, Bool.not_not, ↓reduceIte, Nat.reduceAdd, Nat.reduceSub, Nat.reduceMul, Nat.reduceEqDiff, reduceCtorEq, Nat.reduceLT, Nat.reduceLeDiff, Nat.reduceGT]; done) | (unfold capM; omega) | (simp only [List.length_drop, List.length_take, List.length_append, List.length_cons, List.length_nil]; omega) | skip)
          refine ⟨i + 1, ⟨⟨(by omega : 1 ≤ i + 1), (by omega : i + 1 ≤ max 1 l.length)⟩, (by first | omega | (dsimp only; omega))⟩, ?_⟩
          (focus (refine ⟨_, _, Gh.refl, [0, 1], rfl, ?_⟩; (refine fitq ?_ ?_ ?_ <;> try exact trivial); (try any_goals (refine ⟨?_, ?_⟩)); (try any_goals (with_reducible rfl))))
          all_goals (repeat' (first | (refine And.intro ?_ ?_) | rfl))
    · have hid : decide ((i : Int) < (l.length : Int)) = false := decide_eq_false (by omega)
      have hie : oS ltB l i = sortR ltB l := by unfold sortR; congr 1; omega
      rw [hie] at hol ⊢
      (have zx1 := @hid; all_goals (try ((first | (with_reducible refine wp_id ?_) | (with_reducible refine does_id ?_) | (with_reducible refine ops_id ?_)); refine walk ?_; (repeat' (first | exact trivial | with_reducible refine And.intro ?_ ?_)); all_goals (repeat (first | (with_reducible refine ImpB.mk fun hb => ?_) | (with_reducible refine ImpK.mk fun hK => ?_) | (with_reducible refine ImpF.mk fun hF => ?_) | (with_reducible refine ImpQ.mk fun hp => ?_) | (with_reducible refine AllE.mk fun p => ?_) | (with_reducible refine AllR.mk fun rest => ?_) | (with_reducible refine AllK.mk fun K => ?_))))); repeat' (with_reducible refine And.intro ?_ ?_))
      refine Wp.ghost (gh_adopt (s := 9) .itm trivial) ?_
      simp only [go_sem, decide_true, decide_false, Int.reduceToNat, Nat.min_eq_left, Nat.min_eq_right, Int.reducePow, Nat.reducePow, Int.reduceLE, Int.reduceLT, Int.reduceMul, Int.reduceAdd, Int.reduceSub, Int.reduceNeg, Bool.not_true, Bool.not_false, Bool.not_not, ↓reduceIte, Nat.reduceAdd, Nat.reduceSub, Nat.reduceMul, Nat.reduceEqDiff, reduceCtorEq, Nat.reduceLT, Nat.reduceLeDiff, Nat.reduceGT]
      generalize sortR ltB l = S at *
      any_goals ((try (refine w_seq fun K hK => ?_)); (try (refine w_block ?_)); refine w_loop (A := Nat) (fun j => j ≤ S.length) (fun j => S.length - j) (fun j => [(9, .sl 2 .itm 0 j), (10, .int .i64 j)]) (fun j => [(2, .rows .itm (itmR S j))]) (0) (ws := ?ws6) (tk := ?tk6) ?hw6 ?ht6 ?hi_2 ?h0_2 ?LH6; (case hw6 => simp only [go_sem, decide_true, decide_false, Int.reduceToNat, Nat.min_eq_left, Nat.min_eq_right, Int.reducePow, Nat.reducePow, Int.reduceLE, Int.reduceLT, Int.reduceMul, Int.reduceAdd, Int.reduceSub, Int.reduceNeg, Bool.not_true, Bool.not_false, Bool.not_not, ↓reduceIte, Nat.reduceAdd, Nat.reduceSub, Nat.reduceMul, Nat.reduceEqDiff, reduceCtorEq, Nat.reduceLT, Nat.reduceLeDiff, Nat.reduceGT]; exact rfl); (case ht6 => simp only [go_sem, decide_true, decide_false, Int.reduceToNat, Nat.min_eq_left, Nat.min_eq_right, Int.reducePow, Nat.reducePow, Int.reduceLE, Int.reduceLT, Int.reduceMul, Int.reduceAdd, Int.reduceSub, Int.reduceNeg, Bool.not_true, Bool.not_false, Bool.not_not, ↓reduceIte, Nat.reduceAdd, Nat.reduceSub, Nat.reduceMul, Nat.reduceEqDiff, reduceCtorEq, Nat.reduceLT, Nat.reduceLeDiff, Nat.reduceGT]; exact rfl); (case' LH6 => rintro j E t hx hE ht; simp only [go_sem] at ht; subst ht; simp only [go_sem]; try dsimp only at hx))
      case hi_2 => exact Nat.zero_le _
      case h0_2 =>
        (focus (refine ⟨_, _, Gh.refl, [0, 1, 2], rfl, ?_⟩; (refine fitq ?_ ?_ ?_ <;> try exact trivial); (try any_goals (refine ⟨?_, ?_⟩)); (try any_goals (with_reducible rfl))))
        all_goals (repeat' (first | (refine And.intro ?_ ?_) | rfl))
      case LH6 =>
        have hj0 : j ≤ S.length := hx
        have hjl := itmR_len hj0
        have hjw : IntKind.i64.wrap ((j : Int) + 1) = ((j + 1 : Nat) : Int) := by rw [wrap_i64 _ (by omega) (by omega)]; omega
        by_cases hj : j < S.length
        · have hjd : decide ((j : Int) < (l.length : Int)) = true := decide_eq_true (by omega)
          have hn := itmR_next hj
          obtain ⟨y, hy⟩ : ∃ y, S.getD j REnt.zero = y := ⟨_, rfl⟩
          rw [hy] at hn
          have hn2 : itmR S (j + 1) = itmR S j ++ [⟨y.apid, y.cnt, y.time, y.data⟩] := hn
          (have zx1 := @hjd; have zx2 := @hjw; have zx3 := @hy; have zx4 := @hjl; all_goals (try ((first | (with_reducible refine wp_id ?_) | (with_reducible refine does_id ?_) | (with_reducible refine ops_id ?_)); refine walk ?_; (repeat' (first | exact trivial | with_reducible refine And.intro ?_ ?_)); all_goals (repeat (first | (with_reducible refine ImpB.mk fun hb => ?_) | (with_reducible refine ImpK.mk fun hK => ?_) | (with_reducible refine ImpF.mk fun hF => ?_) | (with_reducible refine ImpQ.mk fun hp => ?_) | (with_reducible refine AllE.mk fun p => ?_) | (with_reducible refine AllR.mk fun rest => ?_) | (with_reducible refine AllK.mk fun K => ?_))))); repeat' (with_reducible refine And.intro ?_ ?_))
          any_goals first | (show (j + 1) * 48 ≤ 140737488355328; omega) | (show j ≤ (_ : Nat); omega) | (show (j : Int) < (l.length : Int); omega) | (show j < S.length; omega) | exact Int.natCast_nonneg _
          refine ⟨j + 1, ⟨(by omega : j + 1 ≤ S.length), (by first | omega | (dsimp only; omega))⟩, ?_⟩
          dsimp only
          rw [hn2]
          (focus (refine ⟨_, _, Gh.refl, [0, 1, 4], rfl, ?_⟩; (refine fitq ?_ ?_ ?_ <;> try exact trivial); (try any_goals (refine ⟨?_, ?_⟩)); (try any_goals (with_reducible rfl))))
          all_goals (repeat' (first | (refine And.intro ?_ ?_) | rfl))
        · have hjd : decide ((j : Int) < (l.length : Int)) = false := decide_eq_false (by omega)
          have hje : itmR S j = S.map itR := by unfold itmR; rw [List.take_of_length_le (by omega)]
          rw [hje]
          (have zx1 := @hjd; all_goals (try ((first | (with_reducible refine wp_id ?_) | (with_reducible refine does_id ?_) | (with_reducible refine ops_id ?_)); refine walk ?_; (repeat' (first | exact trivial | with_reducible refine And.intro ?_ ?_)); all_goals (repeat (first | (with_reducible refine ImpB.mk fun hb => ?_) | (with_reducible refine ImpK.mk fun hK => ?_) | (with_reducible refine ImpF.mk fun hF => ?_) | (with_reducible refine ImpQ.mk fun hp => ?_) | (with_reducible refine AllE.mk fun p => ?_) | (with_reducible refine AllR.mk fun rest => ?_) | (with_reducible refine AllK.mk fun K => ?_))))); repeat' (with_reducible refine And.intro ?_ ?_))
          refine end_ro rfl ?_ rfl ?_
          · rw [List.length_map]; omega
          · simp only [go_sem, decide_true, decide_false, Int.reduceToNat, Nat.min_eq_left, Nat.min_eq_right, Int.reducePow, Nat.reducePow, Int.reduceLE, Int.reduceLT, Int.reduceMul, Int.reduceAdd, Int.reduceSub, Int.reduceNeg, Bool.not_true, Bool.not_false, Bool.not_not, ↓reduceIte, Nat.reduceAdd, Nat.reduceSub, Nat.reduceMul, Nat.reduceEqDiff, reduceCtorEq, Nat.reduceLT, Nat.reduceLeDiff, Nat.reduceGT]
theorem c_sortedB {h : List Ch} {K : KT} {l : List REnt} {x : AV} (H : K (.ro .itm ((sortR ltB l).map itR)) h) (q1 : isRO .ren l x) (s1 : l.length ≤ 100000) : Does Try.prog 43 [x, .bool false] h K :=
  frame_pure (b_sortedB l s1) (br_cons q1.br (br_cons br_bool br_nil)) (.inl (by simp only [brTL, q1.brT]; rfl)) (fun _ => rfl) H
theorem c_sortedSB {h : List Ch} {K : KT} {l : List REnt} {g n : Nat} (H : K (.ro .itm ((sortR ltB l).map itR)) (frHs g .ren l (h.set g .gone))) (o : hth h g = .rows .ren l) (s1 : n = l.length) (s2 : l.length ≤ 100000) (s3 : frObH g .ren l.length h) : Does Try.prog 43 [.sl g .ren 0 n, .bool false] h K := by
  subst s1
  refine Does.ghost (gh_frz (t := g) (e := .ren) (xs := l) o (by simp [frObL, frOb]) s3) ?_
  have e : frL g .ren l [.sl g .ren 0 l.length, .bool false] = [.ro .ren l, .bool false] := by simp [frL, frA]
  rw [e]
  exact c_sortedB H isRO_ro s2
abbrev i_sortedSB := Ctr.mk (i := 3) (g := 43) @c_sortedSB
attribute [instance] i_sortedSB
end Go.V
