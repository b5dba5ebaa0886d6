/-
  monitor, the reference: number, Valid, New, result, find, State.
  monitor, the reference: New, result, find, State, Enable.
  monitor, the reference: find, State, Enable, Check.
-/
import Derived.Test.YtifighagbpjogaaPart21
set_option linter.unusedVariables false
set_option linter.unusedSimpArgs false
set_option maxRecDepth 100000
set_option maxHeartbeats 8000000
namespace Go.V
open Go.Proofs
attribute [-go_sem] SL PL
theorem b_rnum (n : Int) : DoesK Try.prog 0 45 [.int .i64 n] [] (EndF 0 (.bool (inN n)) []) := by
  refine DoesK.close ?_
  unfold inN
  refine w_body (rs := [.tmp 2]) (tm := [.int .i64 n, .any, .any, .any, .any, .any, .any, .any, .any]) fn_45 rfl rfl rfl rfl fun R hR => ?_
  (all_goals (try ((with_reducible first | refine wp_id ?_ | refine does_id ?_ | refine ops_id ?_ | refine dw_id ?_); refine walk ?_; (repeat' (first | exact trivial | with_reducible refine And.intro ?_ ?_)); all_goals (repeat with_reducible first | refine ImpB.mk fun hb => ?_ | refine ImpK.mk fun hK => ?_ | refine ImpF.mk fun hF => ?_ | refine ImpQ.mk fun hp => ?_ | refine AllE.mk fun p => ?_ | refine AllR.mk fun rest => ?_ | refine AllK.mk fun K => ?_))); repeat' (with_reducible refine And.intro ?_ ?_))
  all_goals
    (focus (refine ⟨_, _, Gh.refl, [], rfl, ?_⟩; (refine fitq ?_ ?_ ?_ <;> try exact trivial); (try any_goals (refine ⟨?_, ?_⟩)); (try any_goals (with_reducible rfl))))
    simp [*]
theorem c_rnum {h : List Ch} {K : KT} {n : Int} (H : K (.bool (inN n)) h) : Does Try.prog 45 [.int .i64 n] h K :=
  frame_pure (b_rnum n) (br_cons br_int br_nil) (.inl rfl) (fun _ => rfl) H
abbrev i_rnum := Ctr.mk (i := 0) (g := 45) @c_rnum
attribute [instance] i_rnum
def kndB (m : Mon) : Bool := if m.kind = 1 then (decide (-2147483648 ≤ m.low) && decide (m.low ≤ m.high) && decide (m.high ≤ 2147483648)) else if m.kind = 2 then (decide (-2147483648 ≤ m.low) && decide (m.low ≤ 2147483648) && decide (m.high = 0)) else if m.kind = 3 then (decide (m.low = 0) && decide (0 ≤ m.high) && decide (m.high ≤ 4294967296)) else false
def hdB (m : Mon) : Bool := inN m.id && inN m.param && inN m.ev && !decide (m.rep < 1) && !decide (256 < m.rep) && !decide (m.sev < 1) && !decide (4 < m.sev)
def vldB (m : Mon) : Bool := hdB m && kndB m
theorem b_vld (m : Mon) : DoesK Try.prog 0 32 [.agg (monL m)] [] (EndF 0 (.bool (vldB m)) []) := by
  refine DoesK.close ?_
  cases hh : hdB m with
  | false =>
    have hv : vldB m = false := by unfold vldB; rw [hh]; rfl
    rw [hv]
    refine w_body (rs := [.tmp 2]) (tm := [.agg (monL m), .any, .any, .any, .any, .any, .any, .any, .any, .any, .any, .any, .any, .any, .any, .any, .any, .any, .any, .any, .any, .any, .any, .any, .any, .any, .any, .any, .any, .any, .any, .any, .any, .any, .any, .any, .any, .any, .any, .any, .any, .any, .any, .any, .any, .any, .any, .any, .any, .any, .any, .any, .any, .any, .any, .any, .any, .any, .any, .any, .any, .any, .any, .any, .any, .any, .any, .any, .any, .any, .any, .any, .any, .any, .any, .any, .any, .any, .any, .any, .any, .any, .any, .any, .any, .any, .any, .any]) fn_32 rfl rfl rfl rfl fun R hR => ?_
    (all_goals (try ((with_reducible first | refine wp_id ?_ | refine does_id ?_ | refine ops_id ?_ | refine dw_id ?_); refine walk ?_; (repeat' (first | exact trivial | with_reducible refine And.intro ?_ ?_)); all_goals (repeat with_reducible first | refine ImpB.mk fun hb => ?_ | refine ImpK.mk fun hK => ?_ | refine ImpF.mk fun hF => ?_ | refine ImpQ.mk fun hp => ?_ | refine AllE.mk fun p => ?_ | refine AllR.mk fun rest => ?_ | refine AllK.mk fun K => ?_))); repeat' (with_reducible refine And.intro ?_ ?_))
    all_goals first
      | (exfalso; unfold hdB at hh; simp_all; done)
      | ((focus (refine ⟨_, _, Gh.refl, [], rfl, ?_⟩; (refine fitq ?_ ?_ ?_ <;> try exact trivial); (try any_goals (refine ⟨?_, ?_⟩)); (try any_goals (with_reducible rfl)))); all_goals (repeat' (first | (refine And.intro ?_ ?_) | rfl)); done)
      | skip
  | true =>
    have hv : vldB m = kndB m := by unfold vldB; rw [hh]; rfl
    rw [hv]
    unfold hdB at hh
    simp only [Bool.and_eq_true, Bool.not_eq_true'] at hh
    unfold kndB
    by_cases k1 : m.kind = 1
    · have d1 : decide (m.kind = 1) = true := decide_eq_true k1
      rw [if_pos k1]
      refine w_body (rs := [.tmp 2]) (tm := [.agg (monL m), .any, .any, .any, .any, .any, .any, .any, .any, .any, .any, .any, .any, .any, .any, .any, .any, .any, .any, .any, .any, .any, .any, .any, .any, .any, .any, .any, .any, .any, .any, .any, .any, .any, .any, .any, .any, .any, .any, .any, .any, .any, .any, .any, .any, .any, .any, .any, .any, .any, .any, .any, .any, .any, .any, .any, .any, .any, .any, .any, .any, .any, .any, .any, .any, .any, .any, .any, .any, .any, .any, .any, .any, .any, .any, .any, .any, .any, .any, .any, .any, .any, .any, .any, .any, .any, .any, .any]) fn_32 rfl rfl rfl rfl fun R hR => ?_
      (have zx1 := @hh; have zx2 := @d1; all_goals (try ((with_reducible first | refine wp_id ?_ | refine does_id ?_ | refine ops_id ?_ | refine dw_id ?_); refine walk ?_; (repeat' (first | exact trivial | with_reducible refine And.intro ?_ ?_)); all_goals (repeat with_reducible first | refine ImpB.mk fun hb => ?_ | refine ImpK.mk fun hK => ?_ | refine ImpF.mk fun hF => ?_ | refine ImpQ.mk fun hp => ?_ | refine AllE.mk fun p => ?_ | refine AllR.mk fun rest => ?_ | refine AllK.mk fun K => ?_))); repeat' (with_reducible refine And.intro ?_ ?_))
      all_goals
        (focus (refine ⟨_, _, Gh.refl, [], rfl, ?_⟩; (refine fitq ?_ ?_ ?_ <;> try exact trivial); (try any_goals (refine ⟨?_, ?_⟩)); (try any_goals (with_reducible rfl))))
        simp [*]
    have d1 : decide (m.kind = 1) = false := decide_eq_false k1
    rw [if_neg k1]
    by_cases k2 : m.kind = 2
    · have d2 : decide (m.kind = 2) = true := decide_eq_true k2
      rw [if_pos k2]
      refine w_body (rs := [.tmp 2]) (tm := [.agg (monL m), .any, .any, .any, .any, .any, .any, .any, .any, .any, .any, .any, .any, .any, .any, .any, .any, .any, .any, .any, .any, .any, .any, .any, .any, .any, .any, .any, .any, .any, .any, .any, .any, .any, .any, .any, .any, .any, .any, .any, .any, .any, .any, .any, .any, .any, .any, .any, .any, .any, .any, .any, .any, .any, .any, .any, .any, .any, .any, .any, .any, .any, .any, .any, .any, .any, .any, .any, .any, .any, .any, .any, .any, .any, .any, .any, .any, .any, .any, .any, .any, .any, .any, .any, .any, .any, .any, .any]) fn_32 rfl rfl rfl rfl fun R hR => ?_
      (have zx1 := @hh; have zx2 := @d1; have zx3 := @d2; all_goals (try ((with_reducible first | refine wp_id ?_ | refine does_id ?_ | refine ops_id ?_ | refine dw_id ?_); refine walk ?_; (repeat' (first | exact trivial | with_reducible refine And.intro ?_ ?_)); all_goals (repeat with_reducible first | refine ImpB.mk fun hb => ?_ | refine ImpK.mk fun hK => ?_ | refine ImpF.mk fun hF => ?_ | refine ImpQ.mk fun hp => ?_ | refine AllE.mk fun p => ?_ | refine AllR.mk fun rest => ?_ | refine AllK.mk fun K => ?_))); repeat' (with_reducible refine And.intro ?_ ?_))
      all_goals
        (focus (refine ⟨_, _, Gh.refl, [], rfl, ?_⟩; (refine fitq ?_ ?_ ?_ <;> try exact trivial); (try any_goals (refine ⟨?_, ?_⟩)); (try any_goals (with_reducible rfl))))
        simp [*]
    have d2 : decide (m.kind = 2) = false := decide_eq_false k2
    rw [if_neg k2]
    by_cases k3 : m.kind = 3
    · have d3 : decide (m.kind = 3) = true := decide_eq_true k3
      rw [if_pos k3]
      refine w_body (rs := [.tmp 2]) (tm := [.agg (monL m), .any, .any, .any, .any, .any, .any, .any, .any, .any, .any, .any, .any, .any, .any, .any, .any, .any, .any, .any, .any, .any, .any, .any, .any, .any, .any, .any, .any, .any, .any, .any, .any, .any, .any, .any, .any, .any, .any, .any, .any, .any, .any, .any, .any, .any, .any, .any, .any, .any, .any, .any, .any, .any, .any, .any, .any, .any, .any, .any, .any, .any, .any, .any, .any, .any, .any, .any, .any, .any, .any, .any, .any, .any, .any, .any, .any, .any, .any, .any, .any, .any, .any, .any, .any, .any, .any, .any]) fn_32 rfl rfl rfl rfl fun R hR => ?_
      (have zx1 := @hh; have zx2 := @d1; have zx3 := @d2; have zx4 := @d3; all_goals (try ((with_reducible first | refine wp_id ?_ | refine does_id ?_ | refine ops_id ?_ | refine dw_id ?_); refine walk ?_; (repeat' (first | exact trivial | with_reducible refine And.intro ?_ ?_)); all_goals (repeat with_reducible first | refine ImpB.mk fun hb => ?_ | refine ImpK.mk fun hK => ?_ | refine ImpF.mk fun hF => ?_ | refine ImpQ.mk fun hp => ?_ | refine AllE.mk fun p => ?_ | refine AllR.mk fun rest => ?_ | refine AllK.mk fun K => ?_))); repeat' (with_reducible refine And.intro ?_ ?_))
      all_goals
        (focus (refine ⟨_, _, Gh.refl, [], rfl, ?_⟩; (refine fitq ?_ ?_ ?_ <;> try exact trivial); (try any_goals (refine ⟨?_, ?_⟩)); (try any_goals (with_reducible rfl))))
        simp [*]
    have d3 : decide (m.kind = 3) = false := decide_eq_false k3
    rw [if_neg k3]
    refine w_body (rs := [.tmp 2]) (tm := [.agg (monL m), .any, .any, .any, .any, .any, .any, .any, .any, .any, .any, .any, .any, .any, .any, .any, .any, .any, .any, .any, .any, .any, .any, .any, .any, .any, .any, .any, .any, .any, .any, .any, .any, .any, .any, .any, .any, .any, .any, .any, .any, .any, .any, .any, .any, .any, .any, .any, .any, .any, .any, .any, .any, .any, .any, .any, .any, .any, .any, .any, .any, .any, .any, .any, .any, .any, .any, .any, .any, .any, .any, .any, .any, .any, .any, .any, .any, .any, .any, .any, .any, .any, .any, .any, .any, .any, .any, .any]) fn_32 rfl rfl rfl rfl fun R hR => ?_
    (have zx1 := @hh; have zx2 := @d1; have zx3 := @d2; have zx4 := @d3; all_goals (try ((with_reducible first | refine wp_id ?_ | refine does_id ?_ | refine ops_id ?_ | refine dw_id ?_); refine walk ?_; (repeat' (first | exact trivial | with_reducible refine And.intro ?_ ?_)); all_goals (repeat with_reducible first | refine ImpB.mk fun hb => ?_ | refine ImpK.mk fun hK => ?_ | refine ImpF.mk fun hF => ?_ | refine ImpQ.mk fun hp => ?_ | refine AllE.mk fun p => ?_ | refine AllR.mk fun rest => ?_ | refine AllK.mk fun K => ?_))); repeat' (with_reducible refine And.intro ?_ ?_))
    (focus (refine ⟨_, _, Gh.refl, [], rfl, ?_⟩; (refine fitq ?_ ?_ ?_ <;> try exact trivial); (try any_goals (refine ⟨?_, ?_⟩)); (try any_goals (with_reducible rfl))))
    all_goals (repeat' (first | (refine And.intro ?_ ?_) | rfl))
theorem c_vld {h : List Ch} {K : KT} {a b c lo hi d f g : Int} {r : Bool} (H : K (.bool r) h) (e1 : vldB ⟨a, b, c, lo, hi, d, f, g⟩ = r) : Does Try.prog 32 [.agg [.int .i64 a, .int .i64 b, .int .i64 c, .int .i64 lo, .int .i64 hi, .int .i64 d, .int .i64 f, .int .i64 g]] h K := by
  subst e1
  exact frame_pure (b_vld ⟨a, b, c, lo, hi, d, f, g⟩) (br_cons (br_agg (br_cons br_int (br_cons br_int (br_cons br_int (br_cons br_int (br_cons br_int (br_cons br_int (br_cons br_int (br_cons br_int br_nil))))))))) br_nil) (.inr rfl) (fun _ => rfl) H
abbrev i_vld := Ctr.mk (i := 0) (g := 32) @c_vld
attribute [instance] i_vld
theorem vld_iff (m : Mon) : vldB m = true ↔ okE m ∧ isMon m := by
  have hh : hdB m = true ↔ isMon m := by
    unfold hdB
    simp only [Bool.and_eq_true, Bool.not_eq_true', decide_eq_false_iff_not]
    constructor
    · rintro ⟨⟨⟨⟨⟨⟨h1, h2⟩, h3⟩, h4⟩, h5⟩, h6⟩, h7⟩
      exact ⟨h1, h2, h3, by omega, by omega⟩
    · rintro ⟨h1, h2, h3, h4, h5⟩
      exact ⟨⟨⟨⟨⟨⟨h1, h2⟩, h3⟩, by omega⟩, by omega⟩, by omega⟩, by omega⟩
  have hk : kndB m = true ↔ okE m := by
    unfold kndB
    constructor
    · intro h
      split at h
      · rename_i c
        simp only [Bool.and_eq_true, decide_eq_true_eq] at h
        refine .inl ⟨c, ?_, ?_, h.1.2⟩ <;> (unfold inW; simp only [Bool.and_eq_true, decide_eq_true_eq]; omega)
      · split at h
        · rename_i c
          simp only [Bool.and_eq_true, decide_eq_true_eq] at h
          refine .inr (.inl ⟨c, ?_, h.2⟩)
          unfold inW; simp only [Bool.and_eq_true, decide_eq_true_eq]; omega
        · split at h
          · rename_i c
            simp only [Bool.and_eq_true, decide_eq_true_eq] at h
            exact .inr (.inr ⟨c, h.1.1, h.1.2, h.2⟩)
          · cases h
    · rintro (⟨c, h1, h2, h3⟩ | ⟨c, h1, h2⟩ | ⟨c, h1, h2⟩)
      · unfold inW at h1 h2
        simp only [Bool.and_eq_true, decide_eq_true_eq] at h1 h2
        rw [if_pos c]
        simp only [Bool.and_eq_true, decide_eq_true_eq]; omega
      · unfold inW at h1
        simp only [Bool.and_eq_true, decide_eq_true_eq] at h1
        rw [if_neg (by omega), if_pos c]
        simp only [Bool.and_eq_true, decide_eq_true_eq]; omega
      · rw [if_neg (by omega), if_neg (by omega), if_pos c]
        simp only [Bool.and_eq_true, decide_eq_true_eq]; omega
  unfold vldB
  rw [Bool.and_eq_true, hh, hk]
  exact ⟨fun h => ⟨h.2, h.1⟩, fun h => ⟨h.2, h.1⟩⟩
end Go.V

set_option maxRecDepth 100000
set_option maxHeartbeats 8000000
namespace Go.V
open Go.Proofs
attribute [-go_sem] SL PL
/-- an entry as the reference keeps it -/
def rfO (e : Sm) : One := ⟨e.m, !e.off, e.st, e.res, e.run, e.bg, e.last⟩
def roL (es : List Sm) : List One := es.map rfO
theorem roL_len (es : List Sm) : (roL es).length = es.length := List.length_map _
theorem roL_at {es : List Sm} {k : Nat} (hk : k < es.length) : (roL es).getD k One.zero = rfO (eAtS es k) := by
  have e : eAtS es k = es[k] := by show es.getD k Sm.zero = _; rw [List.getD_eq_getElem?_getD, List.getElem?_eq_getElem hk]; rfl
  rw [e]
  unfold roL
  rw [List.getD_eq_getElem?_getD, List.getElem?_map, List.getElem?_eq_getElem hk]; rfl
theorem roL_fix (es : List Sm) (id : Int) : fixG (fun x : One => x.m.id) (roL es) id = fixE es id := by
  induction es with
  | nil => rfl
  | cons e es ih =>
    show (if (rfO e).m.id = id then 0 else fixG _ (roL es) id + 1) = if e.m.id = id then 0 else fixE es id + 1
    rw [ih]; rfl
theorem roL_ix (es : List Sm) (id : Int) : ixG (fun x : One => x.m.id) (roL es) id = ixV es id := by
  unfold ixG ixV
  rw [roL_fix, roL_len]
/-- all monitors up to a place are right -/
theorem okM_iff {l : List Mon} {k : Nat} : okM l k ↔ vldB (mAt l k) = true ∧ (k = 0 ∨ (mAt l (k - 1)).id < (mAt l k).id) :=
  ⟨fun h => ⟨(vld_iff _).2 ⟨h.ck, h.mo⟩, h.or_⟩, fun h => ⟨((vld_iff _).1 h.1).1, ((vld_iff _).1 h.1).2, h.2⟩⟩
def onT (l : List Mon) (k : Nat) : List One := roL (takS l k)
theorem onT_succ {l : List Mon} {k : Nat} (h : k < l.length) : onT l k ++ [⟨mAt l k, true, 0, 0, 0, false, 0⟩] = onT l (k + 1) := by
  unfold onT
  rw [takS_succ h]
  unfold roL
  rw [List.map_append]; rfl
theorem onT_len {l : List Mon} {k : Nat} (h : k ≤ l.length) : (onT l k).length = k := by
  unfold onT
  rw [roL_len, takS_len h]
theorem k_rnew (l : List Mon) (hl : l.length ≤ 256) (KK : KT) (HG : (∀ k, k < l.length → okM l k) → ∀ v h, EndF 0 (.tup [.agg [.int .i64 0, .ro .one (roL (l.map mkS))], .int .i64 0]) [] v h → KK v h)
    (HB : (¬ ∀ k, k < l.length → okM l k) → ∀ v h, EndF 0 (.tup [.agg [.int .i64 0, .lit (.slice none 0 0)], .int .i64 1]) [] v h → KK v h) : DoesK Try.prog 0 15 [.ro .mon l] [] KK := by
  refine DoesK.close ?_
  have a0 : decide (256 < (l.length : Int)) = false := decide_eq_false (by omega)
  refine w_body (rs := [.cell 2 56, .tmp 3]) (tm := [.ro .mon l, .any, .any, .any, .any, .any, .any, .any, .any, .any, .any, .any, .any, .any, .any, .any, .any, .any, .any, .any, .any, .any, .any, .any, .any, .any, .any, .any, .any, .any, .any, .any, .any, .any, .any, .any, .any, .any, .any, .any, .any, .any, .any, .any, .any, .any, .any, .any, .any, .any, .any, .any]) fn_15 rfl rfl rfl rfl fun R hR => ?_
  (have zx1 := @a0; all_goals (try ((with_reducible first | refine wp_id ?_ | refine does_id ?_ | refine ops_id ?_ | refine dw_id ?_); refine walk ?_; (repeat' (first | exact trivial | with_reducible refine And.intro ?_ ?_)); all_goals (repeat with_reducible first | refine ImpB.mk fun hb => ?_ | refine ImpK.mk fun hK => ?_ | refine ImpF.mk fun hF => ?_ | refine ImpQ.mk fun hp => ?_ | refine AllE.mk fun p => ?_ | refine AllR.mk fun rest => ?_ | refine AllK.mk fun K => ?_))); repeat' (with_reducible refine And.intro ?_ ?_))
  refine Wp.ghost (gh_adoptC (t := 1) (i := 1) .one rfl trivial) ?_
  simp only [go_sem, decide_true, decide_false, Int.reduceToNat, Nat.min_eq_left, Nat.min_eq_right, Int.reducePow, Nat.reducePow, Int.reduceLE, Int.reduceLT, Int.reduceMul, Int.reduceAdd, Int.reduceSub, Int.reduceNeg, Bool.not_true, Bool.not_false, Bool.not_not, ↓reduceIte, Nat.reduceAdd, Nat.reduceSub, Nat.reduceMul, Nat.reduceEqDiff, reduceCtorEq, Nat.reduceLT, Nat.reduceLeDiff, Nat.reduceGT]
  any_goals ((try (refine w_seq fun K hK => ?_)); (try (refine w_block ?_)); refine w_loop (A := Nat) (fun k => k ≤ l.length ∧ ∀ j, j < k → okM l j) (fun k => l.length - k) (fun k => [(5, .int .i64 k)]) (fun k => [(1, .cells [.int .i64 0, .sl 2 .one 0 k]), (2, .rows .one (onT l k))]) (0) (ws := ?ws1) (tk := ?tk1) ?hw1 ?ht1 ?hi ?h0 ?LH1; (case hw1 => simp only [go_sem, decide_true, decide_false, Int.reduceToNat, Nat.min_eq_left, Nat.min_eq_right, Int.reducePow, Nat.reducePow, Int.reduceLE, Int.reduceLT, Int.reduceMul, Int.reduceAdd, Int.reduceSub, Int.reduceNeg, Bool.not_true, Bool.not_false, Bool.not_not, ↓reduceIte, Nat.reduceAdd, Nat.reduceSub, Nat.reduceMul, Nat.reduceEqDiff, reduceCtorEq, Nat.reduceLT, Nat.reduceLeDiff, Nat.reduceGT]; exact rfl); (case ht1 => simp only [go_sem, decide_true, decide_false, Int.reduceToNat, Nat.min_eq_left, Nat.min_eq_right, Int.reducePow, Nat.reducePow, Int.reduceLE, Int.reduceLT, Int.reduceMul, Int.reduceAdd, Int.reduceSub, Int.reduceNeg, Bool.not_true, Bool.not_false, Bool.not_not, ↓reduceIte, Nat.reduceAdd, Nat.reduceSub, Nat.reduceMul, Nat.reduceEqDiff, reduceCtorEq, Nat.reduceLT, Nat.reduceLeDiff, Nat.reduceGT]; exact rfl); (case' LH1 => rintro k E t hx hE ht; simp only [go_sem] at ht; subst ht; simp only [go_sem]; try dsimp only at hx))
  case hi => exact ⟨Nat.zero_le _, fun j hj => absurd hj (Nat.not_lt_zero j)⟩
  case h0 =>
    (focus (refine ⟨_, _, Gh.refl, [0, 1, 2], rfl, ?_⟩; (refine fitq ?_ ?_ ?_ <;> try exact trivial); (try any_goals (refine ⟨?_, ?_⟩)); (try any_goals (with_reducible rfl))))
    all_goals (repeat' (first | (refine And.intro ?_ ?_) | rfl))
  case LH1 =>
    obtain ⟨hk0, hko⟩ := hx
    have hk0 : k ≤ l.length := hk0
    have hol := onT_len hk0
    by_cases hk : k < l.length
    · have hkd : decide ((k : Int) < (l.length : Int)) = true := decide_eq_true (by omega)
      have hkw : IntKind.i64.wrap ((k : Int) + 1) = ((k + 1 : Nat) : Int) := by rw [wrap_i64 _ (by omega) (by omega)]; omega
      have hsu := onT_succ hk
      obtain ⟨m, hm⟩ : ∃ m, mAt l k = m := ⟨_, rfl⟩
      rw [hm] at hsu
      by_cases hok : okM l k
      · have hko2 : ∀ j, j < k + 1 → okM l j := fun j hj => by
          by_cases c : j < k
          · exact hko j c
          · have : j = k := by omega
            rw [this]; exact hok
        obtain ⟨ev, hor⟩ := okM_iff.1 hok
        rw [hm] at ev hor
        by_cases hk1 : k = 0
        · have hkz : decide ((0 : Int) < (k : Int)) = false := decide_eq_false (by omega)
          (have zx1 := @hkd; have zx2 := @hkw; have zx3 := @hm; have zx4 := @hkz; have zx5 := @hol; have zx6 := @hsu; all_goals (try ((with_reducible first | refine wp_id ?_ | refine does_id ?_ | refine ops_id ?_ | refine dw_id ?_); refine walk ?_; (repeat' (first | exact trivial | with_reducible refine And.intro ?_ ?_)); all_goals (repeat with_reducible first | refine ImpB.mk fun hb => ?_ | refine ImpK.mk fun hK => ?_ | refine ImpF.mk fun hF => ?_ | refine ImpQ.mk fun hp => ?_ | refine AllE.mk fun p => ?_ | refine AllR.mk fun rest => ?_ | refine AllK.mk fun K => ?_))); repeat' (with_reducible refine And.intro ?_ ?_))
          all_goals first | (show _ ≤ (_ : Int); omega) | (show _ < (_ : Int); omega) | (show _ ≤ (_ : Nat); omega) | (show _ < (_ : Nat); omega) | skip
          refine ⟨k + 1, ⟨⟨(by omega : k + 1 ≤ l.length), hko2⟩, (by first | omega | (dsimp only; omega))⟩, ?_⟩
          (focus (refine ⟨_, _, Gh.refl, [0, 1, 4], rfl, ?_⟩; (refine fitq ?_ ?_ ?_ <;> try exact trivial); (try any_goals (refine ⟨?_, ?_⟩)); (try any_goals (with_reducible rfl))))
          all_goals (repeat' (first | (refine And.intro ?_ ?_) | rfl | exact hsu.symm | exact hsu))
        · have hkz : decide ((0 : Int) < (k : Int)) = true := decide_eq_true (by omega)
          have hkm : IntKind.i64.wrap ((k : Int) - 1) = ((k - 1 : Nat) : Int) := by rw [wrap_i64 _ (by omega) (by omega)]; omega
          obtain ⟨m0, hm0⟩ : ∃ m0, mAt l (k - 1) = m0 := ⟨_, rfl⟩
          rw [hm0] at hor
          have hid : decide (m.id ≤ m0.id) = false := decide_eq_false (by omega)
          (have zx1 := @hkd; have zx2 := @hkw; have zx3 := @hm; have zx4 := @hkz; have zx5 := @hkm; have zx6 := @hm0; have zx7 := @hid; have zx8 := @hol; have zx9 := @hsu; all_goals (try ((with_reducible first | refine wp_id ?_ | refine does_id ?_ | refine ops_id ?_ | refine dw_id ?_); refine walk ?_; (repeat' (first | exact trivial | with_reducible refine And.intro ?_ ?_)); all_goals (repeat with_reducible first | refine ImpB.mk fun hb => ?_ | refine ImpK.mk fun hK => ?_ | refine ImpF.mk fun hF => ?_ | refine ImpQ.mk fun hp => ?_ | refine AllE.mk fun p => ?_ | refine AllR.mk fun rest => ?_ | refine AllK.mk fun K => ?_))); repeat' (with_reducible refine And.intro ?_ ?_))
          all_goals first | (show _ ≤ (_ : Int); omega) | (show _ < (_ : Int); omega) | (show _ ≤ (_ : Nat); omega) | (show _ < (_ : Nat); omega) | skip
          refine ⟨k + 1, ⟨⟨(by omega : k + 1 ≤ l.length), hko2⟩, (by first | omega | (dsimp only; omega))⟩, ?_⟩
          (focus (refine ⟨_, _, Gh.refl, [0, 1, 4], rfl, ?_⟩; (refine fitq ?_ ?_ ?_ <;> try exact trivial); (try any_goals (refine ⟨?_, ?_⟩)); (try any_goals (with_reducible rfl))))
          all_goals (repeat' (first | (refine And.intro ?_ ?_) | rfl | exact hsu.symm | exact hsu))
      · have hbad : ¬ ∀ j, j < l.length → okM l j := fun q => hok (q k hk)
        have hno : ¬ (vldB m = true ∧ (k = 0 ∨ (mAt l (k - 1)).id < m.id)) := fun q => hok (okM_iff.2 (by rw [hm]; exact q))
        cases ev : vldB m with
        | false =>
          (have zx1 := @hkd; have zx2 := @hm; all_goals (try ((with_reducible first | refine wp_id ?_ | refine does_id ?_ | refine ops_id ?_ | refine dw_id ?_); refine walk ?_; (repeat' (first | exact trivial | with_reducible refine And.intro ?_ ?_)); all_goals (repeat with_reducible first | refine ImpB.mk fun hb => ?_ | refine ImpK.mk fun hK => ?_ | refine ImpF.mk fun hF => ?_ | refine ImpQ.mk fun hp => ?_ | refine AllE.mk fun p => ?_ | refine AllR.mk fun rest => ?_ | refine AllK.mk fun K => ?_))); repeat' (with_reducible refine And.intro ?_ ?_))
          all_goals first | (show _ ≤ (_ : Int); omega) | (show _ < (_ : Int); omega) | (show _ ≤ (_ : Nat); omega) | (show _ < (_ : Nat); omega) | skip
          refine end_K ?_ (HB hbad)
          (focus (refine ⟨_, _, Gh.refl, [], rfl, ?_⟩; (refine fitq ?_ ?_ ?_ <;> try exact trivial); (try any_goals (refine ⟨?_, ?_⟩)); (try any_goals (with_reducible rfl))))
          all_goals (repeat' (first | (refine And.intro ?_ ?_) | rfl))
        | true =>
          have hkz : decide ((0 : Int) < (k : Int)) = true := decide_eq_true (by have : k ≠ 0 := fun q => hno ⟨ev, .inl q⟩; omega)
          have hkm : IntKind.i64.wrap ((k : Int) - 1) = ((k - 1 : Nat) : Int) := by
            have : k ≠ 0 := fun q => hno ⟨ev, .inl q⟩
            rw [wrap_i64 _ (by omega) (by omega)]; omega
          obtain ⟨m0, hm0⟩ : ∃ m0, mAt l (k - 1) = m0 := ⟨_, rfl⟩
          rw [hm0] at hno
          have hid : decide (m.id ≤ m0.id) = true := decide_eq_true (by have : ¬ m0.id < m.id := fun q => hno ⟨ev, .inr q⟩; omega)
          have hk1 : 0 < k := by have := of_decide_eq_true hkz; omega
          (have zx1 := @hkd; have zx2 := @hm; have zx3 := @hkz; have zx4 := @hkm; have zx5 := @hm0; have zx6 := @hid; all_goals (try ((with_reducible first | refine wp_id ?_ | refine does_id ?_ | refine ops_id ?_ | refine dw_id ?_); refine walk ?_; (repeat' (first | exact trivial | with_reducible refine And.intro ?_ ?_)); all_goals (repeat with_reducible first | refine ImpB.mk fun hb => ?_ | refine ImpK.mk fun hK => ?_ | refine ImpF.mk fun hF => ?_ | refine ImpQ.mk fun hp => ?_ | refine AllE.mk fun p => ?_ | refine AllR.mk fun rest => ?_ | refine AllK.mk fun K => ?_))); repeat' (with_reducible refine And.intro ?_ ?_))
          all_goals first | (show _ ≤ (_ : Int); omega) | (show _ < (_ : Int); omega) | (show _ ≤ (_ : Nat); omega) | (show _ < (_ : Nat); omega) | skip
          refine end_K ?_ (HB hbad)
          (focus (refine ⟨_, _, Gh.refl, [], rfl, ?_⟩; (refine fitq ?_ ?_ ?_ <;> try exact trivial); (try any_goals (refine ⟨?_, ?_⟩)); (try any_goals (with_reducible rfl))))
          all_goals (repeat' (first | (refine And.intro ?_ ?_) | rfl))
    · have hkd : decide ((k : Int) < (l.length : Int)) = false := decide_eq_false (by omega)
      obtain rfl : k = l.length := by omega
      have ha : onT l l.length = roL (l.map mkS) := by unfold onT; rw [takS_all]
      rw [ha] at hol ⊢
      (have zx1 := @hkd; all_goals (try ((with_reducible first | refine wp_id ?_ | refine does_id ?_ | refine ops_id ?_ | refine dw_id ?_); refine walk ?_; (repeat' (first | exact trivial | with_reducible refine And.intro ?_ ?_)); all_goals (repeat with_reducible first | refine ImpB.mk fun hb => ?_ | refine ImpK.mk fun hK => ?_ | refine ImpF.mk fun hF => ?_ | refine ImpQ.mk fun hp => ?_ | refine AllE.mk fun p => ?_ | refine AllR.mk fun rest => ?_ | refine AllK.mk fun K => ?_))); repeat' (with_reducible refine And.intro ?_ ?_))
      refine end_K ?_ (HG hko)
      rw [← hol]
      refine ⟨_, _, gh_frz (t := 2) (e := .one) (xs := roL (l.map mkS)) rfl ?f1 ?f2, [], rfl, ?ft⟩
      case' ft => (refine fitq ?_ ?_ ?_ <;> try exact trivial)
      case' f1 => simp only [go_sem, decide_true, decide_false, Int.reduceToNat, Nat.min_eq_left, Nat.min_eq_right, Int.reducePow, Nat.reducePow, Int.reduceLE, Int.reduceLT, Int.reduceMul, Int.reduceAdd, Int.reduceSub, Int.reduceNeg, Bool.not_true, Bool.not_false, Bool.not_not, ↓reduceIte, Nat.reduceAdd, Nat.reduceSub, Nat.reduceMul, Nat.reduceEqDiff, reduceCtorEq, Nat.reduceLT, Nat.reduceLeDiff, Nat.reduceGT]
      case' f2 => simp only [go_sem, decide_true, decide_false, Int.reduceToNat, Nat.min_eq_left, Nat.min_eq_right, Int.reducePow, Nat.reducePow, Int.reduceLE, Int.reduceLT, Int.reduceMul, Int.reduceAdd, Int.reduceSub, Int.reduceNeg, Bool.not_true, Bool.not_false, Bool.not_not, ↓reduceIte, Nat.reduceAdd, Nat.reduceSub, Nat.reduceMul, Nat.reduceEqDiff, reduceCtorEq, Nat.reduceLT, Nat.reduceLeDiff, Nat.reduceGT]
      all_goals first | exact Nat.le_refl _ | exact ⟨Nat.le_refl _, False.elim⟩ | exact False.elim | (repeat' (first | (refine And.intro ?_ ?_) | rfl | exact False.elim | exact Nat.le_refl _))
theorem c_rnewG {h : List Ch} {K : KT} {a : AV} {l : List Mon} {xs : List One} (H : K (.tup [.agg [.int .i64 0, .ro .one xs], .int .i64 0]) h) (q1 : isRO .mon l a) (e1 : ∀ k, k < l.length → okM l k) (e2 : roL (l.map mkS) = xs) (s1 : l.length ≤ 256) : Does Try.prog 15 [a] h K := by
  subst e2
  exact frame_pure (k_rnew l s1 _ (fun _ _ _ q => q) (fun q => absurd e1 q)) (br_cons q1.br br_nil) (.inl (by rw [brTL, q1.brT]; rfl)) (fun _ => rfl) H
abbrev i_rnewG := Ctr.mk (i := 0) (g := 15) @c_rnewG
attribute [instance] i_rnewG
theorem c_rnewB {h : List Ch} {K : KT} {a : AV} {l : List Mon} (H : K (.tup [.agg [.int .i64 0, .lit (.slice none 0 0)], .int .i64 1]) h) (q1 : isRO .mon l a) (e1 : ¬ ∀ k, k < l.length → okM l k) (s1 : l.length ≤ 256) : Does Try.prog 15 [a] h K :=
  frame_pure (k_rnew l s1 _ (fun q => absurd q e1) (fun _ _ _ q => q)) (br_cons q1.br br_nil) (.inl (by rw [brTL, q1.brT]; rfl)) (fun _ => rfl) H
abbrev i_rnewB := Ctr.mk (i := 1) (g := 15) @c_rnewB
attribute [instance] i_rnewB
/-- a record, cell by cell -/
abbrev oneL (x : One) : List AV := [.int .i64 x.m.id, .int .i64 x.m.param, .int .i64 x.m.kind, .int .i64 x.m.low, .int .i64 x.m.high, .int .i64 x.m.rep, .int .i64 x.m.ev, .int .i64 x.m.sev, .bool x.on, .int .i64 x.state, .int .i64 x.result, .int .i64 x.count, .bool x.before, .int .i64 x.value]
theorem b_rres (x : One) (v : Int) (hk : x.m.kind = 1 ∨ x.m.kind = 2 ∨ x.m.kind = 3) (q1 : VR v) (q2 : VR x.value) : DoesK Try.prog 0 34 [.agg (oneL x), .int .i64 v] [] (EndF 0 (.int .i64 (resE x.m x.before x.value v)) []) := by
  obtain ⟨m, on, st, rs, ct, bf, va⟩ := x
  obtain ⟨q11, q12⟩ := q1
  obtain ⟨q21, q22⟩ := q2
  dsimp only at hk q21 q22
  refine DoesK.close ?_
  unfold resE
  dsimp only
  rcases hk with hk | hk | hk
  · have d1 : decide (m.kind = 1) = true := decide_eq_true hk
    rw [if_neg (by omega), if_neg (by omega)]
    unfold rsL
    by_cases c1 : v < m.low
    · have d2 : decide (v < m.low) = true := decide_eq_true c1
      rw [if_pos c1]
      refine w_body (rs := [.tmp 4]) (tm := [.agg (oneL ⟨m, on, st, rs, ct, bf, va⟩), .int .i64 v, .any, .any, .any, .any, .any, .any, .any, .any, .any, .any, .any, .any, .any, .any, .any, .any, .any, .any, .any, .any, .any, .any, .any, .any, .any, .any, .any, .any, .any, .any, .any, .any, .any, .any, .any, .any, .any, .any, .any, .any, .any, .any, .any, .any, .any, .any, .any]) fn_34 rfl rfl rfl rfl fun R hR => ?_
      (have zx1 := @d1; have zx2 := @d2; all_goals (try ((with_reducible first | refine wp_id ?_ | refine does_id ?_ | refine ops_id ?_ | refine dw_id ?_); refine walk ?_; (repeat' (first | exact trivial | with_reducible refine And.intro ?_ ?_)); all_goals (repeat with_reducible first | refine ImpB.mk fun hb => ?_ | refine ImpK.mk fun hK => ?_ | refine ImpF.mk fun hF => ?_ | refine ImpQ.mk fun hp => ?_ | refine AllE.mk fun p => ?_ | refine AllR.mk fun rest => ?_ | refine AllK.mk fun K => ?_))); repeat' (with_reducible refine And.intro ?_ ?_))
      (focus (refine ⟨_, _, Gh.refl, [], rfl, ?_⟩; (refine fitq ?_ ?_ ?_ <;> try exact trivial); (try any_goals (refine ⟨?_, ?_⟩)); (try any_goals (with_reducible rfl))))
    · have d2 : decide (v < m.low) = false := decide_eq_false c1
      rw [if_neg c1]
      by_cases c2 : m.high < v
      · have d3 : decide (m.high < v) = true := decide_eq_true c2
        rw [if_pos c2]
        refine w_body (rs := [.tmp 4]) (tm := [.agg (oneL ⟨m, on, st, rs, ct, bf, va⟩), .int .i64 v, .any, .any, .any, .any, .any, .any, .any, .any, .any, .any, .any, .any, .any, .any, .any, .any, .any, .any, .any, .any, .any, .any, .any, .any, .any, .any, .any, .any, .any, .any, .any, .any, .any, .any, .any, .any, .any, .any, .any, .any, .any, .any, .any, .any, .any, .any, .any]) fn_34 rfl rfl rfl rfl fun R hR => ?_
        (have zx1 := @d1; have zx2 := @d2; have zx3 := @d3; all_goals (try ((with_reducible first | refine wp_id ?_ | refine does_id ?_ | refine ops_id ?_ | refine dw_id ?_); refine walk ?_; (repeat' (first | exact trivial | with_reducible refine And.intro ?_ ?_)); all_goals (repeat with_reducible first | refine ImpB.mk fun hb => ?_ | refine ImpK.mk fun hK => ?_ | refine ImpF.mk fun hF => ?_ | refine ImpQ.mk fun hp => ?_ | refine AllE.mk fun p => ?_ | refine AllR.mk fun rest => ?_ | refine AllK.mk fun K => ?_))); repeat' (with_reducible refine And.intro ?_ ?_))
        (focus (refine ⟨_, _, Gh.refl, [], rfl, ?_⟩; (refine fitq ?_ ?_ ?_ <;> try exact trivial); (try any_goals (refine ⟨?_, ?_⟩)); (try any_goals (with_reducible rfl))))
      · have d3 : decide (m.high < v) = false := decide_eq_false c2
        rw [if_neg c2]
        refine w_body (rs := [.tmp 4]) (tm := [.agg (oneL ⟨m, on, st, rs, ct, bf, va⟩), .int .i64 v, .any, .any, .any, .any, .any, .any, .any, .any, .any, .any, .any, .any, .any, .any, .any, .any, .any, .any, .any, .any, .any, .any, .any, .any, .any, .any, .any, .any, .any, .any, .any, .any, .any, .any, .any, .any, .any, .any, .any, .any, .any, .any, .any, .any, .any, .any, .any]) fn_34 rfl rfl rfl rfl fun R hR => ?_
        (have zx1 := @d1; have zx2 := @d2; have zx3 := @d3; all_goals (try ((with_reducible first | refine wp_id ?_ | refine does_id ?_ | refine ops_id ?_ | refine dw_id ?_); refine walk ?_; (repeat' (first | exact trivial | with_reducible refine And.intro ?_ ?_)); all_goals (repeat with_reducible first | refine ImpB.mk fun hb => ?_ | refine ImpK.mk fun hK => ?_ | refine ImpF.mk fun hF => ?_ | refine ImpQ.mk fun hp => ?_ | refine AllE.mk fun p => ?_ | refine AllR.mk fun rest => ?_ | refine AllK.mk fun K => ?_))); repeat' (with_reducible refine And.intro ?_ ?_))
        (focus (refine ⟨_, _, Gh.refl, [], rfl, ?_⟩; (refine fitq ?_ ?_ ?_ <;> try exact trivial); (try any_goals (refine ⟨?_, ?_⟩)); (try any_goals (with_reducible rfl))))
  · have d1 : decide (m.kind = 1) = false := decide_eq_false (by omega)
    have d2 : decide (m.kind = 2) = true := decide_eq_true hk
    rw [if_neg (by omega), if_pos hk]
    by_cases c1 : v = m.low
    · have d3 : decide (¬ v = m.low) = false := decide_eq_false (fun q => q c1)
      rw [if_pos c1]
      refine w_body (rs := [.tmp 4]) (tm := [.agg (oneL ⟨m, on, st, rs, ct, bf, va⟩), .int .i64 v, .any, .any, .any, .any, .any, .any, .any, .any, .any, .any, .any, .any, .any, .any, .any, .any, .any, .any, .any, .any, .any, .any, .any, .any, .any, .any, .any, .any, .any, .any, .any, .any, .any, .any, .any, .any, .any, .any, .any, .any, .any, .any, .any, .any, .any, .any, .any]) fn_34 rfl rfl rfl rfl fun R hR => ?_
      (have zx1 := @d1; have zx2 := @d2; have zx3 := @d3; all_goals (try ((with_reducible first | refine wp_id ?_ | refine does_id ?_ | refine ops_id ?_ | refine dw_id ?_); refine walk ?_; (repeat' (first | exact trivial | with_reducible refine And.intro ?_ ?_)); all_goals (repeat with_reducible first | refine ImpB.mk fun hb => ?_ | refine ImpK.mk fun hK => ?_ | refine ImpF.mk fun hF => ?_ | refine ImpQ.mk fun hp => ?_ | refine AllE.mk fun p => ?_ | refine AllR.mk fun rest => ?_ | refine AllK.mk fun K => ?_))); repeat' (with_reducible refine And.intro ?_ ?_))
      (focus (refine ⟨_, _, Gh.refl, [], rfl, ?_⟩; (refine fitq ?_ ?_ ?_ <;> try exact trivial); (try any_goals (refine ⟨?_, ?_⟩)); (try any_goals (with_reducible rfl))))
    · have d3 : decide (¬ v = m.low) = true := decide_eq_true c1
      rw [if_neg c1]
      refine w_body (rs := [.tmp 4]) (tm := [.agg (oneL ⟨m, on, st, rs, ct, bf, va⟩), .int .i64 v, .any, .any, .any, .any, .any, .any, .any, .any, .any, .any, .any, .any, .any, .any, .any, .any, .any, .any, .any, .any, .any, .any, .any, .any, .any, .any, .any, .any, .any, .any, .any, .any, .any, .any, .any, .any, .any, .any, .any, .any, .any, .any, .any, .any, .any, .any, .any]) fn_34 rfl rfl rfl rfl fun R hR => ?_
      (have zx1 := @d1; have zx2 := @d2; have zx3 := @d3; all_goals (try ((with_reducible first | refine wp_id ?_ | refine does_id ?_ | refine ops_id ?_ | refine dw_id ?_); refine walk ?_; (repeat' (first | exact trivial | with_reducible refine And.intro ?_ ?_)); all_goals (repeat with_reducible first | refine ImpB.mk fun hb => ?_ | refine ImpK.mk fun hK => ?_ | refine ImpF.mk fun hF => ?_ | refine ImpQ.mk fun hp => ?_ | refine AllE.mk fun p => ?_ | refine AllR.mk fun rest => ?_ | refine AllK.mk fun K => ?_))); repeat' (with_reducible refine And.intro ?_ ?_))
      (focus (refine ⟨_, _, Gh.refl, [], rfl, ?_⟩; (refine fitq ?_ ?_ ?_ <;> try exact trivial); (try any_goals (refine ⟨?_, ?_⟩)); (try any_goals (with_reducible rfl))))
  · have d1 : decide (m.kind = 1) = false := decide_eq_false (by omega)
    have d2 : decide (m.kind = 2) = false := decide_eq_false (by omega)
    have w1 : IntKind.i64.wrap (v - va) = v - va := wrap_i64 _ (by omega) (by omega)
    have w2 : IntKind.i64.wrap (va - v) = va - v := wrap_i64 _ (by omega) (by omega)
    rw [if_pos hk]
    unfold rsD
    cases bf with
    | false =>
      rw [if_neg (by simp)]
      refine w_body (rs := [.tmp 4]) (tm := [.agg (oneL ⟨m, on, st, rs, ct, false, va⟩), .int .i64 v, .any, .any, .any, .any, .any, .any, .any, .any, .any, .any, .any, .any, .any, .any, .any, .any, .any, .any, .any, .any, .any, .any, .any, .any, .any, .any, .any, .any, .any, .any, .any, .any, .any, .any, .any, .any, .any, .any, .any, .any, .any, .any, .any, .any, .any, .any, .any]) fn_34 rfl rfl rfl rfl fun R hR => ?_
      (have zx1 := @d1; have zx2 := @d2; all_goals (try ((with_reducible first | refine wp_id ?_ | refine does_id ?_ | refine ops_id ?_ | refine dw_id ?_); refine walk ?_; (repeat' (first | exact trivial | with_reducible refine And.intro ?_ ?_)); all_goals (repeat with_reducible first | refine ImpB.mk fun hb => ?_ | refine ImpK.mk fun hK => ?_ | refine ImpF.mk fun hF => ?_ | refine ImpQ.mk fun hp => ?_ | refine AllE.mk fun p => ?_ | refine AllR.mk fun rest => ?_ | refine AllK.mk fun K => ?_))); repeat' (with_reducible refine And.intro ?_ ?_))
      (focus (refine ⟨_, _, Gh.refl, [], rfl, ?_⟩; (refine fitq ?_ ?_ ?_ <;> try exact trivial); (try any_goals (refine ⟨?_, ?_⟩)); (try any_goals (with_reducible rfl))))
    | true =>
      by_cases c1 : m.high < v - va
      · have d3 : decide (m.high < v - va) = true := decide_eq_true c1
        rw [if_pos ⟨rfl, by omega⟩]
        refine w_body (rs := [.tmp 4]) (tm := [.agg (oneL ⟨m, on, st, rs, ct, true, va⟩), .int .i64 v, .any, .any, .any, .any, .any, .any, .any, .any, .any, .any, .any, .any, .any, .any, .any, .any, .any, .any, .any, .any, .any, .any, .any, .any, .any, .any, .any, .any, .any, .any, .any, .any, .any, .any, .any, .any, .any, .any, .any, .any, .any, .any, .any, .any, .any, .any, .any]) fn_34 rfl rfl rfl rfl fun R hR => ?_
        (have zx1 := @d1; have zx2 := @d2; have zx3 := @w1; have zx4 := @w2; have zx5 := @d3; all_goals (try ((with_reducible first | refine wp_id ?_ | refine does_id ?_ | refine ops_id ?_ | refine dw_id ?_); refine walk ?_; (repeat' (first | exact trivial | with_reducible refine And.intro ?_ ?_)); all_goals (repeat with_reducible first | refine ImpB.mk fun hb => ?_ | refine ImpK.mk fun hK => ?_ | refine ImpF.mk fun hF => ?_ | refine ImpQ.mk fun hp => ?_ | refine AllE.mk fun p => ?_ | refine AllR.mk fun rest => ?_ | refine AllK.mk fun K => ?_))); repeat' (with_reducible refine And.intro ?_ ?_))
        (focus (refine ⟨_, _, Gh.refl, [], rfl, ?_⟩; (refine fitq ?_ ?_ ?_ <;> try exact trivial); (try any_goals (refine ⟨?_, ?_⟩)); (try any_goals (with_reducible rfl))))
      · have d3 : decide (m.high < v - va) = false := decide_eq_false c1
        by_cases c2 : m.high < va - v
        · have d4 : decide (m.high < va - v) = true := decide_eq_true c2
          rw [if_pos ⟨rfl, by omega⟩]
          refine w_body (rs := [.tmp 4]) (tm := [.agg (oneL ⟨m, on, st, rs, ct, true, va⟩), .int .i64 v, .any, .any, .any, .any, .any, .any, .any, .any, .any, .any, .any, .any, .any, .any, .any, .any, .any, .any, .any, .any, .any, .any, .any, .any, .any, .any, .any, .any, .any, .any, .any, .any, .any, .any, .any, .any, .any, .any, .any, .any, .any, .any, .any, .any, .any, .any, .any]) fn_34 rfl rfl rfl rfl fun R hR => ?_
          (have zx1 := @d1; have zx2 := @d2; have zx3 := @w1; have zx4 := @w2; have zx5 := @d3; have zx6 := @d4; all_goals (try ((with_reducible first | refine wp_id ?_ | refine does_id ?_ | refine ops_id ?_ | refine dw_id ?_); refine walk ?_; (repeat' (first | exact trivial | with_reducible refine And.intro ?_ ?_)); all_goals (repeat with_reducible first | refine ImpB.mk fun hb => ?_ | refine ImpK.mk fun hK => ?_ | refine ImpF.mk fun hF => ?_ | refine ImpQ.mk fun hp => ?_ | refine AllE.mk fun p => ?_ | refine AllR.mk fun rest => ?_ | refine AllK.mk fun K => ?_))); repeat' (with_reducible refine And.intro ?_ ?_))
          (focus (refine ⟨_, _, Gh.refl, [], rfl, ?_⟩; (refine fitq ?_ ?_ ?_ <;> try exact trivial); (try any_goals (refine ⟨?_, ?_⟩)); (try any_goals (with_reducible rfl))))
        · have d4 : decide (m.high < va - v) = false := decide_eq_false c2
          rw [if_neg (fun q => by have := q.2; omega)]
          refine w_body (rs := [.tmp 4]) (tm := [.agg (oneL ⟨m, on, st, rs, ct, true, va⟩), .int .i64 v, .any, .any, .any, .any, .any, .any, .any, .any, .any, .any, .any, .any, .any, .any, .any, .any, .any, .any, .any, .any, .any, .any, .any, .any, .any, .any, .any, .any, .any, .any, .any, .any, .any, .any, .any, .any, .any, .any, .any, .any, .any, .any, .any, .any, .any, .any, .any]) fn_34 rfl rfl rfl rfl fun R hR => ?_
          (have zx1 := @d1; have zx2 := @d2; have zx3 := @w1; have zx4 := @w2; have zx5 := @d3; have zx6 := @d4; all_goals (try ((with_reducible first | refine wp_id ?_ | refine does_id ?_ | refine ops_id ?_ | refine dw_id ?_); refine walk ?_; (repeat' (first | exact trivial | with_reducible refine And.intro ?_ ?_)); all_goals (repeat with_reducible first | refine ImpB.mk fun hb => ?_ | refine ImpK.mk fun hK => ?_ | refine ImpF.mk fun hF => ?_ | refine ImpQ.mk fun hp => ?_ | refine AllE.mk fun p => ?_ | refine AllR.mk fun rest => ?_ | refine AllK.mk fun K => ?_))); repeat' (with_reducible refine And.intro ?_ ?_))
          (focus (refine ⟨_, _, Gh.refl, [], rfl, ?_⟩; (refine fitq ?_ ?_ ?_ <;> try exact trivial); (try any_goals (refine ⟨?_, ?_⟩)); (try any_goals (with_reducible rfl))))
theorem c_rres {h : List Ch} {K : KT} {a b c lo hi d f g st rs ct va v r : Int} {on bf : Bool} (H : K (.int .i64 r) h) (e1 : resE ⟨a, b, c, lo, hi, d, f, g⟩ bf va v = r) (e2 : VR v) (e3 : VR va) (s1 : c = 1 ∨ c = 2 ∨ c = 3) : Does Try.prog 34 [.agg [.int .i64 a, .int .i64 b, .int .i64 c, .int .i64 lo, .int .i64 hi, .int .i64 d, .int .i64 f, .int .i64 g, .bool on, .int .i64 st, .int .i64 rs, .int .i64 ct, .bool bf, .int .i64 va], .int .i64 v] h K := by
  subst e1
  exact frame_pure (b_rres ⟨⟨a, b, c, lo, hi, d, f, g⟩, on, st, rs, ct, bf, va⟩ v s1 e2 e3) (br_cons (br_agg (br_cons br_int (br_cons br_int (br_cons br_int (br_cons br_int (br_cons br_int (br_cons br_int (br_cons br_int (br_cons br_int (br_cons br_bool (br_cons br_int (br_cons br_int (br_cons br_int (br_cons br_bool (br_cons br_int br_nil))))))))))))))) (br_cons br_int br_nil)) (.inr rfl) (fun _ => rfl) H
abbrev i_rres := Ctr.mk (i := 0) (g := 34) @c_rres
attribute [instance] i_rres
end Go.V

set_option maxRecDepth 100000
set_option maxHeartbeats 8000000
namespace Go.V
open Go.Proofs
attribute [-go_sem] SL PL
theorem b_rfind (now : Int) (l : List One) (id : Int) (hl : l.length ≤ 1000000) : DoesK Try.prog 0 35 [.agg [.int .i64 now, .ro .one l], .int .i64 id] [] (EndF 0 (.int .i64 (ixG (fun x : One => x.m.id) l id)) []) := by
  refine DoesK.close ?_
  refine w_body (rs := [.tmp 4]) (tm := [.agg [.int .i64 now, .ro .one l], .int .i64 id, .any, .any, .any, .any, .any, .any, .any, .any, .any, .any, .any, .any, .any, .any, .any, .any, .any, .any, .any, .any, .any]) fn_35 rfl rfl rfl rfl fun R hR => ?_
  (all_goals (try ((with_reducible first | refine wp_id ?_ | refine does_id ?_ | refine ops_id ?_ | refine dw_id ?_); refine walk ?_; (repeat' (first | exact trivial | with_reducible refine And.intro ?_ ?_)); all_goals (repeat with_reducible first | refine ImpB.mk fun hb => ?_ | refine ImpK.mk fun hK => ?_ | refine ImpF.mk fun hF => ?_ | refine ImpQ.mk fun hp => ?_ | refine AllE.mk fun p => ?_ | refine AllR.mk fun rest => ?_ | refine AllK.mk fun K => ?_))); repeat' (with_reducible refine And.intro ?_ ?_))
  any_goals ((try (refine w_seq fun K hK => ?_)); (try (refine w_block ?_)); refine w_loop (A := Nat) (fun k => k ≤ l.length ∧ ∀ j, j < k → ¬ (l.getD j One.zero).m.id = id) (fun k => l.length - k) (fun k => [(5, .int .i64 k)]) (fun _ => []) (0) (ws := ?ws1) (tk := ?tk1) ?hw1 ?ht1 ?hi ?h0 ?LH1; (case hw1 => simp only [go_sem, decide_true, decide_false, Int.reduceToNat, Nat.min_eq_left, Nat.min_eq_right, Int.reducePow, Nat.reducePow, Int.reduceLE, Int.reduceLT, Int.reduceMul, Int.reduceAdd, Int.reduceSub, Int.reduceNeg, Bool.not_true, Bool.not_false, Bool.not_not, ↓reduceIte, Nat.reduceAdd, Nat.reduceSub, Nat.reduceMul, Nat.reduceEqDiff, reduceCtorEq, Nat.reduceLT, Nat.reduceLeDiff, Nat.reduceGT]; exact rfl); (case ht1 => simp only [go_sem, decide_true, decide_false, Int.reduceToNat, Nat.min_eq_left, Nat.min_eq_right, Int.reducePow, Nat.reducePow, Int.reduceLE, Int.reduceLT, Int.reduceMul, Int.reduceAdd, Int.reduceSub, Int.reduceNeg, Bool.not_true, Bool.not_false, Bool.not_not, ↓reduceIte, Nat.reduceAdd, Nat.reduceSub, Nat.reduceMul, Nat.reduceEqDiff, reduceCtorEq, Nat.reduceLT, Nat.reduceLeDiff, Nat.reduceGT]; exact rfl); (case' LH1 => rintro k E t hx hE ht; simp only [go_sem] at ht; subst ht; simp only [go_sem]; try dsimp only at hx))
  case hi => exact ⟨Nat.zero_le _, fun j hj => absurd hj (Nat.not_lt_zero j)⟩
  case h0 =>
    (focus (refine ⟨_, _, Gh.refl, [0], rfl, ?_⟩; (refine fitq ?_ ?_ ?_ <;> try exact trivial); (try any_goals (refine ⟨?_, ?_⟩)); (try any_goals (with_reducible rfl))))
    all_goals (repeat' (first | (refine And.intro ?_ ?_) | rfl))
  case LH1 =>
    obtain ⟨hk0, hne⟩ := hx
    have hk0 : k ≤ l.length := hk0
    by_cases hk : k < l.length
    · have hkd : decide ((k : Int) < (l.length : Int)) = true := decide_eq_true (by omega)
      have hw : IntKind.i64.wrap ((k : Int) + 1) = ((k + 1 : Nat) : Int) := by rw [wrap_i64 _ (by omega) (by omega)]; omega
      obtain ⟨x, hxe⟩ : ∃ x, l.getD k One.zero = x := ⟨_, rfl⟩
      by_cases hc : x.m.id = id
      · have hcd : decide (x.m.id = id) = true := decide_eq_true hc
        have hf : fixG (fun x : One => x.m.id) l id = k := fixG_at (d := One.zero) hk hne (by rw [hxe]; exact hc)
        have hi : ixG (fun x : One => x.m.id) l id = (k : Int) := by unfold ixG; rw [hf, if_pos hk]
        rw [hi] at hR
        (have zx1 := @hkd; have zx2 := @hw; have zx3 := @hxe; have zx4 := @hcd; all_goals (try ((with_reducible first | refine wp_id ?_ | refine does_id ?_ | refine ops_id ?_ | refine dw_id ?_); refine walk ?_; (repeat' (first | exact trivial | with_reducible refine And.intro ?_ ?_)); all_goals (repeat with_reducible first | refine ImpB.mk fun hb => ?_ | refine ImpK.mk fun hK => ?_ | refine ImpF.mk fun hF => ?_ | refine ImpQ.mk fun hp => ?_ | refine AllE.mk fun p => ?_ | refine AllR.mk fun rest => ?_ | refine AllK.mk fun K => ?_))); repeat' (with_reducible refine And.intro ?_ ?_))
        all_goals first | (show _ ≤ (_ : Int); omega) | (show _ < (_ : Int); omega) | (show _ ≤ (_ : Nat); omega) | (show _ < (_ : Nat); omega) | skip
        (focus (refine ⟨_, _, Gh.refl, [], rfl, ?_⟩; (refine fitq ?_ ?_ ?_ <;> try exact trivial); (try any_goals (refine ⟨?_, ?_⟩)); (try any_goals (with_reducible rfl))))
        all_goals (repeat' (first | (refine And.intro ?_ ?_) | rfl))
      · have hcd : decide (x.m.id = id) = false := decide_eq_false hc
        (have zx1 := @hkd; have zx2 := @hw; have zx3 := @hxe; have zx4 := @hcd; all_goals (try ((with_reducible first | refine wp_id ?_ | refine does_id ?_ | refine ops_id ?_ | refine dw_id ?_); refine walk ?_; (repeat' (first | exact trivial | with_reducible refine And.intro ?_ ?_)); all_goals (repeat with_reducible first | refine ImpB.mk fun hb => ?_ | refine ImpK.mk fun hK => ?_ | refine ImpF.mk fun hF => ?_ | refine ImpQ.mk fun hp => ?_ | refine AllE.mk fun p => ?_ | refine AllR.mk fun rest => ?_ | refine AllK.mk fun K => ?_))); repeat' (with_reducible refine And.intro ?_ ?_))
        all_goals first | (show _ ≤ (_ : Int); omega) | (show _ < (_ : Int); omega) | (show _ ≤ (_ : Nat); omega) | (show _ < (_ : Nat); omega) | skip
        refine ⟨k + 1, ⟨⟨(by omega : k + 1 ≤ l.length), fun j hj => ?_⟩, (by first | omega | (dsimp only; omega))⟩, ?_⟩
        · by_cases c : j = k
          · rw [c, hxe]; exact hc
          · exact hne j (by omega)
        (focus (refine ⟨_, _, Gh.refl, [0], rfl, ?_⟩; (refine fitq ?_ ?_ ?_ <;> try exact trivial); (try any_goals (refine ⟨?_, ?_⟩)); (try any_goals (with_reducible rfl))))
        all_goals (repeat' (first | (refine And.intro ?_ ?_) | rfl))
    · have hkd : decide ((k : Int) < (l.length : Int)) = false := decide_eq_false (by omega)
      have hf : fixG (fun x : One => x.m.id) l id = l.length := fixG_none (d := One.zero) fun j hj => hne j (by omega)
      have hi : ixG (fun x : One => x.m.id) l id = -1 := by unfold ixG; rw [hf, if_neg (Nat.lt_irrefl _)]
      rw [hi] at hR
      (have zx1 := @hkd; all_goals (try ((with_reducible first | refine wp_id ?_ | refine does_id ?_ | refine ops_id ?_ | refine dw_id ?_); refine walk ?_; (repeat' (first | exact trivial | with_reducible refine And.intro ?_ ?_)); all_goals (repeat with_reducible first | refine ImpB.mk fun hb => ?_ | refine ImpK.mk fun hK => ?_ | refine ImpF.mk fun hF => ?_ | refine ImpQ.mk fun hp => ?_ | refine AllE.mk fun p => ?_ | refine AllR.mk fun rest => ?_ | refine AllK.mk fun K => ?_))); repeat' (with_reducible refine And.intro ?_ ?_))
      (focus (refine ⟨_, _, Gh.refl, [], rfl, ?_⟩; (refine fitq ?_ ?_ ?_ <;> try exact trivial); (try any_goals (refine ⟨?_, ?_⟩)); (try any_goals (with_reducible rfl))))
      all_goals (repeat' (first | (refine And.intro ?_ ?_) | rfl))
theorem c_rfind {h : List Ch} {K : KT} {now id r : Int} {l : List One} (H : K (.int .i64 r) h) (e1 : ixG (fun x : One => x.m.id) l id = r) (s1 : l.length ≤ 1000000) : Does Try.prog 35 [.agg [.int .i64 now, .ro .one l], .int .i64 id] h K := by
  subst e1
  exact frame_pure (b_rfind now l id s1) (br_cons (br_agg (br_cons br_int (br_cons br_ro br_nil))) (br_cons br_int br_nil)) (.inr rfl) (fun _ => rfl) H
abbrev i_rfind := Ctr.mk (i := 0) (g := 35) @c_rfind
attribute [instance] i_rfind
theorem b_rstate (now : Int) (es : List Sm) (id : Int) (hl : es.length ≤ 256) : DoesK Try.prog 0 22 [.agg [.int .i64 now, .ro .one (roL es)], .int .i64 id] [] (EndF 0 (.int .i64 (stQ es id)) []) := by
  have hix := roL_ix es id
  have s1 : (roL es).length ≤ 1000000 := by rw [roL_len]; omega
  unfold ixV at hix
  unfold stQ
  refine DoesK.close ?_
  by_cases c : fixE es id < es.length
  · rw [if_pos c] at hix ⊢
    have hat := roL_at c
    obtain ⟨k, hk⟩ : ∃ k, fixE es id = k := ⟨_, rfl⟩
    rw [hk] at hix hat c ⊢
    have hd : decide ((k : Int) < 0) = false := decide_eq_false (by omega)
    have hln := roL_len es
    obtain ⟨l, hl2⟩ : ∃ l, roL es = l := ⟨_, rfl⟩
    rw [hl2] at hix s1 hat hln ⊢
    refine w_body (rs := [.tmp 4]) (tm := [.agg [.int .i64 now, .ro .one l], .int .i64 id, .any, .any, .any, .any, .any, .any, .any, .any, .any, .any, .any, .any, .any, .any, .any]) fn_22 rfl rfl rfl rfl fun R hR => ?_
    (have zx1 := @hd; have zx2 := @hat; all_goals (try ((with_reducible first | refine wp_id ?_ | refine does_id ?_ | refine ops_id ?_ | refine dw_id ?_); refine walk ?_; (repeat' (first | exact trivial | with_reducible refine And.intro ?_ ?_)); all_goals (repeat with_reducible first | refine ImpB.mk fun hb => ?_ | refine ImpK.mk fun hK => ?_ | refine ImpF.mk fun hF => ?_ | refine ImpQ.mk fun hp => ?_ | refine AllE.mk fun p => ?_ | refine AllR.mk fun rest => ?_ | refine AllK.mk fun K => ?_))); repeat' (with_reducible refine And.intro ?_ ?_))
    all_goals first | (show _ ≤ (_ : Int); omega) | (show _ < (_ : Int); omega) | (show _ ≤ (_ : Nat); omega) | (show _ < (_ : Nat); omega) | skip
    (focus (refine ⟨_, _, Gh.refl, [], rfl, ?_⟩; (refine fitq ?_ ?_ ?_ <;> try exact trivial); (try any_goals (refine ⟨?_, ?_⟩)); (try any_goals (with_reducible rfl))))
    all_goals (repeat' (first | (refine And.intro ?_ ?_) | rfl))
  · rw [if_neg c] at hix ⊢
    obtain ⟨l, hl2⟩ : ∃ l, roL es = l := ⟨_, rfl⟩
    rw [hl2] at hix s1 ⊢
    refine w_body (rs := [.tmp 4]) (tm := [.agg [.int .i64 now, .ro .one l], .int .i64 id, .any, .any, .any, .any, .any, .any, .any, .any, .any, .any, .any, .any, .any, .any, .any]) fn_22 rfl rfl rfl rfl fun R hR => ?_
    (all_goals (try ((with_reducible first | refine wp_id ?_ | refine does_id ?_ | refine ops_id ?_ | refine dw_id ?_); refine walk ?_; (repeat' (first | exact trivial | with_reducible refine And.intro ?_ ?_)); all_goals (repeat with_reducible first | refine ImpB.mk fun hb => ?_ | refine ImpK.mk fun hK => ?_ | refine ImpF.mk fun hF => ?_ | refine ImpQ.mk fun hp => ?_ | refine AllE.mk fun p => ?_ | refine AllR.mk fun rest => ?_ | refine AllK.mk fun K => ?_))); repeat' (with_reducible refine And.intro ?_ ?_))
    (focus (refine ⟨_, _, Gh.refl, [], rfl, ?_⟩; (refine fitq ?_ ?_ ?_ <;> try exact trivial); (try any_goals (refine ⟨?_, ?_⟩)); (try any_goals (with_reducible rfl))))
    all_goals (repeat' (first | (refine And.intro ?_ ?_) | rfl))
theorem c_rstate {h : List Ch} {K : KT} {now id r : Int} {es : List Sm} {l : List One} (H : K (.int .i64 r) h) (e1 : roL es = l) (e2 : stQ es id = r) (s1 : es.length ≤ 256) : Does Try.prog 22 [.agg [.int .i64 now, .ro .one l], .int .i64 id] h K := by
  subst e1; subst e2
  exact frame_pure (b_rstate now es id s1) (br_cons (br_agg (br_cons br_int (br_cons br_ro br_nil))) (br_cons br_int br_nil)) (.inr rfl) (fun _ => rfl) H
abbrev i_rstate := Ctr.mk (i := 0) (g := 22) @c_rstate
attribute [instance] i_rstate
/-- what is off is as new -/
def rstE (e : Sm) : Prop := e.off = true → e = ⟨e.m, true, 0, 0, 0, false, 0⟩
theorem b_renaN (now : Int) (l : List One) (id : Int) (on : Bool) (s1 : l.length ≤ 1000000) (hi : ixG (fun x : One => x.m.id) l id = -1) : DoesK Try.prog 0 18 [.agg [.int .i64 now, .ro .one l], .int .i64 id, .bool on] [] (EndF 0 (.tup [.agg [.int .i64 now, .ro .one l], .int .i64 8]) []) := by
  refine DoesK.close ?_
  refine w_body (rs := [.cell 6 56, .tmp 7]) (tm := [.agg [.int .i64 now, .ro .one l], .int .i64 id, .bool on, .any, .any, .any, .any, .any, .any, .any, .any, .any, .any, .any, .any, .any, .any, .any, .any, .any, .any, .any, .any, .any, .any, .any, .any, .any, .any, .any, .any, .any, .any, .any, .any, .any, .any, .any, .any, .any, .any]) fn_18 rfl rfl rfl rfl fun R hR => ?_
  (all_goals (try ((with_reducible first | refine wp_id ?_ | refine does_id ?_ | refine ops_id ?_ | refine dw_id ?_); refine walk ?_; (repeat' (first | exact trivial | with_reducible refine And.intro ?_ ?_)); all_goals (repeat with_reducible first | refine ImpB.mk fun hb => ?_ | refine ImpK.mk fun hK => ?_ | refine ImpF.mk fun hF => ?_ | refine ImpQ.mk fun hp => ?_ | refine AllE.mk fun p => ?_ | refine AllR.mk fun rest => ?_ | refine AllK.mk fun K => ?_))); repeat' (with_reducible refine And.intro ?_ ?_))
  (focus (refine ⟨_, _, Gh.refl, [], rfl, ?_⟩; (refine fitq ?_ ?_ ?_ <;> try exact trivial); (try any_goals (refine ⟨?_, ?_⟩)); (try any_goals (with_reducible rfl))))
  all_goals (repeat' (first | (refine And.intro ?_ ?_) | rfl))
theorem b_renaT (now : Int) (l : List One) (id : Int) (on : Bool) (k : Nat) (x : One) (s1 : l.length ≤ 1000000) (hi : ixG (fun x : One => x.m.id) l id = (k : Int)) (hk : k < l.length) (hx : l.getD k One.zero = x) (ho : x.on = on) : DoesK Try.prog 0 18 [.agg [.int .i64 now, .ro .one l], .int .i64 id, .bool on] [] (EndF 0 (.tup [.agg [.int .i64 now, .ro .one l], .int .i64 0]) []) := by
  refine DoesK.close ?_
  have hd : decide ((k : Int) < 0) = false := decide_eq_false (by omega)
  have hd2 : decide (¬ x.on = on) = false := decide_eq_false (fun q => q ho)
  refine w_body (rs := [.cell 6 56, .tmp 7]) (tm := [.agg [.int .i64 now, .ro .one l], .int .i64 id, .bool on, .any, .any, .any, .any, .any, .any, .any, .any, .any, .any, .any, .any, .any, .any, .any, .any, .any, .any, .any, .any, .any, .any, .any, .any, .any, .any, .any, .any, .any, .any, .any, .any, .any, .any, .any, .any, .any, .any]) fn_18 rfl rfl rfl rfl fun R hR => ?_
  cases on with
  | true =>
    (have zx1 := @hd; have zx2 := @hx; have zx3 := @ho; all_goals (try ((with_reducible first | refine wp_id ?_ | refine does_id ?_ | refine ops_id ?_ | refine dw_id ?_); refine walk ?_; (repeat' (first | exact trivial | with_reducible refine And.intro ?_ ?_)); all_goals (repeat with_reducible first | refine ImpB.mk fun hb => ?_ | refine ImpK.mk fun hK => ?_ | refine ImpF.mk fun hF => ?_ | refine ImpQ.mk fun hp => ?_ | refine AllE.mk fun p => ?_ | refine AllR.mk fun rest => ?_ | refine AllK.mk fun K => ?_))); repeat' (with_reducible refine And.intro ?_ ?_))
    all_goals first | (show _ ≤ (_ : Int); omega) | (show _ < (_ : Int); omega) | (show _ ≤ (_ : Nat); omega) | (show _ < (_ : Nat); omega) | skip
    refine ⟨_, _, gh_frz (t := 3) (e := .one) (xs := l) rfl ?f11 ?f21, [], rfl, ?ft1⟩
    case' ft1 => (refine fitq ?_ ?_ ?_ <;> try exact trivial)
    case' f11 => simp only [go_sem, decide_true, decide_false, Int.reduceToNat, Nat.min_eq_left, Nat.min_eq_right, Int.reducePow, Nat.reducePow, Int.reduceLE, Int.reduceLT, Int.reduceMul, Int.reduceAdd, Int.reduceSub, Int.reduceNeg, Bool.not_true, Bool.not_false, Bool.not_not, ↓reduceIte, Nat.reduceAdd, Nat.reduceSub, Nat.reduceMul, Nat.reduceEqDiff, reduceCtorEq, Nat.reduceLT, Nat.reduceLeDiff, Nat.reduceGT]
    case' f21 => simp only [go_sem, decide_true, decide_false, Int.reduceToNat, Nat.min_eq_left, Nat.min_eq_right, Int.reducePow, Nat.reducePow, Int.reduceLE, Int.reduceLT, Int.reduceMul, Int.reduceAdd, Int.reduceSub, Int.reduceNeg, Bool.not_true, Bool.not_false, Bool.not_not, ↓reduceIte, Nat.reduceAdd, Nat.reduceSub, Nat.reduceMul, Nat.reduceEqDiff, reduceCtorEq, Nat.reduceLT, Nat.reduceLeDiff, Nat.reduceGT]
    all_goals first | exact Nat.le_refl _ | exact ⟨Nat.le_refl _, False.elim⟩ | exact False.elim | (repeat' (first | (refine And.intro ?_ ?_) | rfl | exact False.elim | exact Nat.le_refl _))
  | false =>
    (have zx1 := @hd; have zx2 := @hx; have zx3 := @ho; all_goals (try ((with_reducible first | refine wp_id ?_ | refine does_id ?_ | refine ops_id ?_ | refine dw_id ?_); refine walk ?_; (repeat' (first | exact trivial | with_reducible refine And.intro ?_ ?_)); all_goals (repeat with_reducible first | refine ImpB.mk fun hb => ?_ | refine ImpK.mk fun hK => ?_ | refine ImpF.mk fun hF => ?_ | refine ImpQ.mk fun hp => ?_ | refine AllE.mk fun p => ?_ | refine AllR.mk fun rest => ?_ | refine AllK.mk fun K => ?_))); repeat' (with_reducible refine And.intro ?_ ?_))
    all_goals first | (show _ ≤ (_ : Int); omega) | (show _ < (_ : Int); omega) | (show _ ≤ (_ : Nat); omega) | (show _ < (_ : Nat); omega) | skip
    refine ⟨_, _, gh_frz (t := 3) (e := .one) (xs := l) rfl ?f12 ?f22, [], rfl, ?ft2⟩
    case' ft2 => (refine fitq ?_ ?_ ?_ <;> try exact trivial)
    case' f12 => simp only [go_sem, decide_true, decide_false, Int.reduceToNat, Nat.min_eq_left, Nat.min_eq_right, Int.reducePow, Nat.reducePow, Int.reduceLE, Int.reduceLT, Int.reduceMul, Int.reduceAdd, Int.reduceSub, Int.reduceNeg, Bool.not_true, Bool.not_false, Bool.not_not, ↓reduceIte, Nat.reduceAdd, Nat.reduceSub, Nat.reduceMul, Nat.reduceEqDiff, reduceCtorEq, Nat.reduceLT, Nat.reduceLeDiff, Nat.reduceGT]
    case' f22 => simp only [go_sem, decide_true, decide_false, Int.reduceToNat, Nat.min_eq_left, Nat.min_eq_right, Int.reducePow, Nat.reducePow, Int.reduceLE, Int.reduceLT, Int.reduceMul, Int.reduceAdd, Int.reduceSub, Int.reduceNeg, Bool.not_true, Bool.not_false, Bool.not_not, ↓reduceIte, Nat.reduceAdd, Nat.reduceSub, Nat.reduceMul, Nat.reduceEqDiff, reduceCtorEq, Nat.reduceLT, Nat.reduceLeDiff, Nat.reduceGT]
    all_goals first | exact Nat.le_refl _ | exact ⟨Nat.le_refl _, False.elim⟩ | exact False.elim | (repeat' (first | (refine And.intro ?_ ?_) | rfl | exact False.elim | exact Nat.le_refl _))
theorem b_renaF (now : Int) (l l2 : List One) (id : Int) (on : Bool) (k : Nat) (x : One) (s1 : l.length ≤ 1000000) (hi : ixG (fun x : One => x.m.id) l id = (k : Int)) (hk : k < l.length) (hx : l.getD k One.zero = x) (ho : x.on = !on) (hs : l.set k ⟨x.m, on, 0, 0, 0, false, 0⟩ = l2) : DoesK Try.prog 0 18 [.agg [.int .i64 now, .ro .one l], .int .i64 id, .bool on] [] (EndF 0 (.tup [.agg [.int .i64 now, .ro .one l2], .int .i64 0]) []) := by
  refine DoesK.close ?_
  have hd : decide ((k : Int) < 0) = false := decide_eq_false (by omega)
  have hl2 : l.length = l2.length := by rw [← hs, List.length_set]
  refine w_body (rs := [.cell 6 56, .tmp 7]) (tm := [.agg [.int .i64 now, .ro .one l], .int .i64 id, .bool on, .any, .any, .any, .any, .any, .any, .any, .any, .any, .any, .any, .any, .any, .any, .any, .any, .any, .any, .any, .any, .any, .any, .any, .any, .any, .any, .any, .any, .any, .any, .any, .any, .any, .any, .any, .any, .any, .any]) fn_18 rfl rfl rfl rfl fun R hR => ?_
  cases on with
  | true =>
    have ho : x.on = false := ho
    (have zx1 := @hd; have zx2 := @hx; have zx3 := @ho; have zx4 := @hs; all_goals (try ((with_reducible first | refine wp_id ?_ | refine does_id ?_ | refine ops_id ?_ | refine dw_id ?_); refine walk ?_; (repeat' (first | exact trivial | with_reducible refine And.intro ?_ ?_)); all_goals (repeat with_reducible first | refine ImpB.mk fun hb => ?_ | refine ImpK.mk fun hK => ?_ | refine ImpF.mk fun hF => ?_ | refine ImpQ.mk fun hp => ?_ | refine AllE.mk fun p => ?_ | refine AllR.mk fun rest => ?_ | refine AllK.mk fun K => ?_))); repeat' (with_reducible refine And.intro ?_ ?_))
    all_goals first | (show _ ≤ (_ : Int); omega) | (show _ < (_ : Int); omega) | (show _ ≤ (_ : Nat); omega) | (show _ < (_ : Nat); omega) | skip
    rw [hl2]
    refine ⟨_, _, gh_frz (t := 3) (e := .one) (xs := l2) rfl ?f13 ?f23, [], rfl, ?ft3⟩
    case' ft3 => (refine fitq ?_ ?_ ?_ <;> try exact trivial)
    case' f13 => simp only [go_sem, decide_true, decide_false, Int.reduceToNat, Nat.min_eq_left, Nat.min_eq_right, Int.reducePow, Nat.reducePow, Int.reduceLE, Int.reduceLT, Int.reduceMul, Int.reduceAdd, Int.reduceSub, Int.reduceNeg, Bool.not_true, Bool.not_false, Bool.not_not, ↓reduceIte, Nat.reduceAdd, Nat.reduceSub, Nat.reduceMul, Nat.reduceEqDiff, reduceCtorEq, Nat.reduceLT, Nat.reduceLeDiff, Nat.reduceGT]
    case' f23 => simp only [go_sem, decide_true, decide_false, Int.reduceToNat, Nat.min_eq_left, Nat.min_eq_right, Int.reducePow, Nat.reducePow, Int.reduceLE, Int.reduceLT, Int.reduceMul, Int.reduceAdd, Int.reduceSub, Int.reduceNeg, Bool.not_true, Bool.not_false, Bool.not_not, ↓reduceIte, Nat.reduceAdd, Nat.reduceSub, Nat.reduceMul, Nat.reduceEqDiff, reduceCtorEq, Nat.reduceLT, Nat.reduceLeDiff, Nat.reduceGT]
    all_goals first | exact Nat.le_refl _ | exact ⟨Nat.le_refl _, False.elim⟩ | exact False.elim | (repeat' (first | (refine And.intro ?_ ?_) | rfl | exact False.elim | exact Nat.le_refl _))
  | false =>
    have ho : x.on = true := ho
    (have zx1 := @hd; have zx2 := @hx; have zx3 := @ho; have zx4 := @hs; all_goals (try ((with_reducible first | refine wp_id ?_ | refine does_id ?_ | refine ops_id ?_ | refine dw_id ?_); refine walk ?_; (repeat' (first | exact trivial | with_reducible refine And.intro ?_ ?_)); all_goals (repeat with_reducible first | refine ImpB.mk fun hb => ?_ | refine ImpK.mk fun hK => ?_ | refine ImpF.mk fun hF => ?_ | refine ImpQ.mk fun hp => ?_ | refine AllE.mk fun p => ?_ | refine AllR.mk fun rest => ?_ | refine AllK.mk fun K => ?_))); repeat' (with_reducible refine And.intro ?_ ?_))
    all_goals first | (show _ ≤ (_ : Int); omega) | (show _ < (_ : Int); omega) | (show _ ≤ (_ : Nat); omega) | (show _ < (_ : Nat); omega) | skip
    rw [hl2]
    refine ⟨_, _, gh_frz (t := 3) (e := .one) (xs := l2) rfl ?f14 ?f24, [], rfl, ?ft4⟩
    case' ft4 => (refine fitq ?_ ?_ ?_ <;> try exact trivial)
    case' f14 => simp only [go_sem, decide_true, decide_false, Int.reduceToNat, Nat.min_eq_left, Nat.min_eq_right, Int.reducePow, Nat.reducePow, Int.reduceLE, Int.reduceLT, Int.reduceMul, Int.reduceAdd, Int.reduceSub, Int.reduceNeg, Bool.not_true, Bool.not_false, Bool.not_not, ↓reduceIte, Nat.reduceAdd, Nat.reduceSub, Nat.reduceMul, Nat.reduceEqDiff, reduceCtorEq, Nat.reduceLT, Nat.reduceLeDiff, Nat.reduceGT]
    case' f24 => simp only [go_sem, decide_true, decide_false, Int.reduceToNat, Nat.min_eq_left, Nat.min_eq_right, Int.reducePow, Nat.reducePow, Int.reduceLE, Int.reduceLT, Int.reduceMul, Int.reduceAdd, Int.reduceSub, Int.reduceNeg, Bool.not_true, Bool.not_false, Bool.not_not, ↓reduceIte, Nat.reduceAdd, Nat.reduceSub, Nat.reduceMul, Nat.reduceEqDiff, reduceCtorEq, Nat.reduceLT, Nat.reduceLeDiff, Nat.reduceGT]
    all_goals first | exact Nat.le_refl _ | exact ⟨Nat.le_refl _, False.elim⟩ | exact False.elim | (repeat' (first | (refine And.intro ?_ ?_) | rfl | exact False.elim | exact Nat.le_refl _))
theorem b_rena (now : Int) (es : List Sm) (id : Int) (on : Bool) (a : OkS es) (hz : ∀ e ∈ es, rstE e) : DoesK Try.prog 0 18 [.agg [.int .i64 now, .ro .one (roL es)], .int .i64 id, .bool on] [] (EndF 0 (.tup [.agg [.int .i64 now, .ro .one (roL (enaL id on es))], .int .i64 (enaR es id)]) []) := by
  have hix := roL_ix es id
  have hln := roL_len es
  have hmx := a.max
  unfold ixV at hix
  by_cases c : fixE es id < es.length
  · rw [if_pos c] at hix
    rw [show enaR es id = 0 from if_pos c, enaL_at a.srt c (fixE_lt c)]
    have hat := roL_at c
    have hz1 := hz _ (mem_at c)
    obtain ⟨k, hk⟩ : ∃ k, fixE es id = k := ⟨_, rfl⟩
    rw [hk] at hix hat hz1 c ⊢
    have hset : ∀ x, roL (es.set k x) = (roL es).set k (rfO x) := fun x => by unfold roL; rw [List.map_set]
    rw [hset]
    obtain ⟨e, he⟩ : ∃ e, eAtS es k = e := ⟨_, rfl⟩
    rw [he] at hat hz1 ⊢
    have hk2 : k < (roL es).length := by omega
    have hself : (roL es).set k (rfO e) = roL es := by
      have : (roL es)[k] = rfO e := by rw [← hat, List.getD_eq_getElem?_getD, List.getElem?_eq_getElem hk2]; rfl
      rw [← this]; exact List.set_getElem_self hk2
    cases on with
    | true =>
      cases ho : e.off with
      | false =>
        have : enaS true e = e := by obtain ⟨m, off, st, rs, rn, bg, la⟩ := e; obtain rfl : off = false := ho; rfl
        rw [this, hself]
        exact b_renaT now _ id true k (rfO e) (by omega) hix hk2 hat (by show (!e.off) = true; rw [ho]; rfl)
      | true =>
        have h1 := hz1 ho
        have : rfO (enaS true e) = ⟨(rfO e).m, true, 0, 0, 0, false, 0⟩ := by rw [h1]; rfl
        rw [this]
        exact b_renaF now _ _ id true k (rfO e) (by omega) hix hk2 hat (by show (!e.off) = false; rw [ho]; rfl) rfl
    | false =>
      cases ho : e.off with
      | false =>
        have : rfO (enaS false e) = ⟨(rfO e).m, false, 0, 0, 0, false, 0⟩ := by unfold enaS; rw [if_pos ⟨rfl, ho⟩]; rfl
        rw [this]
        exact b_renaF now _ _ id false k (rfO e) (by omega) hix hk2 hat (by show (!e.off) = true; rw [ho]; rfl) rfl
      | true =>
        have : enaS false e = e := by obtain ⟨m, off, st, rs, rn, bg, la⟩ := e; obtain rfl : off = true := ho; rfl
        rw [this, hself]
        exact b_renaT now _ id false k (rfO e) (by omega) hix hk2 hat (by show (!e.off) = false; rw [ho]; rfl)
  · rw [if_neg c] at hix
    rw [show enaR es id = 8 from if_neg c, enaL_none (fixE_ge c)]
    exact b_renaN now _ id on (by omega) hix
theorem c_rena {h : List Ch} {K : KT} {now id r : Int} {es : List Sm} {l l2 : List One} {on : Bool} (H : K (.tup [.agg [.int .i64 now, .ro .one l2], .int .i64 r]) h) (e1 : roL es = l) (e2 : OkS es) (e3 : ∀ x ∈ es, rstE x) (e4 : enaR es id = r ∧ roL (enaL id on es) = l2) : Does Try.prog 18 [.agg [.int .i64 now, .ro .one l], .int .i64 id, .bool on] h K := by
  subst e1
  have hb := b_rena now es id on e2 e3
  rw [e4.1, e4.2] at hb
  exact frame_pure hb (br_cons (br_agg (br_cons br_int (br_cons br_ro br_nil))) (br_cons br_int (br_cons br_bool br_nil))) (.inl rfl) (fun _ => rfl) H
abbrev i_rena := Ctr.mk (i := 0) (g := 18) @c_rena
attribute [instance] i_rena
end Go.V
