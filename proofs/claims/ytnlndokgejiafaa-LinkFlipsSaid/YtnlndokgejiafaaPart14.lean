/-
  The program's link: New and Clone; nil links and zero values.
  The reference's link: Receive, Same.
  The program's link for the laws: folded.
  The laws of the link: LinkPlays.
  The laws of the link: LinkFlips.
  A link that delivers: plain law.
-/
import Derived.Test.YtnlndokgejiafaaPart13
set_option linter.unusedVariables false
set_option linter.unusedSimpArgs false
set_option maxRecDepth 100000
set_option maxHeartbeats 8000000
namespace Go.V
open Go.Proofs
/-- a configuration is accepted -/
def fitsB (c : Cfg) : Bool := decide (0 ≤ c.dl) && decide (c.dl ≤ 1099511627776) && !c.lost.any negInt && !c.flips.any negFlp
theorem b_newY (dl : Int) (out : List Rng) (lost : List Int) (flips : List Flp) (hf : fitsB ⟨dl, out, lost, flips⟩ = true) (h1 : out.length ≤ 1000000) (h2 : lost.length ≤ 1000000) (h3 : flips.length ≤ 1000000) : DoesK Try.prog 0 8 [.agg [.int .i64 dl, .ro .rng out, .ro .int lost, .ro .flp flips]] [] (EndF 0 (.tup [.ptr 0 0, .int .i64 0]) [.pack (LKO ⟨⟨dl, out, lost, flips⟩, 0, 0, []⟩)]) := by
  refine DoesK.close ?_
  unfold fitsB at hf
  dsimp only at hf
  simp only [Bool.and_eq_true, decide_eq_true_eq, Bool.not_eq_true'] at hf
  obtain ⟨⟨⟨g1, g2⟩, g3⟩, g4⟩ := hf
  have d1 : decide (dl < 0) = false := decide_eq_false (by omega)
  have d2 : decide (1099511627776 < dl) = false := decide_eq_false (by omega)
  refine w_body (rs := [.tmp 2, .tmp 3]) (tm := [.agg [.int .i64 dl, .ro .rng out, .ro .int lost, .ro .flp flips], .any, .any, .any, .any, .any, .any, .any, .any, .any, .any, .any, .any, .any, .any, .any, .any, .any, .any, .any, .any, .any, .any, .any, .any, .any, .any, .any, .any, .any, .any, .any, .any, .any, .any, .any, .any, .any]) fn_8 rfl rfl rfl rfl fun R hR => ?_
  (have zx1 := @d1; have zx2 := @d2; have zx3 := @g3; have zx4 := @g4; all_goals (try ((first | (with_reducible refine wp_id ?_) | (with_reducible refine does_id ?_) | (with_reducible refine ops_id ?_)); refine walk ?_; (repeat' (first | exact trivial | with_reducible refine And.intro ?_ ?_)); all_goals (repeat (first | (with_reducible refine ImpB.mk fun hb => ?_) | (with_reducible refine ImpK.mk fun hK => ?_) | (with_reducible refine ImpF.mk fun hF => ?_) | (with_reducible refine ImpQ.mk fun hp => ?_) | (with_reducible refine AllE.mk fun p => ?_) | (with_reducible refine AllR.mk fun rest => ?_) | (with_reducible refine AllK.mk fun K => ?_))))); repeat' (with_reducible refine And.intro ?_ ?_))
  all_goals (try (exfalso; rw [g4] at hb; cases hb; done))
  all_goals first | omega | skip
  (focus (refine ⟨_, _, gh_close (t := 2) (ts := [1]) (l := LKO ⟨⟨dl, out, lost, flips⟩, 0, 0, []⟩) ⟨⟨_, _, rfl⟩, ?_, by simp⟩, [2], rfl, ?_⟩; all_goals (refine ⟨?_, ?_, ?_⟩ <;> simp only [go_sem, List.range, List.range.loop, List.nodup_cons, List.nodup_nil, List.mem_cons, List.not_mem_nil, or_false, or_self, decide_true, decide_false, Int.reduceToNat, Nat.min_eq_left, Nat.min_eq_right, Int.reducePow, Nat.reducePow, Int.reduceLE, Int.reduceLT, Int.reduceMul, Int.reduceAdd, Int.reduceSub, Int.reduceNeg, Bool.not_true, Bool.not_false, Bool.not_not, ↓reduceIte, Nat.reduceAdd, Nat.reduceSub, Nat.reduceMul, Nat.reduceEqDiff, reduceCtorEq, Nat.reduceLT, Nat.reduceLeDiff, Nat.reduceGT]); (try any_goals (refine ⟨?_, ?_⟩)); (try any_goals (with_reducible rfl))))
  all_goals (repeat' (first | (refine And.intro ?_ ?_) | exact List.Perm.refl _ | rfl))
theorem k_newY {h : List Ch} {K : KT} {dl : Int} {out : List Rng} {lost : List Int} {flips : List Flp} {a1 a2 a3 : AV} (H : K (.tup [.ptr h.length 0, .int .i64 0]) (h ++ [.pack (LKO ⟨⟨dl, out, lost, flips⟩, 0, 0, []⟩)])) (q1 : isRO .rng out a1) (q2 : isRO .int lost a2) (q3 : isRO .flp flips a3) (e1 : fitsB ⟨dl, out, lost, flips⟩ = true) (s1 : out.length ≤ 1000000 ∧ lost.length ≤ 1000000 ∧ flips.length ≤ 1000000) : Does Try.prog 8 [.agg [.int .i64 dl, a1, a2, a3]] h K :=
  frame_new (b_newY dl out lost flips e1 s1.1 s1.2.1 s1.2.2) (br_cons (br_agg (br_cons br_int (br_cons q1.br (br_cons q2.br (br_cons q3.br br_nil))))) br_nil) (.inl (by have t1 := q1.brT; have t2 := q2.brT; have t3 := q3.brT; simp [brTL, brT] at t1 t2 t3 ⊢; exact ⟨t1, t2, t3⟩)) (fun _ => rfl) (by simp [renA, renL, rhoC]) H
theorem b_newN (dl : Int) (out : List Rng) (lost : List Int) (flips : List Flp) (hf : fitsB ⟨dl, out, lost, flips⟩ = false) (h2 : lost.length ≤ 9223372036854775806) (h3 : flips.length ≤ 9223372036854775806) : DoesK Try.prog 0 8 [.agg [.int .i64 dl, .ro .rng out, .ro .int lost, .ro .flp flips]] [] (EndF 0 (.tup [.lit (.pointer none), .int .i64 1]) []) := by
  refine DoesK.close ?_
  unfold fitsB at hf
  dsimp only at hf
  by_cases c1 : dl < 0
  · have d1 : decide (dl < 0) = true := decide_eq_true c1
    refine w_body (rs := [.tmp 2, .tmp 3]) (tm := [.agg [.int .i64 dl, .ro .rng out, .ro .int lost, .ro .flp flips], .any, .any, .any, .any, .any, .any, .any, .any, .any, .any, .any, .any, .any, .any, .any, .any, .any, .any, .any, .any, .any, .any, .any, .any, .any, .any, .any, .any, .any, .any, .any, .any, .any, .any, .any, .any, .any]) fn_8 rfl rfl rfl rfl fun R hR => ?_
    (have zx1 := @d1; all_goals (try ((first | (with_reducible refine wp_id ?_) | (with_reducible refine does_id ?_) | (with_reducible refine ops_id ?_)); refine walk ?_; (repeat' (first | exact trivial | with_reducible refine And.intro ?_ ?_)); all_goals (repeat (first | (with_reducible refine ImpB.mk fun hb => ?_) | (with_reducible refine ImpK.mk fun hK => ?_) | (with_reducible refine ImpF.mk fun hF => ?_) | (with_reducible refine ImpQ.mk fun hp => ?_) | (with_reducible refine AllE.mk fun p => ?_) | (with_reducible refine AllR.mk fun rest => ?_) | (with_reducible refine AllK.mk fun K => ?_))))); repeat' (with_reducible refine And.intro ?_ ?_))
    all_goals first | omega | skip
    (focus (refine ⟨_, _, Gh.refl, [], rfl, ?_⟩; (refine ⟨?_, ?_, ?_⟩ <;> simp only [go_sem, List.range, List.range.loop, List.nodup_cons, List.nodup_nil, List.mem_cons, List.not_mem_nil, or_false, or_self, decide_true, decide_false, Int.reduceToNat, Nat.min_eq_left, Nat.min_eq_right, Int.reducePow, Nat.reducePow, Int.reduceLE, Int.reduceLT, Int.reduceMul, Int.reduceAdd, Int.reduceSub, Int.reduceNeg, Bool.not_true, Bool.not_false, Bool.not_not, ↓reduceIte, Nat.reduceAdd, Nat.reduceSub, Nat.reduceMul, Nat.reduceEqDiff, reduceCtorEq, Nat.reduceLT, Nat.reduceLeDiff, Nat.reduceGT]); (try any_goals (refine ⟨?_, ?_⟩)); (try any_goals (with_reducible rfl))))
  by_cases c2 : 1099511627776 < dl
  · have d1 : decide (dl < 0) = false := decide_eq_false c1
    have d2 : decide (1099511627776 < dl) = true := decide_eq_true c2
    refine w_body (rs := [.tmp 2, .tmp 3]) (tm := [.agg [.int .i64 dl, .ro .rng out, .ro .int lost, .ro .flp flips], .any, .any, .any, .any, .any, .any, .any, .any, .any, .any, .any, .any, .any, .any, .any, .any, .any, .any, .any, .any, .any, .any, .any, .any, .any, .any, .any, .any, .any, .any, .any, .any, .any, .any, .any, .any, .any]) fn_8 rfl rfl rfl rfl fun R hR => ?_
    (have zx1 := @d1; have zx2 := @d2; all_goals (try ((first | (with_reducible refine wp_id ?_) | (with_reducible refine does_id ?_) | (with_reducible refine ops_id ?_)); refine walk ?_; (repeat' (first | exact trivial | with_reducible refine And.intro ?_ ?_)); all_goals (repeat (first | (with_reducible refine ImpB.mk fun hb => ?_) | (with_reducible refine ImpK.mk fun hK => ?_) | (with_reducible refine ImpF.mk fun hF => ?_) | (with_reducible refine ImpQ.mk fun hp => ?_) | (with_reducible refine AllE.mk fun p => ?_) | (with_reducible refine AllR.mk fun rest => ?_) | (with_reducible refine AllK.mk fun K => ?_))))); repeat' (with_reducible refine And.intro ?_ ?_))
    all_goals first | omega | skip
    (focus (refine ⟨_, _, Gh.refl, [], rfl, ?_⟩; (refine ⟨?_, ?_, ?_⟩ <;> simp only [go_sem, List.range, List.range.loop, List.nodup_cons, List.nodup_nil, List.mem_cons, List.not_mem_nil, or_false, or_self, decide_true, decide_false, Int.reduceToNat, Nat.min_eq_left, Nat.min_eq_right, Int.reducePow, Nat.reducePow, Int.reduceLE, Int.reduceLT, Int.reduceMul, Int.reduceAdd, Int.reduceSub, Int.reduceNeg, Bool.not_true, Bool.not_false, Bool.not_not, ↓reduceIte, Nat.reduceAdd, Nat.reduceSub, Nat.reduceMul, Nat.reduceEqDiff, reduceCtorEq, Nat.reduceLT, Nat.reduceLeDiff, Nat.reduceGT]); (try any_goals (refine ⟨?_, ?_⟩)); (try any_goals (with_reducible rfl))))
  have d1 : decide (dl < 0) = false := decide_eq_false c1
  have d2 : decide (1099511627776 < dl) = false := decide_eq_false c2
  rw [decide_eq_true (show 0 ≤ dl by omega), decide_eq_true (show dl ≤ 1099511627776 by omega)] at hf
  cases g3 : lost.any negInt
  · have g4 : flips.any negFlp = true := by rw [g3] at hf; simpa using hf
    refine w_body (rs := [.tmp 2, .tmp 3]) (tm := [.agg [.int .i64 dl, .ro .rng out, .ro .int lost, .ro .flp flips], .any, .any, .any, .any, .any, .any, .any, .any, .any, .any, .any, .any, .any, .any, .any, .any, .any, .any, .any, .any, .any, .any, .any, .any, .any, .any, .any, .any, .any, .any, .any, .any, .any, .any, .any, .any, .any]) fn_8 rfl rfl rfl rfl fun R hR => ?_
    (have zx1 := @d1; have zx2 := @d2; have zx3 := @g3; have zx4 := @g4; all_goals (try ((first | (with_reducible refine wp_id ?_) | (with_reducible refine does_id ?_) | (with_reducible refine ops_id ?_)); refine walk ?_; (repeat' (first | exact trivial | with_reducible refine And.intro ?_ ?_)); all_goals (repeat (first | (with_reducible refine ImpB.mk fun hb => ?_) | (with_reducible refine ImpK.mk fun hK => ?_) | (with_reducible refine ImpF.mk fun hF => ?_) | (with_reducible refine ImpQ.mk fun hp => ?_) | (with_reducible refine AllE.mk fun p => ?_) | (with_reducible refine AllR.mk fun rest => ?_) | (with_reducible refine AllK.mk fun K => ?_))))); repeat' (with_reducible refine And.intro ?_ ?_))
    all_goals (try (exfalso; rw [g4] at hb; cases hb; done))
    all_goals first | omega | skip
    (focus (refine ⟨_, _, Gh.refl, [], rfl, ?_⟩; (refine ⟨?_, ?_, ?_⟩ <;> simp only [go_sem, List.range, List.range.loop, List.nodup_cons, List.nodup_nil, List.mem_cons, List.not_mem_nil, or_false, or_self, decide_true, decide_false, Int.reduceToNat, Nat.min_eq_left, Nat.min_eq_right, Int.reducePow, Nat.reducePow, Int.reduceLE, Int.reduceLT, Int.reduceMul, Int.reduceAdd, Int.reduceSub, Int.reduceNeg, Bool.not_true, Bool.not_false, Bool.not_not, ↓reduceIte, Nat.reduceAdd, Nat.reduceSub, Nat.reduceMul, Nat.reduceEqDiff, reduceCtorEq, Nat.reduceLT, Nat.reduceLeDiff, Nat.reduceGT]); (try any_goals (refine ⟨?_, ?_⟩)); (try any_goals (with_reducible rfl))))
  · refine w_body (rs := [.tmp 2, .tmp 3]) (tm := [.agg [.int .i64 dl, .ro .rng out, .ro .int lost, .ro .flp flips], .any, .any, .any, .any, .any, .any, .any, .any, .any, .any, .any, .any, .any, .any, .any, .any, .any, .any, .any, .any, .any, .any, .any, .any, .any, .any, .any, .any, .any, .any, .any, .any, .any, .any, .any, .any, .any]) fn_8 rfl rfl rfl rfl fun R hR => ?_
    (have zx1 := @d1; have zx2 := @d2; have zx3 := @g3; all_goals (try ((first | (with_reducible refine wp_id ?_) | (with_reducible refine does_id ?_) | (with_reducible refine ops_id ?_)); refine walk ?_; (repeat' (first | exact trivial | with_reducible refine And.intro ?_ ?_)); all_goals (repeat (first | (with_reducible refine ImpB.mk fun hb => ?_) | (with_reducible refine ImpK.mk fun hK => ?_) | (with_reducible refine ImpF.mk fun hF => ?_) | (with_reducible refine ImpQ.mk fun hp => ?_) | (with_reducible refine AllE.mk fun p => ?_) | (with_reducible refine AllR.mk fun rest => ?_) | (with_reducible refine AllK.mk fun K => ?_))))); repeat' (with_reducible refine And.intro ?_ ?_))
    all_goals first | omega | skip
    (focus (refine ⟨_, _, Gh.refl, [], rfl, ?_⟩; (refine ⟨?_, ?_, ?_⟩ <;> simp only [go_sem, List.range, List.range.loop, List.nodup_cons, List.nodup_nil, List.mem_cons, List.not_mem_nil, or_false, or_self, decide_true, decide_false, Int.reduceToNat, Nat.min_eq_left, Nat.min_eq_right, Int.reducePow, Nat.reducePow, Int.reduceLE, Int.reduceLT, Int.reduceMul, Int.reduceAdd, Int.reduceSub, Int.reduceNeg, Bool.not_true, Bool.not_false, Bool.not_not, ↓reduceIte, Nat.reduceAdd, Nat.reduceSub, Nat.reduceMul, Nat.reduceEqDiff, reduceCtorEq, Nat.reduceLT, Nat.reduceLeDiff, Nat.reduceGT]); (try any_goals (refine ⟨?_, ?_⟩)); (try any_goals (with_reducible rfl))))
theorem c_newN {h : List Ch} {K : KT} {dl : Int} {out : List Rng} {lost : List Int} {flips : List Flp} {a1 a2 a3 : AV} (H : K (.tup [.lit (.pointer none), .int .i64 1]) h) (q1 : isRO .rng out a1) (q2 : isRO .int lost a2) (q3 : isRO .flp flips a3) (e1 : fitsB ⟨dl, out, lost, flips⟩ = false) (s1 : lost.length ≤ 9223372036854775806 ∧ flips.length ≤ 9223372036854775806) : Does Try.prog 8 [.agg [.int .i64 dl, a1, a2, a3]] h K :=
  frame_pure (b_newN dl out lost flips e1 s1.1 s1.2) (br_cons (br_agg (br_cons br_int (br_cons q1.br (br_cons q2.br (br_cons q3.br br_nil))))) br_nil) (.inl (by have t1 := q1.brT; have t2 := q2.brT; have t3 := q3.brT; simp [brTL, brT] at t1 t2 t3 ⊢; exact ⟨t1, t2, t3⟩)) (fun _ => rfl) H
abbrev i_newN := Ctr.mk (i := 0) (g := 8) @c_newN
attribute [instance] i_newN
end Go.V

set_option maxRecDepth 100000
set_option maxHeartbeats 8000000
namespace Go.V
open Go.Proofs
theorem b_rsame (a b : List (List UInt8)) (ha : a.length ≤ 1099511627776) (hb : b.length ≤ 1099511627776) : DoesK Try.prog 0 11 [.ro .bytes a, .ro .bytes b] [] (EndF 0 (.bool (decide (a = b))) []) := by
  refine DoesK.close ?_
  by_cases hl : a.length = b.length
  · have d0 : decide (¬ (a.length : Int) = (b.length : Int)) = false := decide_eq_false (by omega)
    refine w_body (rs := [.tmp 4]) (tm := [.ro .bytes a, .ro .bytes b, .any, .any, .any, .any, .any, .any, .any, .any, .any, .any, .any, .any, .any, .any, .any, .any, .any, .any, .any, .any, .any, .any, .any, .any, .any, .any]) fn_11 rfl rfl rfl rfl fun R hR => ?_
    (have zx1 := @d0; all_goals (try ((first | (with_reducible refine wp_id ?_) | (with_reducible refine does_id ?_) | (with_reducible refine ops_id ?_)); refine walk ?_; (repeat' (first | exact trivial | with_reducible refine And.intro ?_ ?_)); all_goals (repeat (first | (with_reducible refine ImpB.mk fun hb => ?_) | (with_reducible refine ImpK.mk fun hK => ?_) | (with_reducible refine ImpF.mk fun hF => ?_) | (with_reducible refine ImpQ.mk fun hp => ?_) | (with_reducible refine AllE.mk fun p => ?_) | (with_reducible refine AllR.mk fun rest => ?_) | (with_reducible refine AllK.mk fun K => ?_))))); repeat' (with_reducible refine And.intro ?_ ?_))
    any_goals ((try (refine w_seq fun K hK => ?_)); (try (refine w_block ?_)); refine w_loop (A := Nat) (fun k => k ≤ a.length ∧ a.take k = b.take k) (fun k => a.length - k) (fun k => [(5, .int .i64 k)]) (fun _ => []) (0) (ws := ?ws2) (tk := ?tk2) ?hw2 ?ht2 ?hi ?h0 ?LH2; (case hw2 => simp only [go_sem, decide_true, decide_false, Int.reduceToNat, Nat.min_eq_left, Nat.min_eq_right, Int.reducePow, Nat.reducePow, Int.reduceLE, Int.reduceLT, Int.reduceMul, Int.reduceAdd, Int.reduceSub, Int.reduceNeg, Bool.not_true, Bool.not_false, Bool.not_not, ↓reduceIte, Nat.reduceAdd, Nat.reduceSub, Nat.reduceMul, Nat.reduceEqDiff, reduceCtorEq, Nat.reduceLT, Nat.reduceLeDiff, Nat.reduceGT]; exact rfl); (case ht2 => simp only [go_sem, decide_true, decide_false, Int.reduceToNat, Nat.min_eq_left, Nat.min_eq_right, Int.reducePow, Nat.reducePow, Int.reduceLE, Int.reduceLT, Int.reduceMul, Int.reduceAdd, Int.reduceSub, Int.reduceNeg, Bool.not_true, Bool.not_false, Bool.not_not, ↓reduceIte, Nat.reduceAdd, Nat.reduceSub, Nat.reduceMul, Nat.reduceEqDiff, reduceCtorEq, Nat.reduceLT, Nat.reduceLeDiff, Nat.reduceGT]; exact rfl); (case' LH2 => rintro k E t hx hE ht; simp only [go_sem] at ht; subst ht; simp only [go_sem]; try dsimp only at hx))
    case hi => exact ⟨Nat.zero_le _, rfl⟩
    case h0 => (focus (refine ⟨_, _, Gh.refl, [], rfl, ?_⟩; (refine ⟨?_, ?_, ?_⟩ <;> simp only [go_sem, List.range, List.range.loop, List.nodup_cons, List.nodup_nil, List.mem_cons, List.not_mem_nil, or_false, or_self, decide_true, decide_false, Int.reduceToNat, Nat.min_eq_left, Nat.min_eq_right, Int.reducePow, Nat.reducePow, Int.reduceLE, Int.reduceLT, Int.reduceMul, Int.reduceAdd, Int.reduceSub, Int.reduceNeg, Bool.not_true, Bool.not_false, Bool.not_not, ↓reduceIte, Nat.reduceAdd, Nat.reduceSub, Nat.reduceMul, Nat.reduceEqDiff, reduceCtorEq, Nat.reduceLT, Nat.reduceLeDiff, Nat.reduceGT]); (try any_goals (refine ⟨?_, ?_⟩)); (try any_goals (with_reducible rfl))))
    case LH2 =>
      obtain ⟨hk0, he⟩ := hx
      have hw : IntKind.i64.wrap ((k : Int) + 1) = ((k + 1 : Nat) : Int) := by rw [wrap_i64 _ (by omega) (by omega)]; omega
      by_cases hk : k < a.length
      · have hkd : decide ((k : Int) < a.length) = true := decide_eq_true (by omega)
        by_cases c : a.getD k [] = b.getD k []
        · have d1 : decide (¬ a.getD k [] = b.getD k []) = false := decide_eq_false (fun q => q c)
          (have zx1 := @hkd; have zx2 := @hw; have zx3 := @d1; all_goals (try ((first | (with_reducible refine wp_id ?_) | (with_reducible refine does_id ?_) | (with_reducible refine ops_id ?_)); refine walk ?_; (repeat' (first | exact trivial | with_reducible refine And.intro ?_ ?_)); all_goals (repeat (first | (with_reducible refine ImpB.mk fun hb => ?_) | (with_reducible refine ImpK.mk fun hK => ?_) | (with_reducible refine ImpF.mk fun hF => ?_) | (with_reducible refine ImpQ.mk fun hp => ?_) | (with_reducible refine AllE.mk fun p => ?_) | (with_reducible refine AllR.mk fun rest => ?_) | (with_reducible refine AllK.mk fun K => ?_))))); repeat' (with_reducible refine And.intro ?_ ?_))
          all_goals first | exact Int.natCast_nonneg _ | omega | skip
          refine ⟨k + 1, ⟨⟨by first | omega | (dsimp only; omega), ?_⟩, by first | omega | (dsimp only; omega)⟩, ?_⟩
          · rw [getT (z := []) hk, getT (z := []) (show k < b.length by omega), he, c]
          (focus (refine ⟨_, _, Gh.refl, [], rfl, ?_⟩; (refine ⟨?_, ?_, ?_⟩ <;> simp only [go_sem, List.range, List.range.loop, List.nodup_cons, List.nodup_nil, List.mem_cons, List.not_mem_nil, or_false, or_self, decide_true, decide_false, Int.reduceToNat, Nat.min_eq_left, Nat.min_eq_right, Int.reducePow, Nat.reducePow, Int.reduceLE, Int.reduceLT, Int.reduceMul, Int.reduceAdd, Int.reduceSub, Int.reduceNeg, Bool.not_true, Bool.not_false, Bool.not_not, ↓reduceIte, Nat.reduceAdd, Nat.reduceSub, Nat.reduceMul, Nat.reduceEqDiff, reduceCtorEq, Nat.reduceLT, Nat.reduceLeDiff, Nat.reduceGT]); (try any_goals (refine ⟨?_, ?_⟩)); (try any_goals (with_reducible rfl))))
        · have d1 : decide (¬ a.getD k [] = b.getD k []) = true := decide_eq_true c
          (have zx1 := @hkd; have zx2 := @hw; have zx3 := @d1; all_goals (try ((first | (with_reducible refine wp_id ?_) | (with_reducible refine does_id ?_) | (with_reducible refine ops_id ?_)); refine walk ?_; (repeat' (first | exact trivial | with_reducible refine And.intro ?_ ?_)); all_goals (repeat (first | (with_reducible refine ImpB.mk fun hb => ?_) | (with_reducible refine ImpK.mk fun hK => ?_) | (with_reducible refine ImpF.mk fun hF => ?_) | (with_reducible refine ImpQ.mk fun hp => ?_) | (with_reducible refine AllE.mk fun p => ?_) | (with_reducible refine AllR.mk fun rest => ?_) | (with_reducible refine AllK.mk fun K => ?_))))); repeat' (with_reducible refine And.intro ?_ ?_))
          all_goals first | exact Int.natCast_nonneg _ | omega | skip
          rw [decide_eq_false (fun q : a = b => c (by rw [q]))]
          (focus (refine ⟨_, _, Gh.refl, [], rfl, ?_⟩; (refine ⟨?_, ?_, ?_⟩ <;> simp only [go_sem, List.range, List.range.loop, List.nodup_cons, List.nodup_nil, List.mem_cons, List.not_mem_nil, or_false, or_self, decide_true, decide_false, Int.reduceToNat, Nat.min_eq_left, Nat.min_eq_right, Int.reducePow, Nat.reducePow, Int.reduceLE, Int.reduceLT, Int.reduceMul, Int.reduceAdd, Int.reduceSub, Int.reduceNeg, Bool.not_true, Bool.not_false, Bool.not_not, ↓reduceIte, Nat.reduceAdd, Nat.reduceSub, Nat.reduceMul, Nat.reduceEqDiff, reduceCtorEq, Nat.reduceLT, Nat.reduceLeDiff, Nat.reduceGT]); (try any_goals (refine ⟨?_, ?_⟩)); (try any_goals (with_reducible rfl))))
      · have hkd : decide ((k : Int) < a.length) = false := decide_eq_false (by omega)
        rw [List.take_of_length_le (by omega), List.take_of_length_le (by omega)] at he
        (have zx1 := @hkd; all_goals (try ((first | (with_reducible refine wp_id ?_) | (with_reducible refine does_id ?_) | (with_reducible refine ops_id ?_)); refine walk ?_; (repeat' (first | exact trivial | with_reducible refine And.intro ?_ ?_)); all_goals (repeat (first | (with_reducible refine ImpB.mk fun hb => ?_) | (with_reducible refine ImpK.mk fun hK => ?_) | (with_reducible refine ImpF.mk fun hF => ?_) | (with_reducible refine ImpQ.mk fun hp => ?_) | (with_reducible refine AllE.mk fun p => ?_) | (with_reducible refine AllR.mk fun rest => ?_) | (with_reducible refine AllK.mk fun K => ?_))))); repeat' (with_reducible refine And.intro ?_ ?_))
        rw [decide_eq_true he]
        (focus (refine ⟨_, _, Gh.refl, [], rfl, ?_⟩; (refine ⟨?_, ?_, ?_⟩ <;> simp only [go_sem, List.range, List.range.loop, List.nodup_cons, List.nodup_nil, List.mem_cons, List.not_mem_nil, or_false, or_self, decide_true, decide_false, Int.reduceToNat, Nat.min_eq_left, Nat.min_eq_right, Int.reducePow, Nat.reducePow, Int.reduceLE, Int.reduceLT, Int.reduceMul, Int.reduceAdd, Int.reduceSub, Int.reduceNeg, Bool.not_true, Bool.not_false, Bool.not_not, ↓reduceIte, Nat.reduceAdd, Nat.reduceSub, Nat.reduceMul, Nat.reduceEqDiff, reduceCtorEq, Nat.reduceLT, Nat.reduceLeDiff, Nat.reduceGT]); (try any_goals (refine ⟨?_, ?_⟩)); (try any_goals (with_reducible rfl))))
  · have d0 : decide (¬ (a.length : Int) = (b.length : Int)) = true := decide_eq_true (by omega)
    rw [decide_eq_false (fun q : a = b => hl (by rw [q]))]
    refine w_body (rs := [.tmp 4]) (tm := [.ro .bytes a, .ro .bytes b, .any, .any, .any, .any, .any, .any, .any, .any, .any, .any, .any, .any, .any, .any, .any, .any, .any, .any, .any, .any, .any, .any, .any, .any, .any, .any]) fn_11 rfl rfl rfl rfl fun R hR => ?_
    (have zx1 := @d0; all_goals (try ((first | (with_reducible refine wp_id ?_) | (with_reducible refine does_id ?_) | (with_reducible refine ops_id ?_)); refine walk ?_; (repeat' (first | exact trivial | with_reducible refine And.intro ?_ ?_)); all_goals (repeat (first | (with_reducible refine ImpB.mk fun hb => ?_) | (with_reducible refine ImpK.mk fun hK => ?_) | (with_reducible refine ImpF.mk fun hF => ?_) | (with_reducible refine ImpQ.mk fun hp => ?_) | (with_reducible refine AllE.mk fun p => ?_) | (with_reducible refine AllR.mk fun rest => ?_) | (with_reducible refine AllK.mk fun K => ?_))))); repeat' (with_reducible refine And.intro ?_ ?_))
    (focus (refine ⟨_, _, Gh.refl, [], rfl, ?_⟩; (refine ⟨?_, ?_, ?_⟩ <;> simp only [go_sem, List.range, List.range.loop, List.nodup_cons, List.nodup_nil, List.mem_cons, List.not_mem_nil, or_false, or_self, decide_true, decide_false, Int.reduceToNat, Nat.min_eq_left, Nat.min_eq_right, Int.reducePow, Nat.reducePow, Int.reduceLE, Int.reduceLT, Int.reduceMul, Int.reduceAdd, Int.reduceSub, Int.reduceNeg, Bool.not_true, Bool.not_false, Bool.not_not, ↓reduceIte, Nat.reduceAdd, Nat.reduceSub, Nat.reduceMul, Nat.reduceEqDiff, reduceCtorEq, Nat.reduceLT, Nat.reduceLeDiff, Nat.reduceGT]); (try any_goals (refine ⟨?_, ?_⟩)); (try any_goals (with_reducible rfl))))
theorem c_rsame {h : List Ch} {K : KT} {a b : List (List UInt8)} {x y : AV} (H : K (.bool (decide (a = b))) h) (b1 : brA [] h (.ro .bytes a) x) (b2 : brA [] h (.ro .bytes b) y) (s1 : a.length ≤ 1099511627776) (s2 : b.length ≤ 1099511627776) : Does Try.prog 11 [x, y] h K :=
  frame_pure (b_rsame a b s1 s2) (br_cons b1 (br_cons b2 br_nil)) (.inr rfl) (fun _ => rfl) H
abbrev i_rsame := Ctr.mk (i := 0) (g := 11) @c_rsame
attribute [instance] i_rsame
end Go.V

set_option maxRecDepth 100000
set_option maxHeartbeats 8000000
namespace Go.V
open Go.Proofs
/-- a link as it lies, folded -/
def LKF (s : Lk) : Ch := .pack (LKO s)
theorem c_Fsend {h : List Ch} {K : KT} {u : Nat} {s : Lk} {n : Int} {b : List UInt8} {a : AV} (H : K (.int .i64 0) (h.set u (LKF (sendK s n b)))) (o : hth h u = LKF s) (q1 : isRO .byte b a) (s1 : okL s) (s2 : b.length ≤ 1000000) (s3 : s.sent ≤ 1000000) : Does Try.prog 9 [.ptr u 0, .int .i64 n, a] h K := k_send H o q1 s1 s2 s3
abbrev i_Fsend := Ctr.mk (i := 2) (g := 9) @c_Fsend
attribute [instance] i_Fsend
theorem c_Frecv {h : List Ch} {K : KT} {u : Nat} {s : Lk} {n : Int} (H : K (.ro .bytes (outK s n)) (h.set u (LKF (recvK s n)))) (o : hth h u = LKF s) (s1 : okL s) (s3 : s.sent ≤ 1000000) : Does Try.prog 10 [.ptr u 0, .int .i64 n] h K := k_recv H o s1 s3
abbrev i_Frecv := Ctr.mk (i := 2) (g := 10) @c_Frecv
attribute [instance] i_Frecv
theorem c_Fsent {h : List Ch} {K : KT} {u : Nat} {s : Lk} (H : K (.int .i64 s.sent) h) (o : hth h u = LKF s) : Does Try.prog 13 [.ptr u 0] h K := k_Sent (dl := s.c.dl) (now := s.now) (out := s.c.out) (lost := s.c.lost) (flips := s.c.flips) (P := s.P) H o
abbrev i_Fsent := Ctr.mk (i := 2) (g := 13) @c_Fsent
attribute [instance] i_Fsent
theorem c_Fpend {h : List Ch} {K : KT} {u : Nat} {s : Lk} (H : K (.int .i64 s.P.length) h) (o : hth h u = LKF s) : Does Try.prog 12 [.ptr u 0] h K := k_Pending (dl := s.c.dl) (now := s.now) (sent := s.sent) (out := s.c.out) (lost := s.c.lost) (flips := s.c.flips) (P := s.P) H o
abbrev i_Fpend := Ctr.mk (i := 2) (g := 12) @c_Fpend
attribute [instance] i_Fpend
theorem c_Fnew {h : List Ch} {K : KT} {dl : Int} {out : List Rng} {lost : List Int} {flips : List Flp} {a1 a2 a3 : AV} (H : K (.tup [.ptr h.length 0, .int .i64 0]) (h ++ [LKF ⟨⟨dl, out, lost, flips⟩, 0, 0, []⟩])) (q1 : isRO .rng out a1) (q2 : isRO .int lost a2) (q3 : isRO .flp flips a3) (e1 : fitsB ⟨dl, out, lost, flips⟩ = true) (s1 : out.length ≤ 1000000 ∧ lost.length ≤ 1000000 ∧ flips.length ≤ 1000000) : Does Try.prog 8 [.agg [.int .i64 dl, a1, a2, a3]] h K := k_newY H q1 q2 q3 e1 s1
abbrev i_Fnew := Ctr.mk (i := 1) (g := 8) @c_Fnew
attribute [instance] i_Fnew
/-- the chapter's example, step by step -/
def A0 : Lk := ⟨⟨5, [⟨10, 20⟩], [1], [⟨2, 0⟩]⟩, 0, 0, []⟩
def A1 : Lk := ⟨⟨5, [⟨10, 20⟩], [1], [⟨2, 0⟩]⟩, 0, 1, [(0, ⟨5, [1]⟩)]⟩
def A2 : Lk := ⟨⟨5, [⟨10, 20⟩], [1], [⟨2, 0⟩]⟩, 1, 2, [(0, ⟨5, [1]⟩)]⟩
def A3 : Lk := ⟨⟨5, [⟨10, 20⟩], [1], [⟨2, 0⟩]⟩, 2, 3, [(0, ⟨5, [1]⟩), (2, ⟨7, [129]⟩)]⟩
def A4 : Lk := ⟨⟨5, [⟨10, 20⟩], [1], [⟨2, 0⟩]⟩, 4, 3, [(0, ⟨5, [1]⟩), (2, ⟨7, [129]⟩)]⟩
def A5 : Lk := ⟨⟨5, [⟨10, 20⟩], [1], [⟨2, 0⟩]⟩, 6, 3, [(2, ⟨7, [129]⟩)]⟩
def A6 : Lk := ⟨⟨5, [⟨10, 20⟩], [1], [⟨2, 0⟩]⟩, 7, 3, []⟩
def A7 : Lk := ⟨⟨5, [⟨10, 20⟩], [1], [⟨2, 0⟩]⟩, 12, 4, []⟩
def A8 : Lk := ⟨⟨5, [⟨10, 20⟩], [1], [⟨2, 0⟩]⟩, 99, 4, []⟩
theorem lka0 : (⟨⟨5, [⟨10, 20⟩], [1], [⟨2, 0⟩]⟩, 0, 0, []⟩ : Lk) = A0 := rfl
theorem lka1 : sendK A0 0 [UInt8.ofNat 1] = A1 := by rfl
theorem lka2 : sendK A1 1 [UInt8.ofNat 1] = A2 := by rfl
theorem lka3 : sendK A2 2 [UInt8.ofNat 1] = A3 := by rfl
theorem lka4 : recvK A3 4 = A4 := by rfl
theorem lka5 : recvK A4 6 = A5 := by rfl
theorem lka6 : recvK A5 7 = A6 := by rfl
theorem lka7 : sendK A6 12 [UInt8.ofNat 1] = A7 := by rfl
theorem lka8 : recvK A7 99 = A8 := by rfl
theorem lkx4 : outK A3 4 = [] := by rfl
theorem lkx5 : outK A4 6 = [[UInt8.ofNat 1]] := by rfl
theorem lkx6 : outK A5 7 = [[UInt8.ofNat 129]] := by rfl
theorem lkx8 : outK A7 99 = [] := by rfl
theorem ok0 : okL A0 := by
  refine ⟨?_, ?_, ?_, ?_, ?_, ?_, ?_, ?_, ?_, ?_, ?_⟩ <;> (unfold A0; simp)
theorem ok1 : okL A1 := lka1 ▸ ok0.send 0 (by decide)
theorem ok2 : okL A2 := lka2 ▸ ok1.send 1 (by decide)
theorem ok3 : okL A3 := lka3 ▸ ok2.send 2 (by decide)
theorem ok4 : okL A4 := lka4 ▸ ok3.recv 4
theorem ok5 : okL A5 := lka5 ▸ ok4.recv 6
theorem ok6 : okL A6 := lka6 ▸ ok5.recv 7
theorem ok7 : okL A7 := lka7 ▸ ok6.send 12 (by decide)
theorem lkp5 : A5.P.length = 1 := rfl
theorem lkp8 : A8.P.length = 0 := rfl
theorem lkt8 : A8.sent = 4 := rfl
theorem b_alive : DoesK Try.prog 0 7 [] [] (EndF 0 (.bool true) []) := by
  refine DoesK.close ?_
  have hro : RoLit := .mk
  have f1 : fitsB ⟨5, [⟨10, 20⟩], [1], [⟨2, 0⟩]⟩ = true := by decide
  have f2 : fitsB ⟨-1, [], [], []⟩ = false := by decide
  refine w_body (rs := [.tmp 0]) (tm := [.any, .any, .any, .any, .any, .any, .any, .any, .any, .any, .any, .any, .any, .any, .any, .any, .any, .any, .any, .any, .any, .any, .any, .any, .any, .any, .any, .any, .any, .any, .any, .any, .any, .any, .any, .any, .any, .any, .any, .any, .any, .any, .any, .any, .any, .any, .any, .any, .any, .any, .any, .any, .any, .any, .any, .any, .any, .any, .any, .any, .any, .any, .any, .any, .any, .any, .any, .any, .any, .any, .any, .any, .any, .any, .any, .any, .any, .any, .any, .any, .any, .any, .any, .any, .any, .any, .any, .any, .any, .any, .any, .any]) fn_7 rfl rfl rfl rfl fun R hR => ?_
  have j1 := And.intro lka0 (And.intro lka1 lka2)
  have j2 := And.intro lka3 (And.intro lka4 lka5)
  have j3 := And.intro lka6 (And.intro lka7 lka8)
  have j4 := And.intro lkx4 (And.intro lkx5 lkx6)
  have j5 := And.intro lkx8 (And.intro lkp5 (And.intro lkp8 lkt8))
  (have zx1 := @j1; have zx2 := @j2; have zx3 := @j3; have zx4 := @j4; have zx5 := @j5; all_goals (try ((first | (with_reducible refine wp_id ?_) | (with_reducible refine does_id ?_) | (with_reducible refine ops_id ?_)); refine walk ?_; (repeat' (first | exact trivial | with_reducible refine And.intro ?_ ?_)); all_goals (repeat (first | (with_reducible refine ImpB.mk fun hb => ?_) | (with_reducible refine ImpK.mk fun hK => ?_) | (with_reducible refine ImpF.mk fun hF => ?_) | (with_reducible refine ImpQ.mk fun hp => ?_) | (with_reducible refine AllE.mk fun p => ?_) | (with_reducible refine AllR.mk fun rest => ?_) | (with_reducible refine AllK.mk fun K => ?_))))); repeat' (with_reducible refine And.intro ?_ ?_))
  all_goals first | exact ok0 | exact ok1 | exact ok2 | exact ok3 | exact ok4 | exact ok5 | exact ok6 | exact ok7 | (show _ ≤ (_ : Int); decide) | (simp; done) | skip
  (focus (refine ⟨_, _, Gh.refl, [], rfl, ?_⟩; (refine ⟨?_, ?_, ?_⟩ <;> simp only [go_sem, List.range, List.range.loop, List.nodup_cons, List.nodup_nil, List.mem_cons, List.not_mem_nil, or_false, or_self, decide_true, decide_false, Int.reduceToNat, Nat.min_eq_left, Nat.min_eq_right, Int.reducePow, Nat.reducePow, Int.reduceLE, Int.reduceLT, Int.reduceMul, Int.reduceAdd, Int.reduceSub, Int.reduceNeg, Bool.not_true, Bool.not_false, Bool.not_not, ↓reduceIte, Nat.reduceAdd, Nat.reduceSub, Nat.reduceMul, Nat.reduceEqDiff, reduceCtorEq, Nat.reduceLT, Nat.reduceLeDiff, Nat.reduceGT]); (try any_goals (refine ⟨?_, ?_⟩)); (try any_goals (with_reducible rfl))))
theorem c_alive {h : List Ch} {K : KT} (H : K (.bool true) h) : Does Try.prog 7 [] h K :=
  frame_pure b_alive br_nil (.inl rfl) (fun _ => rfl) H
abbrev i_alive := Ctr.mk (i := 0) (g := 7) @c_alive
attribute [instance] i_alive
end Go.V

set_option maxRecDepth 100000
set_option maxHeartbeats 16000000
namespace Go.V
open Go.Proofs
theorem ok_new {dl : Int} {out : List Rng} {lost : List Int} {flips : List Flp} (hf : fitsB ⟨dl, out, lost, flips⟩ = true) (h1 : out.length ≤ 1000000) (h2 : lost.length ≤ 1000000) (h3 : flips.length ≤ 1000000) : okL ⟨⟨dl, out, lost, flips⟩, 0, 0, []⟩ := by
  unfold fitsB at hf
  dsimp only at hf
  simp only [Bool.and_eq_true, decide_eq_true_eq, Bool.not_eq_true'] at hf
  obtain ⟨⟨⟨g1, g2⟩, g3⟩, g4⟩ := hf
  refine ⟨⟨h1, h2, h3⟩, ⟨g1, g2⟩, fun f hf => ?_, ⟨Int.le_refl _, (by decide : (0 : Int) ≤ 1099511627776)⟩, Int.le_refl _, Int.le_refl _, List.Pairwise.nil, ?_, ?_, List.Pairwise.nil, ?_⟩
  rotate_left
  · intro p hp; cases hp
  · intro p hp; cases hp
  · intro p hp; cases hp
  have := List.any_eq_false.1 g4 f hf
  unfold negFlp at this
  simp only [Bool.or_eq_true, decide_eq_true_eq] at this
  omega
end Go.V

set_option maxRecDepth 100000
set_option maxHeartbeats 16000000
namespace Go.V
open Go.Proofs
/-- ones among the first k bits -/
def pcN (x : Nat) : Nat → Nat
  | 0 => 0
  | k + 1 => pcN x k + x / 2 ^ k % 2
theorem pcN_one : ∀ r : Fin 8, pcN ((128 >>> UInt8.ofNat r.val : UInt8).toNat) 8 = 1 := by decide
theorem pcN_zero : pcN (0 : UInt8).toNat 8 = 0 := by decide
theorem sh_ne : ∀ r : Fin 8, ¬ (128 >>> UInt8.ofNat r.val : UInt8) = 0 := by decide
theorem pcN_le {x : Nat} : ∀ {k : Nat}, pcN x k ≤ k
  | 0 => Nat.le_refl _
  | k + 1 => by
    have := pcN_le (x := x) (k := k)
    have := Nat.mod_lt (x / 2 ^ k) (show 0 < 2 by decide)
    rw [pcN]; omega
theorem xor_back (a c : UInt8) : (a ^^^ c) ^^^ a = c := by rw [UInt8.xor_comm a c, UInt8.xor_assoc, UInt8.xor_self, UInt8.xor_zero]
theorem xor_back2 (a c : UInt8) : (a ^^^ c) ^^^ c = a := by rw [UInt8.xor_assoc, UInt8.xor_self, UInt8.xor_zero]
theorem bit_at (x : Nat) (k : Nat) (hk : k < 8) : Int.tmod (Int.fdiv (x : Int) (2 ^ min k 8)) 2 = ((x / 2 ^ k % 2 : Nat) : Int) := by
  have e : min k 8 = k := by omega
  have e2 : ((2 : Int) ^ k) = ((2 ^ k : Nat) : Int) := by simp
  rw [e, e2, Int.fdiv_eq_ediv_of_nonneg _ (Int.natCast_nonneg _)]
  exact Int.ofNat_tmod (x / 2 ^ k) 2
theorem b_flips (b : List UInt8) (bit : Int) (hl : b.length ≤ 9223372036854775807) (hbit : 0 ≤ bit ∧ bit ≤ 65535) : DoesK Try.prog 0 4 [.ro .byte b, .int .u16 bit] [] (EndF 0 (.bool true) []) := by
  refine DoesK.close ?_
  by_cases c0 : b.length = 0
  · have d : decide ((b.length : Int) = 0) = true := decide_eq_true (by omega)
    refine w_body (rs := [.tmp 4]) (tm := [.ro .byte b, .int .u16 bit, .any, .any, .any, .any, .any, .any, .any, .any, .any, .any, .any, .any, .any, .any, .any, .any, .any, .any, .any, .any, .any, .any, .any, .any, .any, .any, .any, .any, .any, .any, .any, .any, .any, .any, .any, .any, .any, .any, .any, .any, .any, .any, .any, .any, .any, .any, .any, .any, .any, .any, .any, .any, .any, .any, .any, .any, .any, .any, .any, .any, .any, .any, .any, .any, .any, .any, .any, .any, .any, .any, .any, .any, .any, .any, .any, .any, .any, .any, .any, .any, .any, .any, .any, .any, .any, .any, .any, .any, .any, .any, .any, .any, .any, .any, .any, .any, .any, .any, .any, .any, .any, .any, .any, .any, .any, .any, .any, .any, .any, .any, .any, .any, .any, .any, .any, .any, .any, .any, .any, .any, .any, .any, .any, .any, .any, .any, .any, .any, .any, .any, .any, .any, .any, .any, .any, .any, .any, .any, .any, .any, .any, .any, .any, .any]) fn_4 rfl rfl rfl rfl fun R hR => ?_
    (have zx1 := @d; all_goals (try ((first | (with_reducible refine wp_id ?_) | (with_reducible refine does_id ?_) | (with_reducible refine ops_id ?_)); refine walk ?_; (repeat' (first | exact trivial | with_reducible refine And.intro ?_ ?_)); all_goals (repeat (first | (with_reducible refine ImpB.mk fun hb => ?_) | (with_reducible refine ImpK.mk fun hK => ?_) | (with_reducible refine ImpF.mk fun hF => ?_) | (with_reducible refine ImpQ.mk fun hp => ?_) | (with_reducible refine AllE.mk fun p => ?_) | (with_reducible refine AllR.mk fun rest => ?_) | (with_reducible refine AllK.mk fun K => ?_))))); repeat' (with_reducible refine And.intro ?_ ?_))
    (focus (refine ⟨_, _, Gh.refl, [], rfl, ?_⟩; (refine ⟨?_, ?_, ?_⟩ <;> simp only [go_sem, List.range, List.range.loop, List.nodup_cons, List.nodup_nil, List.mem_cons, List.not_mem_nil, or_false, or_self, decide_true, decide_false, Int.reduceToNat, Nat.min_eq_left, Nat.min_eq_right, Int.reducePow, Nat.reducePow, Int.reduceLE, Int.reduceLT, Int.reduceMul, Int.reduceAdd, Int.reduceSub, Int.reduceNeg, Bool.not_true, Bool.not_false, Bool.not_not, ↓reduceIte, Nat.reduceAdd, Nat.reduceSub, Nat.reduceMul, Nat.reduceEqDiff, reduceCtorEq, Nat.reduceLT, Nat.reduceLeDiff, Nat.reduceGT]); (try any_goals (refine ⟨?_, ?_⟩)); (try any_goals (with_reducible rfl))))
  have d0 : decide ((b.length : Int) = 0) = false := decide_eq_false (by omega)
  by_cases c : 100 < b.length
  · have d : decide ((100 : Int) < (b.length : Int)) = true := decide_eq_true (by omega)
    refine w_body (rs := [.tmp 4]) (tm := [.ro .byte b, .int .u16 bit, .any, .any, .any, .any, .any, .any, .any, .any, .any, .any, .any, .any, .any, .any, .any, .any, .any, .any, .any, .any, .any, .any, .any, .any, .any, .any, .any, .any, .any, .any, .any, .any, .any, .any, .any, .any, .any, .any, .any, .any, .any, .any, .any, .any, .any, .any, .any, .any, .any, .any, .any, .any, .any, .any, .any, .any, .any, .any, .any, .any, .any, .any, .any, .any, .any, .any, .any, .any, .any, .any, .any, .any, .any, .any, .any, .any, .any, .any, .any, .any, .any, .any, .any, .any, .any, .any, .any, .any, .any, .any, .any, .any, .any, .any, .any, .any, .any, .any, .any, .any, .any, .any, .any, .any, .any, .any, .any, .any, .any, .any, .any, .any, .any, .any, .any, .any, .any, .any, .any, .any, .any, .any, .any, .any, .any, .any, .any, .any, .any, .any, .any, .any, .any, .any, .any, .any, .any, .any, .any, .any, .any, .any, .any, .any]) fn_4 rfl rfl rfl rfl fun R hR => ?_
    (have zx1 := @d0; have zx2 := @d; all_goals (try ((first | (with_reducible refine wp_id ?_) | (with_reducible refine does_id ?_) | (with_reducible refine ops_id ?_)); refine walk ?_; (repeat' (first | exact trivial | with_reducible refine And.intro ?_ ?_)); all_goals (repeat (first | (with_reducible refine ImpB.mk fun hb => ?_) | (with_reducible refine ImpK.mk fun hK => ?_) | (with_reducible refine ImpF.mk fun hF => ?_) | (with_reducible refine ImpQ.mk fun hp => ?_) | (with_reducible refine AllE.mk fun p => ?_) | (with_reducible refine AllR.mk fun rest => ?_) | (with_reducible refine AllK.mk fun K => ?_))))); repeat' (with_reducible refine And.intro ?_ ?_))
    (focus (refine ⟨_, _, Gh.refl, [], rfl, ?_⟩; (refine ⟨?_, ?_, ?_⟩ <;> simp only [go_sem, List.range, List.range.loop, List.nodup_cons, List.nodup_nil, List.mem_cons, List.not_mem_nil, or_false, or_self, decide_true, decide_false, Int.reduceToNat, Nat.min_eq_left, Nat.min_eq_right, Int.reducePow, Nat.reducePow, Int.reduceLE, Int.reduceLT, Int.reduceMul, Int.reduceAdd, Int.reduceSub, Int.reduceNeg, Bool.not_true, Bool.not_false, Bool.not_not, ↓reduceIte, Nat.reduceAdd, Nat.reduceSub, Nat.reduceMul, Nat.reduceEqDiff, reduceCtorEq, Nat.reduceLT, Nat.reduceLeDiff, Nat.reduceGT]); (try any_goals (refine ⟨?_, ?_⟩)); (try any_goals (with_reducible rfl))))
  have d1 : decide ((100 : Int) < (b.length : Int)) = false := decide_eq_false (by omega)
  have hro : RoLit := .mk
  obtain ⟨t, ht⟩ : ∃ t, bit.toNat % (8 * b.length) = t := ⟨_, rfl⟩
  have htl : t < 8 * b.length := by rw [← ht]; exact Nat.mod_lt _ (by omega)
  obtain ⟨q, hq⟩ : ∃ q, t / 8 = q := ⟨_, rfl⟩
  obtain ⟨r, hr⟩ : ∃ r, t % 8 = r := ⟨_, rfl⟩
  have hql : q < b.length := by omega
  have hrl : r < 8 := by omega
  obtain ⟨v, hv⟩ : ∃ v, (128 >>> UInt8.ofNat r : UInt8) = v := ⟨_, rfl⟩
  have hv1 : pcN v.toNat 8 = 1 := by rw [← hv]; exact pcN_one ⟨r, hrl⟩
  have hv0 : ¬ v = 0 := by rw [← hv]; exact sh_ne ⟨r, hrl⟩
  obtain ⟨m, hm⟩ : ∃ m, flpB b bit = m := ⟨_, rfl⟩
  have hme : m = b.set q (b.getD q 0 ^^^ v) := by rw [← hm]; unfold flpB; rw [ht, hq, hr, hv]
  have hml : m.length = b.length := by rw [hme, List.length_set]
  have hmq : m.getD q 0 = b.getD q 0 ^^^ v := by rw [hme, List.getD_eq_getElem?_getD, List.getElem?_set_self hql]; rfl
  have hmi : ∀ i, i ≠ q → m.getD i 0 = b.getD i 0 := fun i hi => by rw [hme, List.getD_eq_getElem?_getD, List.getElem?_set_ne (fun e => hi e.symm), ← List.getD_eq_getElem?_getD]
  have hback : flpB m (bit + ((8 * b.length : Nat) : Int)) = b := by
    have e : (bit + ((8 * b.length : Nat) : Int)).toNat % (8 * m.length) = t := by
      rw [hml, ← ht, show (bit + ((8 * b.length : Nat) : Int)).toNat = bit.toNat + 8 * b.length by omega, Nat.add_mod_right]
    unfold flpB
    rw [e, hq, hr, hv, hmq, xor_back2, hme, List.set_set]
    refine List.ext_getElem (by rw [List.length_set]) fun i h1 h2 => ?_
    rw [List.getElem_set]
    split
    · rename_i e2; subst e2; rw [getEq hql]
    · rfl
  have z0 : IntKind.i64.wrap bit = bit := wrap_i64 _ (by omega) (by omega)
  have z1 : IntKind.i64.wrap (8 * (b.length : Int)) = ((8 * b.length : Nat) : Int) := by rw [wrap_i64 _ (by omega) (by omega)]; omega
  obtain ⟨B2, hB2⟩ : ∃ B2, bit + ((8 * b.length : Nat) : Int) = B2 := ⟨_, rfl⟩
  have z2 : IntKind.i64.wrap (bit + ((8 * b.length : Nat) : Int)) = B2 := by rw [wrap_i64 _ (by omega) (by omega)]; exact hB2
  rw [hB2] at hback
  have f1 : fitsB ⟨0, [], [], [⟨0, bit⟩]⟩ = true := by
    have : decide (bit < 0) = false := decide_eq_false (by omega)
    simp [fitsB, negFlp, this]
  have f2 : True → fitsB ⟨0, [], [], [⟨0, bit⟩, ⟨0, B2⟩]⟩ = true := fun _ => by
    simp [fitsB, negFlp]
    omega
  have ok1 : okL ⟨⟨0, [], [], [⟨0, bit⟩]⟩, 0, 0, []⟩ := ok_new f1 (by decide) (by decide) (by simp)
  have ok2 : okL ⟨⟨0, [], [], [⟨0, bit⟩, ⟨0, B2⟩]⟩, 0, 0, []⟩ := ok_new (f2 trivial) (by decide) (by decide) (by simp)
  have s1 : sendK ⟨⟨0, [], [], [⟨0, bit⟩]⟩, 0, 0, []⟩ 0 b = ⟨⟨0, [], [], [⟨0, bit⟩]⟩, 0, 1, [(0, ⟨0, m⟩)]⟩ := by rw [← hm]; rfl
  have s2 : sendK ⟨⟨0, [], [], [⟨0, bit⟩, ⟨0, B2⟩]⟩, 0, 0, []⟩ 0 b = ⟨⟨0, [], [], [⟨0, bit⟩, ⟨0, B2⟩]⟩, 0, 1, [(0, ⟨0, flpB (flpB b bit) B2⟩)]⟩ := rfl
  have hb100 : b.length ≤ 1000000 := by omega
  have ok3 := ok1.send 0 hb100
  have ok4 := ok2.send 0 hb100
  rw [hm, hback] at s2
  rw [s1] at ok3
  rw [s2] at ok4
  have o1 : outK ⟨⟨0, [], [], [⟨0, bit⟩]⟩, 0, 1, [(0, ⟨0, m⟩)]⟩ 0 = [m] := rfl
  have o2 : outK ⟨⟨0, [], [], [⟨0, bit⟩, ⟨0, B2⟩]⟩, 0, 1, [(0, ⟨0, b⟩)]⟩ 0 = [b] := rfl
  have e1 : ([m] : List (List UInt8)).getD 0 [] = m := rfl
  have e2 : ([b] : List (List UInt8)).getD 0 [] = b := rfl
  have j1 := And.intro s1 s2
  have j2 := And.intro o1 o2
  have j3 := And.intro e1 e2
  refine w_body (rs := [.tmp 4]) (tm := [.ro .byte b, .int .u16 bit, .any, .any, .any, .any, .any, .any, .any, .any, .any, .any, .any, .any, .any, .any, .any, .any, .any, .any, .any, .any, .any, .any, .any, .any, .any, .any, .any, .any, .any, .any, .any, .any, .any, .any, .any, .any, .any, .any, .any, .any, .any, .any, .any, .any, .any, .any, .any, .any, .any, .any, .any, .any, .any, .any, .any, .any, .any, .any, .any, .any, .any, .any, .any, .any, .any, .any, .any, .any, .any, .any, .any, .any, .any, .any, .any, .any, .any, .any, .any, .any, .any, .any, .any, .any, .any, .any, .any, .any, .any, .any, .any, .any, .any, .any, .any, .any, .any, .any, .any, .any, .any, .any, .any, .any, .any, .any, .any, .any, .any, .any, .any, .any, .any, .any, .any, .any, .any, .any, .any, .any, .any, .any, .any, .any, .any, .any, .any, .any, .any, .any, .any, .any, .any, .any, .any, .any, .any, .any, .any, .any, .any, .any, .any, .any]) fn_4 rfl rfl rfl rfl fun R hR => ?_
  (have zx1 := @d0; have zx2 := @d1; have zx3 := @z0; have zx4 := @z1; have zx5 := @z2; have zx6 := @j1; have zx7 := @j2; have zx8 := @j3; have zx9 := @hml; all_goals (try ((first | (with_reducible refine wp_id ?_) | (with_reducible refine does_id ?_) | (with_reducible refine ops_id ?_)); refine walk ?_; (repeat' (first | exact trivial | with_reducible refine And.intro ?_ ?_)); all_goals (repeat (first | (with_reducible refine ImpB.mk fun hb => ?_) | (with_reducible refine ImpK.mk fun hK => ?_) | (with_reducible refine ImpF.mk fun hF => ?_) | (with_reducible refine ImpQ.mk fun hp => ?_) | (with_reducible refine AllE.mk fun p => ?_) | (with_reducible refine AllR.mk fun rest => ?_) | (with_reducible refine AllK.mk fun K => ?_))))); repeat' (with_reducible refine And.intro ?_ ?_))
  clear f1
  have f3 := f2 trivial
  (have zx1 := @d0; have zx2 := @d1; have zx3 := @z0; have zx4 := @z1; have zx5 := @z2; have zx6 := @j1; have zx7 := @j2; have zx8 := @j3; have zx9 := @hml; all_goals (try ((first | (with_reducible refine wp_id ?_) | (with_reducible refine does_id ?_) | (with_reducible refine ops_id ?_)); refine walk ?_; (repeat' (first | exact trivial | with_reducible refine And.intro ?_ ?_)); all_goals (repeat (first | (with_reducible refine ImpB.mk fun hb => ?_) | (with_reducible refine ImpK.mk fun hK => ?_) | (with_reducible refine ImpF.mk fun hF => ?_) | (with_reducible refine ImpQ.mk fun hp => ?_) | (with_reducible refine AllE.mk fun p => ?_) | (with_reducible refine AllR.mk fun rest => ?_) | (with_reducible refine AllK.mk fun K => ?_))))); repeat' (with_reducible refine And.intro ?_ ?_))
  all_goals first | exact ok1 | exact ok2 | exact ok3 | exact ok4 | exact Int.natCast_nonneg _ | omega | (show (0 : Int) ≤ 1000000; decide) | (show (1 : Int) ≤ 1000000; decide) | skip
  obtain ⟨cn, hcn⟩ : ∃ cn : Nat → Nat, cn = fun i => if q < i then 1 else 0 := ⟨_, rfl⟩
  have hcn1 : ∀ i, cn i ≤ 1 := fun i => by rw [hcn]; dsimp only; split <;> omega
  have hcn0 : cn 0 = 0 := by rw [hcn]; exact if_neg (by omega)
  have hcnn : ∀ i, cn (i + 1) = if i = q then 1 else cn i := fun i => by
    rw [hcn]
    dsimp only
    by_cases e : i = q
    · rw [if_pos e, if_pos (by omega)]
    · rw [if_neg e]
      by_cases e2 : q < i
      · rw [if_pos e2, if_pos (by omega)]
      · rw [if_neg e2, if_neg (by omega)]
  have hcnq : cn q = 0 := by rw [hcn]; exact if_neg (by omega)
  have hcnl : cn b.length = 1 := by rw [hcn]; exact if_pos hql
  any_goals ((try (refine w_seq fun K hK => ?_)); (try (refine w_block ?_)); refine w_loop (A := Nat) (fun i => i ≤ b.length) (fun i => b.length - i) (fun i => [(9, .ro .bytes [m]), (11, .int .i64 (cn i)), (12, .int .i64 i)]) (fun _ => []) (0) (ws := ?ws1) (tk := ?tk1) ?hw1 ?ht1 ?hi ?h0 ?LH1; (case hw1 => simp only [go_sem, decide_true, decide_false, Int.reduceToNat, Nat.min_eq_left, Nat.min_eq_right, Int.reducePow, Nat.reducePow, Int.reduceLE, Int.reduceLT, Int.reduceMul, Int.reduceAdd, Int.reduceSub, Int.reduceNeg, Bool.not_true, Bool.not_false, Bool.not_not, ↓reduceIte, Nat.reduceAdd, Nat.reduceSub, Nat.reduceMul, Nat.reduceEqDiff, reduceCtorEq, Nat.reduceLT, Nat.reduceLeDiff, Nat.reduceGT]; exact rfl); (case ht1 => simp only [go_sem, decide_true, decide_false, Int.reduceToNat, Nat.min_eq_left, Nat.min_eq_right, Int.reducePow, Nat.reducePow, Int.reduceLE, Int.reduceLT, Int.reduceMul, Int.reduceAdd, Int.reduceSub, Int.reduceNeg, Bool.not_true, Bool.not_false, Bool.not_not, ↓reduceIte, Nat.reduceAdd, Nat.reduceSub, Nat.reduceMul, Nat.reduceEqDiff, reduceCtorEq, Nat.reduceLT, Nat.reduceLeDiff, Nat.reduceGT]; exact rfl); (case' LH1 => rintro i E t hx hE ht; simp only [go_sem] at ht; subst ht; simp only [go_sem]; try dsimp only at hx))
  case hi => exact Nat.zero_le _
  case h0 => (focus (refine ⟨_, _, Gh.refl, [0, 1], rfl, ?_⟩; (refine ⟨?_, ?_, ?_⟩ <;> simp only [go_sem, List.range, List.range.loop, List.nodup_cons, List.nodup_nil, List.mem_cons, List.not_mem_nil, or_false, or_self, decide_true, decide_false, Int.reduceToNat, Nat.min_eq_left, Nat.min_eq_right, Int.reducePow, Nat.reducePow, Int.reduceLE, Int.reduceLT, Int.reduceMul, Int.reduceAdd, Int.reduceSub, Int.reduceNeg, Bool.not_true, Bool.not_false, Bool.not_not, ↓reduceIte, Nat.reduceAdd, Nat.reduceSub, Nat.reduceMul, Nat.reduceEqDiff, reduceCtorEq, Nat.reduceLT, Nat.reduceLeDiff, Nat.reduceGT]); (try any_goals (refine ⟨?_, ?_⟩)); (try any_goals (with_reducible rfl)))); (all_goals first | (rw [hcn0]; done) | (rw [hcn0]; rfl) | exact rfl | trace_state)
  case LH1 =>
    have hi0 : i ≤ b.length := hx
    have hci := hcn1 i
    have hw : IntKind.i64.wrap ((i : Int) + 1) = ((i + 1 : Nat) : Int) := by rw [wrap_i64 _ (by omega) (by omega)]; omega
    by_cases hi : i < b.length
    · have hid : decide ((i : Int) < (b.length : Int)) = true := decide_eq_true (by omega)
      obtain ⟨x, hx8⟩ : ∃ x, m.getD i 0 ^^^ b.getD i 0 = x := ⟨_, rfl⟩
      have hxo := xor8' (m.getD i 0) (b.getD i 0)
      rw [hx8] at hxo
      have hfin : cn i + pcN x.toNat 8 = cn (i + 1) := by
        rw [hcnn i]
        by_cases e : i = q
        · rw [if_pos e, e, hcnq, ← hx8, e, hmq, xor_back, hv1]
        · rw [if_neg e, ← hx8, hmi i e, UInt8.xor_self, pcN_zero, Nat.add_zero]
      (have zx1 := @hid; have zx2 := @e1; have zx3 := @hml; have zx4 := @hxo; all_goals (try ((first | (with_reducible refine wp_id ?_) | (with_reducible refine does_id ?_) | (with_reducible refine ops_id ?_)); refine walk ?_; (repeat' (first | exact trivial | with_reducible refine And.intro ?_ ?_)); all_goals (repeat (first | (with_reducible refine ImpB.mk fun hb => ?_) | (with_reducible refine ImpK.mk fun hK => ?_) | (with_reducible refine ImpF.mk fun hF => ?_) | (with_reducible refine ImpQ.mk fun hp => ?_) | (with_reducible refine AllE.mk fun p => ?_) | (with_reducible refine AllR.mk fun rest => ?_) | (with_reducible refine AllK.mk fun K => ?_))))); repeat' (with_reducible refine And.intro ?_ ?_))
      all_goals first | exact Int.natCast_nonneg _ | omega | skip
      any_goals ((try (refine w_seq fun K hK => ?_)); (try (refine w_block ?_)); refine w_loop (A := Nat) (fun k => k ≤ 8) (fun k => 8 - k) (fun k => [(9, .ro .bytes [m]), (11, .int .i64 (cn i + pcN x.toNat k : Nat)), (12, .int .i64 i), (13, .int .u8 x.toNat), (14, .int .i64 k)]) (fun _ => []) (0) (ws := ?ws2) (tk := ?tk2) ?hw2 ?ht2 ?hi_1 ?h0_1 ?LH2; (case hw2 => simp only [go_sem, decide_true, decide_false, Int.reduceToNat, Nat.min_eq_left, Nat.min_eq_right, Int.reducePow, Nat.reducePow, Int.reduceLE, Int.reduceLT, Int.reduceMul, Int.reduceAdd, Int.reduceSub, Int.reduceNeg, Bool.not_true, Bool.not_false, Bool.not_not, ↓reduceIte, Nat.reduceAdd, Nat.reduceSub, Nat.reduceMul, Nat.reduceEqDiff, reduceCtorEq, Nat.reduceLT, Nat.reduceLeDiff, Nat.reduceGT]; exact rfl); (case ht2 => simp only [go_sem, decide_true, decide_false, Int.reduceToNat, Nat.min_eq_left, Nat.min_eq_right, Int.reducePow, Nat.reducePow, Int.reduceLE, Int.reduceLT, Int.reduceMul, Int.reduceAdd, Int.reduceSub, Int.reduceNeg, Bool.not_true, Bool.not_false, Bool.not_not, ↓reduceIte, Nat.reduceAdd, Nat.reduceSub, Nat.reduceMul, Nat.reduceEqDiff, reduceCtorEq, Nat.reduceLT, Nat.reduceLeDiff, Nat.reduceGT]; exact rfl); (case' LH2 => rintro k E t hx hE ht; simp only [go_sem] at ht; subst ht; simp only [go_sem]; try dsimp only at hx))
      case hi_1 => exact Nat.zero_le _
      case h0_1 => (focus (refine ⟨_, _, Gh.refl, [0, 1], rfl, ?_⟩; (refine ⟨?_, ?_, ?_⟩ <;> simp only [go_sem, List.range, List.range.loop, List.nodup_cons, List.nodup_nil, List.mem_cons, List.not_mem_nil, or_false, or_self, decide_true, decide_false, Int.reduceToNat, Nat.min_eq_left, Nat.min_eq_right, Int.reducePow, Nat.reducePow, Int.reduceLE, Int.reduceLT, Int.reduceMul, Int.reduceAdd, Int.reduceSub, Int.reduceNeg, Bool.not_true, Bool.not_false, Bool.not_not, ↓reduceIte, Nat.reduceAdd, Nat.reduceSub, Nat.reduceMul, Nat.reduceEqDiff, reduceCtorEq, Nat.reduceLT, Nat.reduceLeDiff, Nat.reduceGT]); (try any_goals (refine ⟨?_, ?_⟩)); (try any_goals (with_reducible rfl)))); (all_goals first | rfl | trace_state)
      case LH2 =>
        have hk0 : k ≤ 8 := hx
        have hpc := pcN_le (x := x.toNat) (k := k)
        have hw2 : IntKind.i64.wrap ((k : Int) + 1) = ((k + 1 : Nat) : Int) := by rw [wrap_i64 _ (by omega) (by omega)]; omega
        by_cases hk : k < 8
        · have hkd : decide ((k : Int) < 8) = true := decide_eq_true (by omega)
          have hb8 := bit_at x.toNat k hk
          obtain ⟨y, hy⟩ : ∃ y, x.toNat / 2 ^ k % 2 = y := ⟨_, rfl⟩
          have hy2 : y < 2 := by rw [← hy]; exact Nat.mod_lt _ (by decide)
          have hpn : pcN x.toNat (k + 1) = pcN x.toNat k + y := by rw [pcN, hy]
          rw [hy] at hb8
          have hw3 : IntKind.i64.wrap (y : Int) = (y : Int) := wrap_i64 _ (by omega) (by omega)
          have hw4 : IntKind.i64.wrap (((cn i + pcN x.toNat k : Nat) : Int) + (y : Int)) = ((cn i + pcN x.toNat (k + 1) : Nat) : Int) := by rw [hpn, wrap_i64 _ (by omega) (by omega)]; omega
          (have zx1 := @hkd; have zx2 := @hw2; have zx3 := @hb8; have zx4 := @hw3; have zx5 := @hw4; all_goals (try ((first | (with_reducible refine wp_id ?_) | (with_reducible refine does_id ?_) | (with_reducible refine ops_id ?_)); refine walk ?_; (repeat' (first | exact trivial | with_reducible refine And.intro ?_ ?_)); all_goals (repeat (first | (with_reducible refine ImpB.mk fun hb => ?_) | (with_reducible refine ImpK.mk fun hK => ?_) | (with_reducible refine ImpF.mk fun hF => ?_) | (with_reducible refine ImpQ.mk fun hp => ?_) | (with_reducible refine AllE.mk fun p => ?_) | (with_reducible refine AllR.mk fun rest => ?_) | (with_reducible refine AllK.mk fun K => ?_))))); repeat' (with_reducible refine And.intro ?_ ?_))
          all_goals first | exact Int.natCast_nonneg _ | omega | exact absurd hb (by decide) | skip
          refine ⟨k + 1, ⟨by first | omega | (dsimp only; omega), by first | omega | (dsimp only; omega)⟩, ?_⟩
          (focus (refine ⟨_, _, Gh.refl, [0, 1], rfl, ?_⟩; (refine ⟨?_, ?_, ?_⟩ <;> simp only [go_sem, List.range, List.range.loop, List.nodup_cons, List.nodup_nil, List.mem_cons, List.not_mem_nil, or_false, or_self, decide_true, decide_false, Int.reduceToNat, Nat.min_eq_left, Nat.min_eq_right, Int.reducePow, Nat.reducePow, Int.reduceLE, Int.reduceLT, Int.reduceMul, Int.reduceAdd, Int.reduceSub, Int.reduceNeg, Bool.not_true, Bool.not_false, Bool.not_not, ↓reduceIte, Nat.reduceAdd, Nat.reduceSub, Nat.reduceMul, Nat.reduceEqDiff, reduceCtorEq, Nat.reduceLT, Nat.reduceLeDiff, Nat.reduceGT]); (try any_goals (refine ⟨?_, ?_⟩)); (try any_goals (with_reducible rfl))))
          all_goals first | rfl | trace_state
        · have hkd : decide ((k : Int) < 8) = false := decide_eq_false (by omega)
          obtain rfl : k = 8 := by omega
          (have zx1 := @hkd; have zx2 := @hw; all_goals (try ((first | (with_reducible refine wp_id ?_) | (with_reducible refine does_id ?_) | (with_reducible refine ops_id ?_)); refine walk ?_; (repeat' (first | exact trivial | with_reducible refine And.intro ?_ ?_)); all_goals (repeat (first | (with_reducible refine ImpB.mk fun hb => ?_) | (with_reducible refine ImpK.mk fun hK => ?_) | (with_reducible refine ImpF.mk fun hF => ?_) | (with_reducible refine ImpQ.mk fun hp => ?_) | (with_reducible refine AllE.mk fun p => ?_) | (with_reducible refine AllR.mk fun rest => ?_) | (with_reducible refine AllK.mk fun K => ?_))))); repeat' (with_reducible refine And.intro ?_ ?_))
          refine ⟨i + 1, ⟨by first | omega | (dsimp only; omega), by first | omega | (dsimp only; omega)⟩, ?_⟩
          dsimp only
          rw [← hfin]
          (focus (refine ⟨_, _, Gh.refl, [0, 1], rfl, ?_⟩; (refine ⟨?_, ?_, ?_⟩ <;> simp only [go_sem, List.range, List.range.loop, List.nodup_cons, List.nodup_nil, List.mem_cons, List.not_mem_nil, or_false, or_self, decide_true, decide_false, Int.reduceToNat, Nat.min_eq_left, Nat.min_eq_right, Int.reducePow, Nat.reducePow, Int.reduceLE, Int.reduceLT, Int.reduceMul, Int.reduceAdd, Int.reduceSub, Int.reduceNeg, Bool.not_true, Bool.not_false, Bool.not_not, ↓reduceIte, Nat.reduceAdd, Nat.reduceSub, Nat.reduceMul, Nat.reduceEqDiff, reduceCtorEq, Nat.reduceLT, Nat.reduceLeDiff, Nat.reduceGT]); (try any_goals (refine ⟨?_, ?_⟩)); (try any_goals (with_reducible rfl))))
          all_goals first | rfl | trace_state
    · have hid : decide ((i : Int) < (b.length : Int)) = false := decide_eq_false (by omega)
      obtain rfl : i = b.length := by omega
      have z3 : Int.tmod bit ((8 * b.length : Nat) : Int) = (t : Int) := by
        have e : bit = (bit.toNat : Int) := by omega
        rw [e, ← ht]; exact Int.ofNat_tmod _ _
      have z4 : IntKind.i64.wrap (Int.tdiv (t : Int) 8) = (q : Int) := by
        have e : Int.tdiv (t : Int) 8 = (q : Int) := by rw [← hq]; exact Int.ofNat_tdiv t 8
        rw [e]; exact wrap_i64 _ (by omega) (by omega)
      have hne : decide (¬ ((m.getD q 0).toNat : Int) = ((b.getD q 0).toNat : Int)) = true := decide_eq_true fun e => by
        have e2 : m.getD q 0 = b.getD q 0 := UInt8.toNat_inj.1 (by omega)
        rw [hmq] at e2
        have e3 := xor_back (b.getD q 0) v
        rw [e2, UInt8.xor_self] at e3
        exact hv0 e3.symm
      have h1 : decide (((1 : Nat) : Int) = 1) = true := rfl
      (have zx1 := @hid; have zx2 := @z0; have zx3 := @z1; have zx4 := @z3; have zx5 := @z4; have zx6 := @hcnl; have zx7 := @h1; have zx8 := @e1; have zx9 := @hml; have zx10 := @hne; all_goals (try ((first | (with_reducible refine wp_id ?_) | (with_reducible refine does_id ?_) | (with_reducible refine ops_id ?_)); refine walk ?_; (repeat' (first | exact trivial | with_reducible refine And.intro ?_ ?_)); all_goals (repeat (first | (with_reducible refine ImpB.mk fun hb => ?_) | (with_reducible refine ImpK.mk fun hK => ?_) | (with_reducible refine ImpF.mk fun hF => ?_) | (with_reducible refine ImpQ.mk fun hp => ?_) | (with_reducible refine AllE.mk fun p => ?_) | (with_reducible refine AllR.mk fun rest => ?_) | (with_reducible refine AllK.mk fun K => ?_))))); repeat' (with_reducible refine And.intro ?_ ?_))
      all_goals first | exact Int.natCast_nonneg _ | omega | exact absurd hb (by omega) | exact absurd hb (by decide) | skip
      (focus (refine ⟨_, _, Gh.refl, [], rfl, ?_⟩; (refine ⟨?_, ?_, ?_⟩ <;> simp only [go_sem, List.range, List.range.loop, List.nodup_cons, List.nodup_nil, List.mem_cons, List.not_mem_nil, or_false, or_self, decide_true, decide_false, Int.reduceToNat, Nat.min_eq_left, Nat.min_eq_right, Int.reducePow, Nat.reducePow, Int.reduceLE, Int.reduceLT, Int.reduceMul, Int.reduceAdd, Int.reduceSub, Int.reduceNeg, Bool.not_true, Bool.not_false, Bool.not_not, ↓reduceIte, Nat.reduceAdd, Nat.reduceSub, Nat.reduceMul, Nat.reduceEqDiff, reduceCtorEq, Nat.reduceLT, Nat.reduceLeDiff, Nat.reduceGT]); (try any_goals (refine ⟨?_, ?_⟩)); (try any_goals (with_reducible rfl))))
end Go.V

set_option maxRecDepth 100000
set_option maxHeartbeats 8000000
namespace Go.V
open Go.Proofs
section
variable (c : Cfg) (D : Nat) (l : List (List UInt8))
def ltK (t : Nat) : List UInt8 := l.getD t []
def selK (k : Nat) : List Nat := (List.range (min k l.length)).filter fun t => !lostB c t t
def entK (t : Nat) : Int × Arr := ((t : Int), ⟨(t : Int) + (D : Int), ltK l t⟩)
def WF (k : Nat) : List (List UInt8) := (selK c l k).map (ltK l)
def PF (k : Nat) : List (Int × Arr) := ((selK c l k).filter fun t => decide (k ≤ t + D)).map (entK D l)
def GF (k : Nat) : List (List UInt8) := ((selK c l k).filter fun t => decide (t + D < k)).map (ltK l)
def MF (k : Nat) : List (Int × Arr) := ((selK c l (k + 1)).filter fun t => decide (k ≤ t + D)).map (entK D l)
def OF (k : Nat) : List (List UInt8) := ((selK c l (k + 1)).filter fun t => decide (t + D = k)).map (ltK l)
end
variable {c : Cfg} {D : Nat} {l : List (List UInt8)} {k : Nat}
theorem sel_next (hk : k < l.length) : selK c l (k + 1) = if lostB c k k then selK c l k else selK c l k ++ [k] := by
  unfold selK
  rw [show min (k + 1) l.length = k + 1 by omega, show min k l.length = k by omega, List.range_succ, List.filter_append]
  cases h : lostB c k k
  · rw [if_neg (by decide), List.filter_cons, if_pos (by rw [h]; rfl)]; rfl
  · rw [if_pos rfl, List.filter_cons, if_neg (by rw [h]; decide)]; exact List.append_nil _
theorem sel_stop (hk : ¬ k < l.length) : selK c l (k + 1) = selK c l k := by
  unfold selK
  rw [show min (k + 1) l.length = l.length by omega, show min k l.length = l.length by omega]
theorem sel_lt {t : Nat} (h : t ∈ selK c l k) : t < k ∧ t < l.length := by
  have := List.mem_range.1 (List.mem_filter.1 h).1
  omega
theorem sel_asc : (selK c l k).Pairwise fun a b => a < b := List.Pairwise.filter _ List.pairwise_lt_range
theorem MF_next (hk : k < l.length) : MF c D l k = if lostB c k k then PF c D l k else PF c D l k ++ [entK D l k] := by
  unfold MF PF
  rw [sel_next hk]
  split
  · rfl
  · rw [List.filter_append, List.map_append, List.filter_cons, if_pos (decide_eq_true (show k ≤ k + D by omega))]; rfl
theorem MF_stop (hk : ¬ k < l.length) : MF c D l k = PF c D l k := by
  unfold MF PF
  rw [sel_stop hk]
theorem WF_next (hk : k < l.length) : WF c l (k + 1) = if lostB c k k then WF c l k else WF c l k ++ [ltK l k] := by
  unfold WF
  rw [sel_next hk]
  split
  · rfl
  · rw [List.map_append]; rfl
theorem WF_stop (hk : ¬ k < l.length) : WF c l (k + 1) = WF c l k := by
  unfold WF
  rw [sel_stop hk]
theorem due_ent {t : Nat} : due (k : Int) (entK D l t) = decide (t + D ≤ k) := by
  unfold due entK
  exact decide_eq_decide.2 (by dsimp only; omega)
theorem MF_left : (MF c D l k).filter (fun p => !due (k : Int) p) = PF c D l (k + 1) := by
  unfold MF PF
  rw [List.filter_map, List.filter_filter]
  congr 1
  refine List.filter_congr fun t _ => ?_
  show (!due (k : Int) (entK D l t) && decide (k ≤ t + D)) = decide (k + 1 ≤ t + D)
  rw [due_ent, Bool.eq_iff_iff]
  simp only [Bool.and_eq_true, Bool.not_eq_true', decide_eq_false_iff_not, decide_eq_true_eq]
  omega
theorem MF_out : ((MF c D l k).filter (fun p => due (k : Int) p)).map (fun p => p.2.data) = OF c D l k := by
  unfold MF OF
  rw [List.filter_map, List.filter_filter, List.map_map]
  have e : (selK c l (k + 1)).filter (fun a => ((fun p => due (k : Int) p) ∘ entK D l) a && decide (k ≤ a + D)) = (selK c l (k + 1)).filter fun t => decide (t + D = k) := by
    refine List.filter_congr fun t _ => ?_
    show (due (k : Int) (entK D l t) && decide (k ≤ t + D)) = decide (t + D = k)
    rw [due_ent, Bool.eq_iff_iff]
    simp only [Bool.and_eq_true, decide_eq_true_eq]
    omega
  rw [e]
  rfl
theorem fil_two {S : List Nat} (h : S.Pairwise fun a b => a < b) : (S.filter fun t => decide (t + D < k + 1)) = (S.filter fun t => decide (t + D < k)) ++ S.filter fun t => decide (t + D = k) := by
  induction S with
  | nil => rfl
  | cons a S ih =>
    have h' := List.pairwise_cons.1 h
    have ih := ih h'.2
    by_cases c1 : a + D < k
    · rw [List.filter_cons, if_pos (decide_eq_true (by omega)), List.filter_cons, if_pos (decide_eq_true c1), List.filter_cons, if_neg (by simp; omega), ih]; rfl
    · have e0 : (S.filter fun t => decide (t + D < k)) = [] := List.filter_eq_nil_iff.2 fun t ht => by
        have := h'.1 t ht
        simp only [decide_eq_true_eq]
        omega
      rw [e0] at ih
      rw [List.filter_cons (x := a) (p := fun t => decide (t + D < k)), if_neg (by simp; omega), e0, List.nil_append]
      by_cases c2 : a + D = k
      · rw [List.filter_cons, if_pos (decide_eq_true (by omega)), List.filter_cons, if_pos (decide_eq_true c2), ih]; rfl
      · rw [List.filter_cons, if_neg (by simp; omega), List.filter_cons, if_neg (by simp; omega), ih]; rfl
theorem GF_next : GF c D l (k + 1) = GF c D l k ++ OF c D l k := by
  have e : GF c D l k = ((selK c l (k + 1)).filter fun t => decide (t + D < k)).map (ltK l) := by
    unfold GF
    by_cases hk : k < l.length
    · rw [sel_next hk]
      split
      · rfl
      · rw [List.filter_append, List.filter_cons, if_neg (by simp), List.filter_nil, List.append_nil]
    · rw [sel_stop hk]
  rw [e]
  unfold GF OF
  rw [fil_two sel_asc, List.map_append]
theorem OF_one : OF c D l k = [] ∨ (D ≤ k ∧ k - D < l.length ∧ OF c D l k = [ltK l (k - D)]) := by
  have key : ∀ S : List Nat, (S.Pairwise fun a b => a < b) → (∀ t ∈ S, t < l.length) → (S.filter fun t => decide (t + D = k)) = [] ∨ (D ≤ k ∧ k - D < l.length ∧ (S.filter fun t => decide (t + D = k)) = [k - D]) := by
    intro S
    induction S with
    | nil => exact fun _ _ => .inl rfl
    | cons a S ih =>
      intro h hm
      have h' := List.pairwise_cons.1 h
      by_cases c1 : a + D = k
      · have e0 : (S.filter fun t => decide (t + D = k)) = [] := List.filter_eq_nil_iff.2 fun t ht => by
          have := h'.1 t ht
          simp only [decide_eq_true_eq]
          omega
        have := hm a List.mem_cons_self
        refine .inr ⟨by omega, by omega, ?_⟩
        rw [List.filter_cons, if_pos (decide_eq_true c1), e0, show k - D = a by omega]
      · rw [List.filter_cons, if_neg (by simp; omega)]
        exact ih h'.2 fun t ht => hm t (List.mem_cons_of_mem _ ht)
  unfold OF
  rcases key _ sel_asc fun t ht => (sel_lt ht).2 with e | ⟨h1, h2, e⟩
  · exact .inl (by rw [e]; rfl)
  · exact .inr ⟨h1, h2, by rw [e]; rfl⟩
theorem GF_all : GF c D l (l.length + D + 1) = WF c l (l.length + D + 1) := by
  unfold GF WF
  rw [List.filter_eq_self.2 fun t ht => by have := (sel_lt ht).2; exact decide_eq_true (by omega)]
theorem PF_none : PF c D l (l.length + D + 1) = [] := by
  unfold PF
  rw [List.filter_eq_nil_iff.2 fun t ht => by have := (sel_lt ht).2; simp only [decide_eq_true_eq]; omega]
  rfl
theorem sel_len : (selK c l k).length ≤ l.length := by
  have h1 := List.length_filter_le (fun t : Nat => !lostB c t t) (List.range (min k l.length))
  rw [List.length_range] at h1
  unfold selK
  omega
theorem WF_len : (WF c l k).length ≤ l.length := by unfold WF; rw [List.length_map]; exact sel_len
theorem GF_len : (GF c D l k).length ≤ l.length := by
  unfold GF
  rw [List.length_map]
  exact Nat.le_trans (List.length_filter_le _ _) sel_len
theorem F_0 : WF c l 0 = [] ∧ PF c D l 0 = [] ∧ GF c D l 0 = [] := by
  have : selK c l 0 = [] := by unfold selK; rw [Nat.zero_min]; rfl
  unfold WF PF GF
  rw [this]
  exact ⟨rfl, rfl, rfl⟩
/-- the time of the link at the head of round k -/
def nwK (k : Nat) : Int := ((k - 1 : Nat) : Int)
theorem nw_at (h : k ≤ 1000) : atL (nwK k) k = k := by
  unfold atL nwK
  split <;> omega
theorem send_at (hk : k < l.length) (h : k ≤ 1000) (hD : c.dl = (D : Int)) (hf : c.flips = []) : sendK ⟨c, nwK k, (k : Int), PF c D l k⟩ (k : Int) (ltK l k) = ⟨c, (k : Int), (k : Int) + 1, MF c D l k⟩ := by
  unfold sendK
  dsimp only
  rw [nw_at h, MF_next hk, hf, hD]
  rfl
theorem recv_at {N : Int} {s : Int} (hN : atL N k = k) : recvK ⟨c, N, s, MF c D l k⟩ (k : Int) = ⟨c, (k : Int), s, PF c D l (k + 1)⟩ := by
  unfold recvK
  dsimp only
  rw [hN, MF_left]
theorem out_at {N : Int} {s : Int} (hN : atL N k = k) : outK ⟨c, N, s, MF c D l k⟩ (k : Int) = OF c D l k := by
  unfold outK
  dsimp only
  rw [hN, MF_out]
theorem atL_self : atL (k : Int) k = k := if_neg (fun q => by omega)
theorem nw_next : nwK (k + 1) = (k : Int) := rfl
theorem nw_0 : nwK 0 = 0 := rfl
attribute [irreducible] nwK PF MF WF GF OF selK
end Go.V
