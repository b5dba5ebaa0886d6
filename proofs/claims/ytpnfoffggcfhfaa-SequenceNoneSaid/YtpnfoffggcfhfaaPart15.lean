/-
  The engine: Stop, Start.
  Copies of commands and of steps.
  slices.Insert of one element, at elements of several cells.
-/
import Derived.Test.YtpnfoffggcfhfaaPart14
import Derived.Shelf.Spec.SlicesInsertGrow
import Derived.Laws.CopyRow
set_option linter.unusedVariables false
set_option linter.unusedSimpArgs false
set_option maxRecDepth 100000
set_option maxHeartbeats 8000000
namespace Go.V
open Go.Proofs
abbrev atP (L : List Prg) (id : Int) : Prg := L.getD (fnI L id) Prg.zero
/-- Stop: the answer, and what is left -/
def spQ (L : List Prg) (id : Int) : Int × List Prg :=
  if fnB L id then (if (atP L id).run then (0, L.set (fnI L id) { atP L id with run := false }) else (12, L)) else (8, L)
theorem fn_lt {L : List Prg} {id : Int} (h : fnB L id = true) : fnI L id < L.length := by
  unfold fnB at h
  rw [Bool.and_eq_true] at h
  exact of_decide_eq_true h.1
theorem b_eStop (now : Int) (L : List Prg) (id : Int) (hL : L.length ≤ 1000000) : DoesK Try.prog 1 17 [.ptr 0 0, .int .i64 id] [.pack (EN now L)] (EndF 1 (.int .i64 (spQ L id).1) ([.pack (EN now (spQ L id).2)] ++ [])) := by
  refine DoesK.close ?_
  unfold spQ
  cases hb1 : fnB L id
  · rw [if_neg (by decide)]
    refine w_body (rs := [.tmp 4]) (tm := [.ptr 0 0, .int .i64 id, .any, .any, .any, .any, .any, .any, .any, .any, .any, .any, .any, .any, .any, .any, .any, .any, .any, .any, .any, .any, .any, .any, .any, .any, .any, .any, .any, .any, .any, .any, .any, .any]) fn_17 rfl rfl rfl rfl fun R hR => ?_
    (have zx1 := @hb1; all_goals (try ((first | (with_reducible refine wp_id ?_) | (with_reducible refine does_id ?_) | (with_reducible refine ops_id ?_)); refine walk ?_; (repeat' (first | exact trivial | with_reducible refine And.intro ?_ ?_)); all_goals (repeat (first | (with_reducible refine ImpB.mk fun hb => ?_) | (with_reducible refine ImpK.mk fun hK => ?_) | (with_reducible refine ImpF.mk fun hF => ?_) | (with_reducible refine ImpQ.mk fun hp => ?_) | (with_reducible refine AllE.mk fun p => ?_) | (with_reducible refine AllR.mk fun rest => ?_) | (with_reducible refine AllK.mk fun K => ?_))))); repeat' (with_reducible refine And.intro ?_ ?_))
    all_goals first | omega | skip
    (focus (refine ⟨_, _, Gh.refl, [0], rfl, ?_⟩; (refine fitq ?_ ?_ ?_ <;> try exact trivial); (try any_goals (refine ⟨?_, ?_⟩)); (try any_goals (with_reducible rfl))))
    all_goals (repeat' (first | (refine And.intro ?_ ?_) | rfl | trace_state))
  · rw [if_pos rfl]
    have hlt := fn_lt hb1
    unfold atP
    obtain ⟨i, hi⟩ : ∃ i, fnI L id = i := ⟨_, rfl⟩
    rw [hi] at hlt ⊢
    obtain ⟨x, hxe⟩ : ∃ x, L.getD i Prg.zero = x := ⟨_, rfl⟩
    rw [hxe]
    cases hr : x.run
    · rw [if_neg (by decide)]
      refine w_body (rs := [.tmp 4]) (tm := [.ptr 0 0, .int .i64 id, .any, .any, .any, .any, .any, .any, .any, .any, .any, .any, .any, .any, .any, .any, .any, .any, .any, .any, .any, .any, .any, .any, .any, .any, .any, .any, .any, .any, .any, .any, .any, .any]) fn_17 rfl rfl rfl rfl fun R hR => ?_
      (have zx1 := @hb1; have zx2 := @hi; have zx3 := @hxe; have zx4 := @hr; all_goals (try ((first | (with_reducible refine wp_id ?_) | (with_reducible refine does_id ?_) | (with_reducible refine ops_id ?_)); refine walk ?_; (repeat' (first | exact trivial | with_reducible refine And.intro ?_ ?_)); all_goals (repeat (first | (with_reducible refine ImpB.mk fun hb => ?_) | (with_reducible refine ImpK.mk fun hK => ?_) | (with_reducible refine ImpF.mk fun hF => ?_) | (with_reducible refine ImpQ.mk fun hp => ?_) | (with_reducible refine AllE.mk fun p => ?_) | (with_reducible refine AllR.mk fun rest => ?_) | (with_reducible refine AllK.mk fun K => ?_))))); repeat' (with_reducible refine And.intro ?_ ?_))
      all_goals first | exact Int.natCast_nonneg _ | omega | skip
      (focus (refine ⟨_, _, gh_close (t := 0) (ts := [1]) (l := EN now L) ⟨⟨_, _, rfl⟩, ?_, by simp⟩, [0], rfl, ?_⟩; all_goals (refine fitq ?_ ?_ ?_ <;> try exact trivial); (try any_goals (refine ⟨?_, ?_⟩)); (try any_goals (with_reducible rfl))))
      all_goals (repeat' (first | (refine And.intro ?_ ?_) | rfl | trace_state))
    · rw [if_pos rfl]
      refine w_body (rs := [.tmp 4]) (tm := [.ptr 0 0, .int .i64 id, .any, .any, .any, .any, .any, .any, .any, .any, .any, .any, .any, .any, .any, .any, .any, .any, .any, .any, .any, .any, .any, .any, .any, .any, .any, .any, .any, .any, .any, .any, .any, .any]) fn_17 rfl rfl rfl rfl fun R hR => ?_
      (have zx1 := @hb1; have zx2 := @hi; have zx3 := @hxe; have zx4 := @hr; all_goals (try ((first | (with_reducible refine wp_id ?_) | (with_reducible refine does_id ?_) | (with_reducible refine ops_id ?_)); refine walk ?_; (repeat' (first | exact trivial | with_reducible refine And.intro ?_ ?_)); all_goals (repeat (first | (with_reducible refine ImpB.mk fun hb => ?_) | (with_reducible refine ImpK.mk fun hK => ?_) | (with_reducible refine ImpF.mk fun hF => ?_) | (with_reducible refine ImpQ.mk fun hp => ?_) | (with_reducible refine AllE.mk fun p => ?_) | (with_reducible refine AllR.mk fun rest => ?_) | (with_reducible refine AllK.mk fun K => ?_))))); repeat' (with_reducible refine And.intro ?_ ?_))
      all_goals first | exact Int.natCast_nonneg _ | omega | skip
      (focus (refine ⟨_, _, gh_close (t := 0) (ts := [1]) (l := EN now (L.set i { x with run := false })) ⟨⟨_, _, rfl⟩, ?_, by simp⟩, [0], rfl, ?_⟩; all_goals (refine fitq ?_ ?_ ?_ <;> try exact trivial); (try any_goals (refine ⟨?_, ?_⟩)); (try any_goals (with_reducible rfl))))
      all_goals (repeat' (first | (refine And.intro ?_ ?_) | rfl | trace_state))
theorem c_eStop {h : List Ch} {K : KT} {u : Nat} {now : Int} {L : List Prg} {id : Int} (H : K (.int .i64 (spQ L id).1) (h.set u (.pack (EN now (spQ L id).2)))) (o : hth h u = .pack (EN now L)) (s1 : L.length ≤ 1000000) : Does Try.prog 17 [.ptr u 0, .int .i64 id] h K :=
  frame_obj0 (b_eStop now L id s1) o (by simp) (fitC_pack _) (br_cons (br_ptr rfl) (br_cons br_int br_nil)) (.inl rfl) (fun _ => rfl) rfl H
/-- a resource is in use -/
def bzQ (L : List Prg) (r : Int) : Bool := L.any fun x => x.run && decide (¬ bitsI .and .i64 x.res r = 0)
/-- Start: the answer, and what is left -/
def srQ (L : List Prg) (id : Int) : Int × List Prg :=
  if fnB L id then (if (atP L id).run then (12, L) else if bzQ L (atP L id).res then (15, L) else (0, L.set (fnI L id) { atP L id with run := true, pos := 0, wt := false })) else (8, L)
theorem b_eStart (now : Int) (L : List Prg) (id n : Int) (hL : L.length ≤ 1000000) : DoesK Try.prog 1 13 [.ptr 0 0, .int .i64 id, .int .i64 n] [.pack (EN now L)] (EndF 1 (.int .i64 (srQ L id).1) ([.pack (EN (atQ now n) (srQ L id).2)] ++ [])) := by
  refine DoesK.close ?_
  obtain ⟨N, hN⟩ : ∃ N, atQ now n = N := ⟨_, rfl⟩
  rw [hN]
  unfold srQ
  cases hb1 : fnB L id
  · rw [if_neg (by decide)]
    refine w_body (rs := [.tmp 6]) (tm := [.ptr 0 0, .int .i64 id, .int .i64 n, .any, .any, .any, .any, .any, .any, .any, .any, .any, .any, .any, .any, .any, .any, .any, .any, .any, .any, .any, .any, .any, .any, .any, .any, .any, .any, .any, .any, .any, .any, .any, .any, .any, .any, .any, .any, .any, .any, .any, .any, .any, .any, .any, .any, .any, .any, .any, .any, .any, .any, .any, .any, .any, .any, .any, .any, .any, .any, .any, .any, .any, .any, .any, .any, .any, .any, .any, .any, .any, .any, .any, .any, .any, .any]) fn_13 rfl rfl rfl rfl fun R hR => ?_
    (have zx1 := @hN; have zx2 := @hb1; all_goals (try ((first | (with_reducible refine wp_id ?_) | (with_reducible refine does_id ?_) | (with_reducible refine ops_id ?_)); refine walk ?_; (repeat' (first | exact trivial | with_reducible refine And.intro ?_ ?_)); all_goals (repeat (first | (with_reducible refine ImpB.mk fun hb => ?_) | (with_reducible refine ImpK.mk fun hK => ?_) | (with_reducible refine ImpF.mk fun hF => ?_) | (with_reducible refine ImpQ.mk fun hp => ?_) | (with_reducible refine AllE.mk fun p => ?_) | (with_reducible refine AllR.mk fun rest => ?_) | (with_reducible refine AllK.mk fun K => ?_))))); repeat' (with_reducible refine And.intro ?_ ?_))
    all_goals first | omega | skip
    (focus (refine ⟨_, _, Gh.refl, [0], rfl, ?_⟩; (refine fitq ?_ ?_ ?_ <;> try exact trivial); (try any_goals (refine ⟨?_, ?_⟩)); (try any_goals (with_reducible rfl))))
    all_goals (repeat' (first | (refine And.intro ?_ ?_) | rfl | trace_state))
  · rw [if_pos rfl]
    have hlt := fn_lt hb1
    unfold atP
    obtain ⟨i, hi⟩ : ∃ i, fnI L id = i := ⟨_, rfl⟩
    rw [hi] at hlt ⊢
    obtain ⟨x, hxe⟩ : ∃ x, L.getD i Prg.zero = x := ⟨_, rfl⟩
    rw [hxe]
    cases hr : x.run
    · rw [if_neg (by decide)]
      refine w_body (rs := [.tmp 6]) (tm := [.ptr 0 0, .int .i64 id, .int .i64 n, .any, .any, .any, .any, .any, .any, .any, .any, .any, .any, .any, .any, .any, .any, .any, .any, .any, .any, .any, .any, .any, .any, .any, .any, .any, .any, .any, .any, .any, .any, .any, .any, .any, .any, .any, .any, .any, .any, .any, .any, .any, .any, .any, .any, .any, .any, .any, .any, .any, .any, .any, .any, .any, .any, .any, .any, .any, .any, .any, .any, .any, .any, .any, .any, .any, .any, .any, .any, .any, .any, .any, .any, .any, .any]) fn_13 rfl rfl rfl rfl fun R hR => ?_
      (have zx1 := @hN; have zx2 := @hb1; have zx3 := @hi; have zx4 := @hxe; have zx5 := @hr; all_goals (try ((first | (with_reducible refine wp_id ?_) | (with_reducible refine does_id ?_) | (with_reducible refine ops_id ?_)); refine walk ?_; (repeat' (first | exact trivial | with_reducible refine And.intro ?_ ?_)); all_goals (repeat (first | (with_reducible refine ImpB.mk fun hb => ?_) | (with_reducible refine ImpK.mk fun hK => ?_) | (with_reducible refine ImpF.mk fun hF => ?_) | (with_reducible refine ImpQ.mk fun hp => ?_) | (with_reducible refine AllE.mk fun p => ?_) | (with_reducible refine AllR.mk fun rest => ?_) | (with_reducible refine AllK.mk fun K => ?_))))); repeat' (with_reducible refine And.intro ?_ ?_))
      all_goals first | exact Int.natCast_nonneg _ | omega | skip
      any_goals ((try (refine w_seq fun K hK => ?_)); (try (refine w_block ?_)); refine w_loop (A := Nat) (fun k => k ≤ L.length ∧ bzQ (L.take k) x.res = false) (fun k => L.length - k) (fun k => [(40, .int .i64 k)]) (fun _ => []) (0) (ws := ?ws1) (tk := ?tk1) ?hw1 ?ht1 ?hi ?h0 ?LH1; (case hw1 => simp only [go_sem, decide_true, decide_false, Int.reduceToNat, Nat.min_eq_left, Nat.min_eq_right, Int.reducePow, Nat.reducePow, Int.reduceLE, Int.reduceLT, Int.reduceMul, Int.reduceAdd, Int.reduceSub, Int.reduceNeg, Bool.not_true, Bool.not_false, Bool.not_not, ↓reduceIte, Nat.reduceAdd, Nat.reduceSub, Nat.reduceMul, Nat.reduceEqDiff, reduceCtorEq, Nat.reduceLT, Nat.reduceLeDiff, Nat.reduceGT]; exact rfl); (case ht1 => simp only [go_sem, decide_true, decide_false, Int.reduceToNat, Nat.min_eq_left, Nat.min_eq_right, Int.reducePow, Nat.reducePow, Int.reduceLE, Int.reduceLT, Int.reduceMul, Int.reduceAdd, Int.reduceSub, Int.reduceNeg, Bool.not_true, Bool.not_false, Bool.not_not, ↓reduceIte, Nat.reduceAdd, Nat.reduceSub, Nat.reduceMul, Nat.reduceEqDiff, reduceCtorEq, Nat.reduceLT, Nat.reduceLeDiff, Nat.reduceGT]; exact rfl); (case' LH1 => rintro k E t hx hE ht; simp only [go_sem] at ht; subst ht; simp only [go_sem]; try dsimp only at hx))
      case hi => exact ⟨Nat.zero_le _, rfl⟩
      case h0 => (focus (refine ⟨_, _, Gh.refl, [0, 1], rfl, ?_⟩; (refine fitq ?_ ?_ ?_ <;> try exact trivial); (try any_goals (refine ⟨?_, ?_⟩)); (try any_goals (with_reducible rfl)))); (all_goals (repeat' (first | (refine And.intro ?_ ?_) | rfl | trace_state)))
      case LH1 =>
        obtain ⟨hk0, hno⟩ := hx
        have hw : IntKind.i64.wrap ((k : Int) + 1) = ((k + 1 : Nat) : Int) := by rw [wrap_i64 _ (by omega) (by omega)]; omega
        by_cases hk : k < L.length
        · have hkd : decide ((k : Int) < L.length) = true := decide_eq_true (by omega)
          have hnx : bzQ (L.take (k + 1)) x.res = ((L.getD k Prg.zero).run && decide (¬ bitsI .and .i64 (L.getD k Prg.zero).res x.res = 0)) := by
            unfold bzQ at hno ⊢
            rw [getT (z := Prg.zero) hk, List.any_append, hno, Bool.false_or, List.any_cons, List.any_nil, Bool.or_false]
          obtain ⟨y, hy⟩ : ∃ y, L.getD k Prg.zero = y := ⟨_, rfl⟩
          rw [hy] at hnx
          cases hyr : y.run
          · rw [hyr, Bool.false_and] at hnx
            (have zx1 := @hkd; have zx2 := @hw; have zx3 := @hxe; have zx4 := @hy; have zx5 := @hyr; all_goals (try ((first | (with_reducible refine wp_id ?_) | (with_reducible refine does_id ?_) | (with_reducible refine ops_id ?_)); refine walk ?_; (repeat' (first | exact trivial | with_reducible refine And.intro ?_ ?_)); all_goals (repeat (first | (with_reducible refine ImpB.mk fun hb => ?_) | (with_reducible refine ImpK.mk fun hK => ?_) | (with_reducible refine ImpF.mk fun hF => ?_) | (with_reducible refine ImpQ.mk fun hp => ?_) | (with_reducible refine AllE.mk fun p => ?_) | (with_reducible refine AllR.mk fun rest => ?_) | (with_reducible refine AllK.mk fun K => ?_))))); repeat' (with_reducible refine And.intro ?_ ?_))
            all_goals first | exact Int.natCast_nonneg _ | omega | skip
            refine ⟨k + 1, ⟨⟨by first | omega | (dsimp only; omega), hnx⟩, by first | omega | (dsimp only; omega)⟩, ?_⟩
            (focus (refine ⟨_, _, Gh.refl, [0, 1], rfl, ?_⟩; (refine fitq ?_ ?_ ?_ <;> try exact trivial); (try any_goals (refine ⟨?_, ?_⟩)); (try any_goals (with_reducible rfl))))
            all_goals (repeat' (first | (refine And.intro ?_ ?_) | rfl | trace_state))
          · rw [hyr, Bool.true_and] at hnx
            cases hc : decide (¬ bitsI .and .i64 y.res x.res = 0)
            · rw [hc] at hnx
              (have zx1 := @hkd; have zx2 := @hw; have zx3 := @hxe; have zx4 := @hy; have zx5 := @hyr; have zx6 := @hc; all_goals (try ((first | (with_reducible refine wp_id ?_) | (with_reducible refine does_id ?_) | (with_reducible refine ops_id ?_)); refine walk ?_; (repeat' (first | exact trivial | with_reducible refine And.intro ?_ ?_)); all_goals (repeat (first | (with_reducible refine ImpB.mk fun hb => ?_) | (with_reducible refine ImpK.mk fun hK => ?_) | (with_reducible refine ImpF.mk fun hF => ?_) | (with_reducible refine ImpQ.mk fun hp => ?_) | (with_reducible refine AllE.mk fun p => ?_) | (with_reducible refine AllR.mk fun rest => ?_) | (with_reducible refine AllK.mk fun K => ?_))))); repeat' (with_reducible refine And.intro ?_ ?_))
              all_goals first | exact Int.natCast_nonneg _ | omega | skip
              refine ⟨k + 1, ⟨⟨by first | omega | (dsimp only; omega), hnx⟩, by first | omega | (dsimp only; omega)⟩, ?_⟩
              (focus (refine ⟨_, _, Gh.refl, [0, 1], rfl, ?_⟩; (refine fitq ?_ ?_ ?_ <;> try exact trivial); (try any_goals (refine ⟨?_, ?_⟩)); (try any_goals (with_reducible rfl))))
              all_goals (repeat' (first | (refine And.intro ?_ ?_) | rfl | trace_state))
            · have hbz : bzQ L x.res = true := List.any_eq_true.2 ⟨y, hy ▸ getM hk, by rw [hyr, hc]; rfl⟩
              (have zx1 := @hkd; have zx2 := @hw; have zx3 := @hxe; have zx4 := @hy; have zx5 := @hyr; have zx6 := @hc; all_goals (try ((first | (with_reducible refine wp_id ?_) | (with_reducible refine does_id ?_) | (with_reducible refine ops_id ?_)); refine walk ?_; (repeat' (first | exact trivial | with_reducible refine And.intro ?_ ?_)); all_goals (repeat (first | (with_reducible refine ImpB.mk fun hb => ?_) | (with_reducible refine ImpK.mk fun hK => ?_) | (with_reducible refine ImpF.mk fun hF => ?_) | (with_reducible refine ImpQ.mk fun hp => ?_) | (with_reducible refine AllE.mk fun p => ?_) | (with_reducible refine AllR.mk fun rest => ?_) | (with_reducible refine AllK.mk fun K => ?_))))); repeat' (with_reducible refine And.intro ?_ ?_))
              all_goals first | exact Int.natCast_nonneg _ | omega | skip
              rw [hbz, if_pos rfl]
              (focus (refine ⟨_, _, gh_close (t := 0) (ts := [1]) (l := EN N L) ⟨⟨_, _, rfl⟩, ?_, by simp⟩, [0], rfl, ?_⟩; all_goals (refine fitq ?_ ?_ ?_ <;> try exact trivial); (try any_goals (refine ⟨?_, ?_⟩)); (try any_goals (with_reducible rfl))))
              all_goals (repeat' (first | (refine And.intro ?_ ?_) | rfl | trace_state))
        · have hkd : decide ((k : Int) < L.length) = false := decide_eq_false (by omega)
          obtain rfl : k = L.length := by omega
          rw [List.take_of_length_le (Nat.le_refl _)] at hno
          have hs1 : ∀ a : Prg, (L.set i a).getD i Prg.zero = a := fun a => by rw [List.getD_eq_getElem?_getD, List.getElem?_set_self hlt]; rfl
          have hs2 : ∀ a b : Prg, (L.set i a).set i b = L.set i b := fun a b => List.set_set ..
          (have zx1 := @hkd; have zx2 := @hxe; have zx3 := @hs1; have zx4 := @hs2; all_goals (try ((first | (with_reducible refine wp_id ?_) | (with_reducible refine does_id ?_) | (with_reducible refine ops_id ?_)); refine walk ?_; (repeat' (first | exact trivial | with_reducible refine And.intro ?_ ?_)); all_goals (repeat (first | (with_reducible refine ImpB.mk fun hb => ?_) | (with_reducible refine ImpK.mk fun hK => ?_) | (with_reducible refine ImpF.mk fun hF => ?_) | (with_reducible refine ImpQ.mk fun hp => ?_) | (with_reducible refine AllE.mk fun p => ?_) | (with_reducible refine AllR.mk fun rest => ?_) | (with_reducible refine AllK.mk fun K => ?_))))); repeat' (with_reducible refine And.intro ?_ ?_))
          all_goals first | exact Int.natCast_nonneg _ | (rw [List.length_set]; omega) | omega | skip
          rw [hno, if_neg (by decide)]
          (focus (refine ⟨_, _, gh_close (t := 0) (ts := [1]) (l := EN N (L.set i { x with run := true, pos := 0, wt := false })) ⟨⟨_, _, rfl⟩, ?_, by simp⟩, [0], rfl, ?_⟩; all_goals (refine fitq ?_ ?_ ?_ <;> try exact trivial); (try any_goals (refine ⟨?_, ?_⟩)); (try any_goals (with_reducible rfl))))
          all_goals (repeat' (first | (refine And.intro ?_ ?_) | rfl | trace_state))
    · rw [if_pos rfl]
      refine w_body (rs := [.tmp 6]) (tm := [.ptr 0 0, .int .i64 id, .int .i64 n, .any, .any, .any, .any, .any, .any, .any, .any, .any, .any, .any, .any, .any, .any, .any, .any, .any, .any, .any, .any, .any, .any, .any, .any, .any, .any, .any, .any, .any, .any, .any, .any, .any, .any, .any, .any, .any, .any, .any, .any, .any, .any, .any, .any, .any, .any, .any, .any, .any, .any, .any, .any, .any, .any, .any, .any, .any, .any, .any, .any, .any, .any, .any, .any, .any, .any, .any, .any, .any, .any, .any, .any, .any, .any]) fn_13 rfl rfl rfl rfl fun R hR => ?_
      (have zx1 := @hN; have zx2 := @hb1; have zx3 := @hi; have zx4 := @hxe; have zx5 := @hr; all_goals (try ((first | (with_reducible refine wp_id ?_) | (with_reducible refine does_id ?_) | (with_reducible refine ops_id ?_)); refine walk ?_; (repeat' (first | exact trivial | with_reducible refine And.intro ?_ ?_)); all_goals (repeat (first | (with_reducible refine ImpB.mk fun hb => ?_) | (with_reducible refine ImpK.mk fun hK => ?_) | (with_reducible refine ImpF.mk fun hF => ?_) | (with_reducible refine ImpQ.mk fun hp => ?_) | (with_reducible refine AllE.mk fun p => ?_) | (with_reducible refine AllR.mk fun rest => ?_) | (with_reducible refine AllK.mk fun K => ?_))))); repeat' (with_reducible refine And.intro ?_ ?_))
      all_goals first | exact Int.natCast_nonneg _ | omega | skip
      (focus (refine ⟨_, _, gh_close (t := 0) (ts := [1]) (l := EN N L) ⟨⟨_, _, rfl⟩, ?_, by simp⟩, [0], rfl, ?_⟩; all_goals (refine fitq ?_ ?_ ?_ <;> try exact trivial); (try any_goals (refine ⟨?_, ?_⟩)); (try any_goals (with_reducible rfl))))
      all_goals (repeat' (first | (refine And.intro ?_ ?_) | rfl | trace_state))
theorem c_eStart {h : List Ch} {K : KT} {u : Nat} {now : Int} {L : List Prg} {id n : Int} (H : K (.int .i64 (srQ L id).1) (h.set u (.pack (EN (atQ now n) (srQ L id).2)))) (o : hth h u = .pack (EN now L)) (s1 : L.length ≤ 1000000) : Does Try.prog 13 [.ptr u 0, .int .i64 id, .int .i64 n] h K :=
  frame_obj0 (b_eStart now L id n s1) o (by simp) (fitC_pack _) (br_cons (br_ptr rfl) (br_cons br_int (br_cons br_int br_nil))) (.inl rfl) (fun _ => rfl) rfl H
end Go.V

set_option maxRecDepth 100000
set_option maxHeartbeats 8000000
namespace Go.V
open Go.Proofs
theorem b_qcl_int (xs : List Int) (hl : xs.length ≤ 1099511627776) : DoesK Try.prog 0 83 [.ro .int xs] [] (EndF 0 (.ro .int xs) []) := by
  refine DoesK.close ?_
  refine w_body (rs := [.tmp 2]) (tm := [.ro .int xs, .any, .any, .any, .any, .any, .any, .any]) fn_83 rfl rfl rfl rfl fun R hR => ?_
  (all_goals (try ((first | (with_reducible refine wp_id ?_) | (with_reducible refine does_id ?_) | (with_reducible refine ops_id ?_)); refine walk ?_; (repeat' (first | exact trivial | with_reducible refine And.intro ?_ ?_)); all_goals (repeat (first | (with_reducible refine ImpB.mk fun hb => ?_) | (with_reducible refine ImpK.mk fun hK => ?_) | (with_reducible refine ImpF.mk fun hF => ?_) | (with_reducible refine ImpQ.mk fun hp => ?_) | (with_reducible refine AllE.mk fun p => ?_) | (with_reducible refine AllR.mk fun rest => ?_) | (with_reducible refine AllK.mk fun K => ?_))))); repeat' (with_reducible refine And.intro ?_ ?_))
  (all_goals first | exact Int.natCast_nonneg _ | exact Int.ofNat_lt.2 (by assumption) | assumption | omega | exact Nat.le_refl _ | (exfalso; simp at hb; done) | (simp only [go_sem, decide_true, decide_false, Int.reduceToNat, Nat.min_eq_left, Nat.min_eq_right, Int.reducePow, Nat.reducePow, Int.reduceLE, Int.reduceLT, Int.reduceMul, Int.reduceAdd, Int.reduceSub, Int.reduceNeg, Bool.not_true, Bool.not_false, Bool.not_not, ↓reduceIte, Nat.reduceAdd, Nat.reduceSub, Nat.reduceMul, Nat.reduceEqDiff, reduceCtorEq, Nat.reduceLT, Nat.reduceLeDiff, Nat.reduceGT]; done) | (unfold capM; omega) | (simp only [List.length_drop, List.length_take, List.length_append, List.length_cons, List.length_nil]; omega) | skip)
  · exact ⟨_, rfl⟩
  · (focus (refine ⟨_, _, Gh.refl, [], rfl, ?_⟩; (refine fitq ?_ ?_ ?_ <;> try exact trivial); (try any_goals (refine ⟨?_, ?_⟩)); (try any_goals (with_reducible rfl))))
    all_goals (try exact hb)
  · refine ⟨_, _, gh_frz (t := 1) (e := .int) (xs := xs) rfl ?f1 ?f2, [], rfl, ?ft⟩
    case' ft => (refine fitq ?_ ?_ ?_ <;> try exact trivial)
    case' f1 => simp only [go_sem, decide_true, decide_false, Int.reduceToNat, Nat.min_eq_left, Nat.min_eq_right, Int.reducePow, Nat.reducePow, Int.reduceLE, Int.reduceLT, Int.reduceMul, Int.reduceAdd, Int.reduceSub, Int.reduceNeg, Bool.not_true, Bool.not_false, Bool.not_not, ↓reduceIte, Nat.reduceAdd, Nat.reduceSub, Nat.reduceMul, Nat.reduceEqDiff, reduceCtorEq, Nat.reduceLT, Nat.reduceLeDiff, Nat.reduceGT]
    case' f2 => simp only [go_sem, decide_true, decide_false, Int.reduceToNat, Nat.min_eq_left, Nat.min_eq_right, Int.reducePow, Nat.reducePow, Int.reduceLE, Int.reduceLT, Int.reduceMul, Int.reduceAdd, Int.reduceSub, Int.reduceNeg, Bool.not_true, Bool.not_false, Bool.not_not, ↓reduceIte, Nat.reduceAdd, Nat.reduceSub, Nat.reduceMul, Nat.reduceEqDiff, reduceCtorEq, Nat.reduceLT, Nat.reduceLeDiff, Nat.reduceGT]
    all_goals first | exact Nat.le_refl _ | simp
theorem c_qcl_int {h : List Ch} {K : KT} {xs : List Int} {a : AV} (H : K (.ro .int xs) h) (q1 : isRO .int xs a) (s1 : xs.length ≤ 1099511627776) : Does Try.prog 83 [a] h K :=
  frame_pure (b_qcl_int xs s1) (br_cons q1.br br_nil) (.inl (by rw [brTL, q1.brT]; rfl)) (fun _ => rfl) H
abbrev i_qcl_int := Ctr.mk (i := 0) (g := 83) @c_qcl_int
attribute [instance] i_qcl_int
theorem b_qcl_byte (xs : List UInt8) (hl : xs.length ≤ 1099511627776) : DoesK Try.prog 0 84 [.ro .byte xs] [] (EndF 0 (.ro .byte xs) []) := by
  refine DoesK.close ?_
  refine w_body (rs := [.tmp 2]) (tm := [.ro .byte xs, .any, .any, .any, .any, .any, .any, .any]) fn_84 rfl rfl rfl rfl fun R hR => ?_
  (all_goals (try ((first | (with_reducible refine wp_id ?_) | (with_reducible refine does_id ?_) | (with_reducible refine ops_id ?_)); refine walk ?_; (repeat' (first | exact trivial | with_reducible refine And.intro ?_ ?_)); all_goals (repeat (first | (with_reducible refine ImpB.mk fun hb => ?_) | (with_reducible refine ImpK.mk fun hK => ?_) | (with_reducible refine ImpF.mk fun hF => ?_) | (with_reducible refine ImpQ.mk fun hp => ?_) | (with_reducible refine AllE.mk fun p => ?_) | (with_reducible refine AllR.mk fun rest => ?_) | (with_reducible refine AllK.mk fun K => ?_))))); repeat' (with_reducible refine And.intro ?_ ?_))
  (all_goals first | exact Int.natCast_nonneg _ | exact Int.ofNat_lt.2 (by assumption) | assumption | omega | exact Nat.le_refl _ | (exfalso; simp at hb; done) | (simp only [go_sem, decide_true, decide_false, Int.reduceToNat, Nat.min_eq_left, Nat.min_eq_right, Int.reducePow, Nat.reducePow, Int.reduceLE, Int.reduceLT, Int.reduceMul, Int.reduceAdd, Int.reduceSub, Int.reduceNeg, Bool.not_true, Bool.not_false, Bool.not_not, ↓reduceIte, Nat.reduceAdd, Nat.reduceSub, Nat.reduceMul, Nat.reduceEqDiff, reduceCtorEq, Nat.reduceLT, Nat.reduceLeDiff, Nat.reduceGT]; done) | (unfold capM; omega) | (simp only [List.length_drop, List.length_take, List.length_append, List.length_cons, List.length_nil]; omega) | skip)
  · exact ⟨_, rfl⟩
  · (focus (refine ⟨_, _, Gh.refl, [], rfl, ?_⟩; (refine fitq ?_ ?_ ?_ <;> try exact trivial); (try any_goals (refine ⟨?_, ?_⟩)); (try any_goals (with_reducible rfl))))
    all_goals (try exact hb)
  · refine ⟨_, _, gh_frz (t := 1) (e := .byte) (xs := xs) rfl ?f1 ?f2, [], rfl, ?ft⟩
    case' ft => (refine fitq ?_ ?_ ?_ <;> try exact trivial)
    case' f1 => simp only [go_sem, decide_true, decide_false, Int.reduceToNat, Nat.min_eq_left, Nat.min_eq_right, Int.reducePow, Nat.reducePow, Int.reduceLE, Int.reduceLT, Int.reduceMul, Int.reduceAdd, Int.reduceSub, Int.reduceNeg, Bool.not_true, Bool.not_false, Bool.not_not, ↓reduceIte, Nat.reduceAdd, Nat.reduceSub, Nat.reduceMul, Nat.reduceEqDiff, reduceCtorEq, Nat.reduceLT, Nat.reduceLeDiff, Nat.reduceGT]
    case' f2 => simp only [go_sem, decide_true, decide_false, Int.reduceToNat, Nat.min_eq_left, Nat.min_eq_right, Int.reducePow, Nat.reducePow, Int.reduceLE, Int.reduceLT, Int.reduceMul, Int.reduceAdd, Int.reduceSub, Int.reduceNeg, Bool.not_true, Bool.not_false, Bool.not_not, ↓reduceIte, Nat.reduceAdd, Nat.reduceSub, Nat.reduceMul, Nat.reduceEqDiff, reduceCtorEq, Nat.reduceLT, Nat.reduceLeDiff, Nat.reduceGT]
    all_goals first | exact Nat.le_refl _ | simp
theorem c_qcl_byte {h : List Ch} {K : KT} {xs : List UInt8} {a : AV} (H : K (.ro .byte xs) h) (q1 : isRO .byte xs a) (s1 : xs.length ≤ 1099511627776) : Does Try.prog 84 [a] h K :=
  frame_pure (b_qcl_byte xs s1) (br_cons q1.br br_nil) (.inl (by rw [brTL, q1.brT]; rfl)) (fun _ => rfl) H
abbrev i_qcl_byte := Ctr.mk (i := 0) (g := 84) @c_qcl_byte
attribute [instance] i_qcl_byte
theorem b_qclS (xs : List Stp) (hl : xs.length ≤ 1000000) : DoesK Try.prog 0 55 [.ro .stp xs] [] (EndF 0 (.sl 0 .stp 0 xs.length) [.rows .stp xs]) := by
  refine DoesK.close ?_
  refine w_body (rs := [.tmp 2]) (tm := [.ro .stp xs, .any, .any, .any, .any, .any, .any, .any]) fn_55 rfl rfl rfl rfl fun R hR => ?_
  (all_goals (try ((first | (with_reducible refine wp_id ?_) | (with_reducible refine does_id ?_) | (with_reducible refine ops_id ?_)); refine walk ?_; (repeat' (first | exact trivial | with_reducible refine And.intro ?_ ?_)); all_goals (repeat (first | (with_reducible refine ImpB.mk fun hb => ?_) | (with_reducible refine ImpK.mk fun hK => ?_) | (with_reducible refine ImpF.mk fun hF => ?_) | (with_reducible refine ImpQ.mk fun hp => ?_) | (with_reducible refine AllE.mk fun p => ?_) | (with_reducible refine AllR.mk fun rest => ?_) | (with_reducible refine AllK.mk fun K => ?_))))); repeat' (with_reducible refine And.intro ?_ ?_))
  (all_goals first | exact Int.natCast_nonneg _ | exact Int.ofNat_lt.2 (by assumption) | assumption | omega | exact Nat.le_refl _ | (exfalso; simp at hb; done) | (simp only [go_sem, decide_true, decide_false, Int.reduceToNat, Nat.min_eq_left, Nat.min_eq_right, Int.reducePow, Nat.reducePow, Int.reduceLE, Int.reduceLT, Int.reduceMul, Int.reduceAdd, Int.reduceSub, Int.reduceNeg, Bool.not_true, Bool.not_false, Bool.not_not, ↓reduceIte, Nat.reduceAdd, Nat.reduceSub, Nat.reduceMul, Nat.reduceEqDiff, reduceCtorEq, Nat.reduceLT, Nat.reduceLeDiff, Nat.reduceGT]; done) | (unfold capM; omega) | (simp only [List.length_drop, List.length_take, List.length_append, List.length_cons, List.length_nil]; omega) | skip)
  · exact ⟨_, rfl⟩
  · subst hb
    refine ⟨_, _, gh_adopt (s := 0) .stp trivial, [0], rfl, ?ft⟩
    case' ft => (refine fitq ?_ ?_ ?_ <;> try exact trivial)
    all_goals rfl
  · (focus (refine ⟨_, _, Gh.refl, [1], rfl, ?_⟩; (refine fitq ?_ ?_ ?_ <;> try exact trivial); (try any_goals (refine ⟨?_, ?_⟩)); (try any_goals (with_reducible rfl))))
theorem c_qclS {h : List Ch} {K : KT} {xs : List Stp} {a : AV} (H : K (.sl h.length .stp 0 xs.length) (h ++ [.rows .stp xs])) (q1 : isRO .stp xs a) (s1 : xs.length ≤ 1000000) : Does Try.prog 55 [a] h K :=
  frame_new (b_qclS xs s1) (br_cons q1.br br_nil) (.inl (by rw [brTL, q1.brT]; rfl)) (fun _ => rfl) (by simp [renA, rhoC]) H
abbrev i_qclS := Ctr.mk (i := 0) (g := 55) @c_qclS
attribute [instance] i_qclS
theorem b_dup (c : Cmd) (h1 : c.args.length ≤ 1000000) (h2 : c.data.length ≤ 1000000) : DoesK Try.prog 0 56 [.agg (cmdL c)] [] (EndF 0 (.agg (cmdL c)) []) := by
  refine DoesK.close ?_
  refine w_body (rs := [.cell 2 31]) (tm := [.agg (cmdL c), .any, .any, .any, .any, .any, .any, .any, .any, .any, .any, .any]) fn_56 rfl rfl rfl rfl fun R hR => ?_
  (all_goals (try ((first | (with_reducible refine wp_id ?_) | (with_reducible refine does_id ?_) | (with_reducible refine ops_id ?_)); refine walk ?_; (repeat' (first | exact trivial | with_reducible refine And.intro ?_ ?_)); all_goals (repeat (first | (with_reducible refine ImpB.mk fun hb => ?_) | (with_reducible refine ImpK.mk fun hK => ?_) | (with_reducible refine ImpF.mk fun hF => ?_) | (with_reducible refine ImpQ.mk fun hp => ?_) | (with_reducible refine AllE.mk fun p => ?_) | (with_reducible refine AllR.mk fun rest => ?_) | (with_reducible refine AllK.mk fun K => ?_))))); repeat' (with_reducible refine And.intro ?_ ?_))
  all_goals first | omega | exact .inl rfl | skip
  all_goals (focus (refine ⟨_, _, Gh.refl, [], rfl, ?_⟩; (refine fitq ?_ ?_ ?_ <;> try exact trivial); (try any_goals (refine ⟨?_, ?_⟩)); (try any_goals (with_reducible rfl))))
theorem c_dup {h : List Ch} {K : KT} {x y z : Int} {args : List Int} {data : List UInt8} {a1 a2 : AV} (H : K (.agg [.int .i64 x, .int .i64 y, .int .i64 z, .ro .int args, .ro .byte data]) h) (q1 : isRO .int args a1) (q2 : isRO .byte data a2) (s1 : args.length ≤ 1000000) (s2 : data.length ≤ 1000000) : Does Try.prog 56 [.agg [.int .i64 x, .int .i64 y, .int .i64 z, a1, a2]] h K :=
  frame_pure (b_dup ⟨x, y, z, args, data⟩ s1 s2) (br_cons (br_agg (br_cons br_int (br_cons br_int (br_cons br_int (br_cons q1.br (br_cons q2.br br_nil)))))) br_nil) (.inl (by have t1 := q1.brT; have t2 := q2.brT; simp [brTL, brT] at t1 t2 ⊢; exact ⟨t1, t2⟩)) (fun _ => rfl) H
abbrev i_dup := Ctr.mk (i := 0) (g := 56) @c_dup
attribute [instance] i_dup
/-- commands of a size that can be copied -/
def smQ (l : List Stp) : Prop := l.length ≤ 1000000 ∧ ∀ x ∈ l, x.c.args.length ≤ 1000000 ∧ x.c.data.length ≤ 1000000
theorem set_self {l : List Stp} {k : Nat} (hk : k < l.length) : l.set k (l.getD k Stp.zero) = l := by
  rw [List.getD_eq_getElem?_getD, List.getElem?_eq_getElem hk]
  exact List.set_getElem_self hk
theorem b_copied (l : List Stp) (hs : smQ l) : DoesK Try.prog 0 30 [.ro .stp l] [] (EndF 0 (.ro .stp l) []) := by
  refine DoesK.close ?_
  obtain ⟨hl, hx0⟩ := hs
  refine w_body (rs := [.tmp 2]) (tm := [.ro .stp l, .any, .any, .any, .any, .any, .any, .any, .any, .any, .any, .any, .any, .any, .any, .any, .any, .any, .any, .any, .any, .any, .any, .any]) fn_30 rfl rfl rfl rfl fun R hR => ?_
  (all_goals (try ((first | (with_reducible refine wp_id ?_) | (with_reducible refine does_id ?_) | (with_reducible refine ops_id ?_)); refine walk ?_; (repeat' (first | exact trivial | with_reducible refine And.intro ?_ ?_)); all_goals (repeat (first | (with_reducible refine ImpB.mk fun hb => ?_) | (with_reducible refine ImpK.mk fun hK => ?_) | (with_reducible refine ImpF.mk fun hF => ?_) | (with_reducible refine ImpQ.mk fun hp => ?_) | (with_reducible refine AllE.mk fun p => ?_) | (with_reducible refine AllR.mk fun rest => ?_) | (with_reducible refine AllK.mk fun K => ?_))))); repeat' (with_reducible refine And.intro ?_ ?_))
  all_goals first | omega | skip
  any_goals ((try (refine w_seq fun K hK => ?_)); (try (refine w_block ?_)); refine w_loop (A := Nat) (fun k => k ≤ l.length) (fun k => l.length - k) (fun k => [(3, .sl 0 .stp 0 l.length), (9, .int .i64 k)]) (fun k => [(0, .rows .stp l)]) (0) (ws := ?ws1) (tk := ?tk1) ?hw1 ?ht1 ?hi ?h0 ?LH1; (case hw1 => simp only [go_sem, decide_true, decide_false, Int.reduceToNat, Nat.min_eq_left, Nat.min_eq_right, Int.reducePow, Nat.reducePow, Int.reduceLE, Int.reduceLT, Int.reduceMul, Int.reduceAdd, Int.reduceSub, Int.reduceNeg, Bool.not_true, Bool.not_false, Bool.not_not, ↓reduceIte, Nat.reduceAdd, Nat.reduceSub, Nat.reduceMul, Nat.reduceEqDiff, reduceCtorEq, Nat.reduceLT, Nat.reduceLeDiff, Nat.reduceGT]; exact rfl); (case ht1 => simp only [go_sem, decide_true, decide_false, Int.reduceToNat, Nat.min_eq_left, Nat.min_eq_right, Int.reducePow, Nat.reducePow, Int.reduceLE, Int.reduceLT, Int.reduceMul, Int.reduceAdd, Int.reduceSub, Int.reduceNeg, Bool.not_true, Bool.not_false, Bool.not_not, ↓reduceIte, Nat.reduceAdd, Nat.reduceSub, Nat.reduceMul, Nat.reduceEqDiff, reduceCtorEq, Nat.reduceLT, Nat.reduceLeDiff, Nat.reduceGT]; exact rfl); (case' LH1 => rintro k E t hx hE ht; simp only [go_sem] at ht; subst ht; simp only [go_sem]; try dsimp only at hx))
  case hi => exact Nat.zero_le _
  case h0 => (focus (refine ⟨_, _, Gh.refl, [0], rfl, ?_⟩; (refine fitq ?_ ?_ ?_ <;> try exact trivial); (try any_goals (refine ⟨?_, ?_⟩)); (try any_goals (with_reducible rfl))))
  case LH1 =>
    have hk0 : k ≤ l.length := hx
    have hw : IntKind.i64.wrap ((k : Int) + 1) = ((k + 1 : Nat) : Int) := by rw [wrap_i64 _ (by omega) (by omega)]; omega
    by_cases hk : k < l.length
    · have hkd : decide ((k : Int) < (l.length : Int)) = true := decide_eq_true (by omega)
      have hlx := hx0 _ (gM hk)
      have hss := set_self hk
      obtain ⟨x, hxe⟩ : ∃ x, l.getD k Stp.zero = x := ⟨_, rfl⟩
      rw [hxe] at hlx hss
      (have zx1 := @hkd; have zx2 := @hw; have zx3 := @hxe; all_goals (try ((first | (with_reducible refine wp_id ?_) | (with_reducible refine does_id ?_) | (with_reducible refine ops_id ?_)); refine walk ?_; (repeat' (first | exact trivial | with_reducible refine And.intro ?_ ?_)); all_goals (repeat (first | (with_reducible refine ImpB.mk fun hb => ?_) | (with_reducible refine ImpK.mk fun hK => ?_) | (with_reducible refine ImpF.mk fun hF => ?_) | (with_reducible refine ImpQ.mk fun hp => ?_) | (with_reducible refine AllE.mk fun p => ?_) | (with_reducible refine AllR.mk fun rest => ?_) | (with_reducible refine AllK.mk fun K => ?_))))); repeat' (with_reducible refine And.intro ?_ ?_))
      all_goals first | exact Int.natCast_nonneg _ | omega | exact hlx.1 | exact hlx.2 | exact .inl rfl | skip
      refine ⟨k + 1, ⟨by first | omega | (dsimp only; omega), by first | omega | (dsimp only; omega)⟩, ?_⟩
      (focus (refine ⟨_, _, Gh.refl, [0], rfl, ?_⟩; (refine fitq ?_ ?_ ?_ <;> try exact trivial); (try any_goals (refine ⟨?_, ?_⟩)); (try any_goals (with_reducible rfl))))
      all_goals first | exact hss | exact hss.symm | trace_state
    · have hkd : decide ((k : Int) < (l.length : Int)) = false := decide_eq_false (by omega)
      (have zx1 := @hkd; all_goals (try ((first | (with_reducible refine wp_id ?_) | (with_reducible refine does_id ?_) | (with_reducible refine ops_id ?_)); refine walk ?_; (repeat' (first | exact trivial | with_reducible refine And.intro ?_ ?_)); all_goals (repeat (first | (with_reducible refine ImpB.mk fun hb => ?_) | (with_reducible refine ImpK.mk fun hK => ?_) | (with_reducible refine ImpF.mk fun hF => ?_) | (with_reducible refine ImpQ.mk fun hp => ?_) | (with_reducible refine AllE.mk fun p => ?_) | (with_reducible refine AllR.mk fun rest => ?_) | (with_reducible refine AllK.mk fun K => ?_))))); repeat' (with_reducible refine And.intro ?_ ?_))
      refine ⟨_, _, gh_frz (t := 0) (e := .stp) (xs := l) rfl ?f1 ?f2, [], rfl, ?ft⟩
      case' ft => (refine fitq ?_ ?_ ?_ <;> try exact trivial)
      case' f1 => simp only [go_sem, decide_true, decide_false, Int.reduceToNat, Nat.min_eq_left, Nat.min_eq_right, Int.reducePow, Nat.reducePow, Int.reduceLE, Int.reduceLT, Int.reduceMul, Int.reduceAdd, Int.reduceSub, Int.reduceNeg, Bool.not_true, Bool.not_false, Bool.not_not, ↓reduceIte, Nat.reduceAdd, Nat.reduceSub, Nat.reduceMul, Nat.reduceEqDiff, reduceCtorEq, Nat.reduceLT, Nat.reduceLeDiff, Nat.reduceGT]
      case' f2 => simp only [go_sem, decide_true, decide_false, Int.reduceToNat, Nat.min_eq_left, Nat.min_eq_right, Int.reducePow, Nat.reducePow, Int.reduceLE, Int.reduceLT, Int.reduceMul, Int.reduceAdd, Int.reduceSub, Int.reduceNeg, Bool.not_true, Bool.not_false, Bool.not_not, ↓reduceIte, Nat.reduceAdd, Nat.reduceSub, Nat.reduceMul, Nat.reduceEqDiff, reduceCtorEq, Nat.reduceLT, Nat.reduceLeDiff, Nat.reduceGT]
      all_goals first | exact Nat.le_refl _ | exact ⟨Nat.le_refl _, False.elim⟩ | exact False.elim | simp
theorem c_copied {h : List Ch} {K : KT} {l : List Stp} {a : AV} (H : K (.ro .stp l) h) (q1 : isRO .stp l a) (s1 : smQ l) : Does Try.prog 30 [a] h K :=
  frame_pure (b_copied l s1) (br_cons q1.br br_nil) (.inl (by rw [brTL, q1.brT]; rfl)) (fun _ => rfl) H
abbrev i_copied := Ctr.mk (i := 0) (g := 30) @c_copied
attribute [instance] i_copied
end Go.V

set_option maxRecDepth 100000
set_option maxHeartbeats 4000000
namespace Go.V
open Go.Proofs Go.Lib Go.Shelf Go.RowKit
theorem run_copy_rowK (P : Program) (w : World) (dT sT ty elem : TypeId) (g o dLen dCap : Nat) (a : Addr) (sLen sCap : Nat) (cur : Array Value) (t : TypeId) (cs : List Value) (k : Nat)
    (hu : P.underlying dT = some (.slice elem)) (hs : (P.info? elem).map (·.size) = some k)
    (hg : w.heap[g]? = some (.cells cur t (0, 0))) (hn : cs.length = Nat.min sLen dLen * k)
    (hsrc : ∀ j v, cs[j]? = some v → w.cell? (a.add j) = some v) (hfit : o + cs.length ≤ cur.size) (h1 : ∀ v ∈ cs, v.oneCell' = true) :
    (Builtin.copy_ #[dT, sT] ty #[.slice (some ⟨g, o, none⟩) dLen dCap, .slice (some a) sLen sCap]).run P w =
      .ok (goInt (Nat.min sLen dLen)) (w.setRow g (cur.toList.take o ++ cs ++ cur.toList.drop (o + cs.length)).toArray) := by
  have hl := run_loadCells_list (P := P) w a cs hsrc
  have hst := run_storeCells_at P g o t cs 0 cur w hg (by simpa using hfit) h1
  cases hq : P.info? elem with
  | none => simp [hq] at hs
  | some i =>
    have hi : i.size = k := by simpa [hq] using hs
    simp [Builtin.copy_, run_underlying hu, Builtin.lenOf, Builtin.firstCells, sizeOf, typeInfo, hq, hi, ← hn, hl, hst]
theorem ins_list0 {cur cs vs : List Value} {a b k : Nat} (h1 : b + k ≤ cur.length) (h2 : a ≤ b) (h3 : cs.length = b - a) (h4 : vs.length = k) (D : List Value) :
    ((cur.take (a + k) ++ cs ++ D).take a ++ vs ++ (cur.take (a + k) ++ cs ++ D).drop (a + vs.length)).take (b + k) = cur.take a ++ vs ++ cs := by
  have l1 : (cur.take (a + k)).length = a + k := by rw [List.length_take]; omega
  have e1 : (cur.take (a + k) ++ cs ++ D).take a = cur.take a := by
    rw [List.append_assoc, List.take_append_of_le_length (by omega), List.take_take, Nat.min_eq_left (by omega)]
  have e2 : (cur.take (a + k) ++ cs ++ D).drop (a + vs.length) = cs ++ D := by
    rw [List.append_assoc, h4]
    exact List.drop_left' l1
  rw [e1, e2, ← List.append_assoc]
  exact List.take_left' (by rw [List.length_append, List.length_append, List.length_take, h3, h4]; omega)
theorem ins_list {cur cs vs : List Value} {n i k : Nat} (h1 : (n + 1) * k ≤ cur.length) (h2 : i * k ≤ n * k) (h3 : cs.length = (n - i) * k) (h4 : vs.length = k) :
    ((cur.take ((i + 1) * k) ++ cs ++ cur.drop ((i + 1) * k + cs.length)).take (i * k) ++ vs ++ (cur.take ((i + 1) * k) ++ cs ++ cur.drop ((i + 1) * k + cs.length)).drop (i * k + vs.length)).take ((n + 1) * k) = cur.take (i * k) ++ vs ++ cs := by
  generalize cur.drop ((i + 1) * k + cs.length) = D
  rw [Nat.succ_mul] at h1
  rw [Nat.sub_mul] at h3
  rw [Nat.succ_mul, Nat.succ_mul]
  exact ins_list0 h1 h2 h3 h4 D
theorem insG_list {cur cs vs : List Value} {Z1 Z2 : Array Value} {n i k : Nat} (h2 : (cur.take (i * k)).length = i * k) (h4 : vs.length = k) (h3 : cs.length + (i + 1) * k = (n + 1) * k) :
    ((((((cur.take (i * k)).toArray ++ Z1 ++ Z2).toList.take (i * k) ++ vs ++ ((cur.take (i * k)).toArray ++ Z1 ++ Z2).toList.drop (i * k + vs.length)).toArray).toList.take ((i + 1) * k) ++ cs ++ ((((cur.take (i * k)).toArray ++ Z1 ++ Z2).toList.take (i * k) ++ vs ++ ((cur.take (i * k)).toArray ++ Z1 ++ Z2).toList.drop (i * k + vs.length)).toArray).toList.drop ((i + 1) * k + cs.length)).toArray).toList.take ((n + 1) * k) = cur.take (i * k) ++ vs ++ cs := by
  simp only [Array.toList_append, List.toList_toArray]
  have e1 : (cur.take (i * k) ++ Z1.toList ++ Z2.toList).take (i * k) = cur.take (i * k) := by
    rw [List.append_assoc]
    exact List.take_left' h2
  rw [e1]
  have l2 : (cur.take (i * k) ++ vs).length = (i + 1) * k := by rw [List.length_append, h2, h4, Nat.succ_mul]
  generalize (cur.take (i * k) ++ Z1.toList ++ Z2.toList).drop (i * k + vs.length) = D
  rw [List.take_left' l2]
  generalize (cur.take (i * k) ++ vs ++ D).drop ((i + 1) * k + cs.length) = D2
  exact List.take_left' (by rw [List.length_append, l2]; omega)
theorem ins_ok [ETab] {P : Program} {F T E : Nat} (hr : Here P F) {e : Ety} (hk : kdT P T = .slice E) (hsz : szT P E = e.sz) (hzl : zlenT P E = e.sz) (hby : bytesT P E ≤ 1024)
    (hE : ∀ (s : Option Addr) (n c vb vo vc : Nat) (v : Value) (w w1 : World), n ≤ c → c ≤ 9223372036854775807 → (s = none → n = 0 ∧ c = 0) →
      (Builtin.append_ #[T, T] T #[.slice s n c, .slice (some ⟨vb, vo, none⟩) 1 vc]).run P w = .ok v w1 → Calls P F #[.slice s n c, .int .i64 n, .slice (some ⟨vb, vo, none⟩) 1 vc] w fun e w' => e = .returned v ∧ w' = w1)
    (hS : ∀ (b n c vb vo vc i : Nat) (cur : Array Value) (ty : TypeId) (vs : List Value) (w : World), i < n → n + 1 ≤ c → c ≤ 9223372036854775807 → vb ≠ b → w.heap[b]? = some (.cells cur ty (0, 0)) → cur.size = c * e.sz → (∀ v ∈ cur.toList.take (n * e.sz), v.oneCell' = true) →
      vs.length = e.sz → (∀ j v, vs[j]? = some v → w.cell? ⟨vb, vo + j, none⟩ = some v) → (∀ v ∈ vs, v.oneCell' = true) → ∀ (tA : TypeId) (kA : Nat), w.shape? vb = some (tA, kA) → w.frozen? ⟨vb, vo, none⟩ = false → w.frozen? ⟨vb, kA, none⟩ = false →
      Calls P F #[.slice (some ⟨b, 0, none⟩) n c, .int .i64 i, .slice (some ⟨vb, vo, none⟩) 1 vc] w fun e' w' => e' = .returned (.slice (some ⟨b, 0, none⟩) (n + 1) c) ∧ ∃ row, row.toList.take ((n + 1) * e.sz) = cur.toList.take (i * e.sz) ++ vs ++ (cur.toList.take (n * e.sz)).drop (i * e.sz) ∧ row.size = cur.size ∧ w' = w.drew.setRow b row)
    (hG : ∀ (b n c vb vo vc i : Nat) (cur : Array Value) (ty : TypeId) (vs : List Value) (w : World), i < n → n ≤ c → c < n + 1 → (n + 1) * bytesT P E ≤ 140737488355328 → w.heap[b]? = some (.cells cur ty (0, 0)) → cur.size = c * e.sz → (∀ v ∈ cur.toList.take (n * e.sz), v.oneCell' = true) →
      vs.length = e.sz → vb < w.heap.size → (∀ j v, vs[j]? = some v → w.cell? ⟨vb, vo + j, none⟩ = some v) → (∀ v ∈ vs, v.oneCell' = true) →
      Calls P F #[.slice (some ⟨b, 0, none⟩) n c, .int .i64 i, .slice (some ⟨vb, vo, none⟩) 1 vc] w fun e' w' => ∃ G row, e' = .returned (.slice (some ⟨w.heap.size, 0, none⟩) (n + 1) G) ∧ n + 1 ≤ G ∧ G ≤ maxLen ∧
        row.toList.take ((n + 1) * e.sz) = cur.toList.take (i * e.sz) ++ vs ++ (cur.toList.take (n * e.sz)).drop (i * e.sz) ∧ row.size = G * e.sz ∧ w'.heap[w.heap.size]? = some (.cells row E (0, 0)) ∧
        (∀ m, m < w.heap.size → w'.heap[m]? = w.heap[m]?) ∧ w'.heap.size = w.heap.size + 1 ∧ w'.os = w.os ∧ w'.tape = w.tape ∧ w'.output = w.output ∧ w.drawn ≤ w'.drawn)
    {h : List Ch} {K : KT} {t u n i : Nat} {xs : List e.T} {y : e.T} (hn : n = xs.length) (hi : i ≤ n) (hlen : xs.length ≤ 1000000000) (hne : t ≠ u) (o : hth h t = .rows e xs) (o1 : hth h u = .rows e [y])
    (H : K (.sl h.length e 0 (n + 1)) (h.set t .gone ++ [.rows e (xs.take i ++ y :: xs.drop i)])) : Does P F [.sl t e 0 n, .int .i64 (i : Int), .sl u e 0 1] h K := by
  refine ⟨hr, fun R μ w vs hv H0 => ?_⟩
  have hg := hth_get o (by simp)
  have hg1 := hth_get o1 (by simp)
  cases hv with
  | cons hs h2 =>
  cases h2 with
  | cons hii h3 =>
  cases h3 with
  | cons hx h4 =>
  cases h4
  cases hii
  obtain ⟨B1, hB1, hr1, hown1⟩ := H0.rel.get hg1
  rcases Nat.lt_or_ge i n with hlt | hge
  · -- in the middle
    generalize hN : n = N at hs
    cases hs with
    | sl0 => omega
    | sl h1 hcap hl hm =>
      rename_i b cap c
      subst hN
      generalize hone : (1 : Nat) = ONE at hx
      cases hx with
      | sl0 => omega
      | sl k1 kcap kl km =>
        rename_i vb vcap vc
        subst hone
        obtain ⟨B, hB, hr0, hown⟩ := H0.rel.get hg
        have eB : B = .blk b cap := by rw [h1] at hB; exact (Option.some.inj hB).symm
        have eB1 : B1 = .blk vb vcap := by rw [k1] at hB1; exact (Option.some.inj hB1).symm
        subst eB
        subst eB1
        rcases hr0 with ⟨q, _⟩ | ⟨b', cap', cur, ty, q, hb, hcz, hxl, hmx, hrel⟩
        · cases q
        rcases hr1 with ⟨q1, _⟩ | ⟨vb', vcap', varr, vty, q1, hvb, hvz, hvl, hvm, hvrel⟩
        · cases q1
        cases q
        cases q1
        rw [Nat.zero_add] at hcap kcap
        subst hcap
        subst kcap
        have hvs0 : LRel R [] (e.enc y) (varr.toList.take e.sz) := by simpa using hvrel
        obtain ⟨vs, hvs⟩ : ∃ vs, vs = varr.toList.take e.sz := ⟨_, rfl⟩
        rw [← hvs] at hvs0
        have hvlen : vs.length = e.sz := by rw [← hvs0.len, e.enc_len]
        have hone1 : ∀ v ∈ vs, v.oneCell' = true := lrel_one hvs0 (e.enc_cell y)
        have hcell : ∀ j v, vs[j]? = some v → w.cell? ⟨vb, 0 * e.sz + j, none⟩ = some v := fun j v hj => by
          rw [Nat.zero_mul, Nat.zero_add, cell_at hvb, ← Array.getElem?_toList]
          rw [hvs, List.getElem?_take] at hj
          split at hj
          · exact hj
          · cases hj
        have hcur1 : ∀ v ∈ cur.toList.take (n * e.sz), v.oneCell' = true := by
          rw [hn]
          exact lrel_one hrel (flat_cell e xs)
        have hbne : vb ≠ b := fun q => by
          subst q
          exact own_apart H0.nodup hne hg hB hg1 hB1 vb (by simp [ownC]) (by simp [ownC])
        have hvw : vb < w.heap.size := (Array.getElem?_eq_some_iff.1 hvb).1
        have hnew : ∀ row : Array Value, row.toList.take ((n + 1) * e.sz) = cur.toList.take (i * e.sz) ++ vs ++ (cur.toList.take (n * e.sz)).drop (i * e.sz) →
            LRel R [] ((xs.take i ++ y :: xs.drop i).flatMap e.enc) (row.toList.take ((xs.take i ++ y :: xs.drop i).length * e.sz)) := fun row hrow => by
          have hl1 : (xs.take i ++ y :: xs.drop i).length = n + 1 := by simp; omega
          rw [hl1, hrow, List.flatMap_append, List.flatMap_cons, ← List.append_assoc]
          have e1 : cur.toList.take (i * e.sz) = (cur.toList.take (n * e.sz)).take (i * e.sz) := by
            rw [List.take_take, Nat.min_eq_left (Nat.mul_le_mul_right _ hi)]
          rw [e1, flat_take, flat_drop, hn]
          exact ((hrel.take _).app hvs0).app (hrel.drop _)
        have hl1 : (xs.take i ++ y :: xs.drop i).length = n + 1 := by simp; omega
        rw [Nat.zero_mul] at *
        by_cases hroom : n + 1 ≤ c
        · refine (hS b n c vb 0 vc i cur ty vs w hlt hroom (by unfold maxLen at hm; omega) hbne hb hcz hcur1 hvlen (by simpa using hcell) hone1 vty varr.size (by simp [World.shape?, hvb]) (by simp [World.frozen?, hvb]) (by simp [World.frozen?, hvb])).mono ?_
          rintro e' w' ⟨rfl, row, hrow, hrz, rfl⟩
          obtain ⟨H1, hst⟩ := H0.move (c' := .rows e (xs.take i ++ y :: xs.drop i)) (B' := .blk b c) (w' := w.drew.setRow b row) hg hB (by simp [ownC]) (fun m _ hm => setRow_other w.drew b m _ (fun q => hm (by simp [ownC, q]))) (by simp)
            (.inr ⟨b, c, row, ty, rfl, setRow_heap w.drew b cur row ty (0, 0) hb, by rw [hrz, hcz], by rw [hl1]; exact hroom, hm, hnew row hrow⟩) rfl rfl rfl (Nat.le_succ _)
          refine ⟨_, R, _, _, _, rfl, H, ?_, H1, Ext.app _ _, hst⟩
          have h5 := Rel.sl (R := R) (μ := μ ++ [.blk b c]) (t := h.length) (e := e) (start := 0) (len := n + 1) (b := b) (cap := c) (c := c) (by rw [H0.rel.len]; simp) (by omega) hroom hm
          simpa using h5
        · refine (hG b n c vb 0 vc i cur ty vs w hlt (by omega) (by omega) ?_ hb hcz hcur1 hvlen hvw (by simpa using hcell) hone1).mono ?_
          · have := Nat.mul_le_mul (show n + 1 ≤ 1000000001 by omega) hby
            omega
          rintro e' w' ⟨G, row, rfl, hg1', hg2, hrow, hrz, hhp, hold, hws, q1, q2, q3, q4⟩
          have hgone := H0.set (c' := .gone) (w' := w) hg hB (gone_sub _ _) (fun _ _ _ => rfl) (Nat.le_refl _) trivial rfl rfl rfl
          obtain ⟨H1, hst⟩ := hgone.1.push (c := .rows e (xs.take i ++ y :: xs.drop i)) (B := .blk w.heap.size G) (w' := w') hold (by omega) (by simp [ownC]) (fun m hm => by simp [ownC] at hm; subst hm; exact ⟨Nat.le_refl _, by omega⟩)
            (.inr ⟨w.heap.size, G, row, E, rfl, hhp, hrz, by rw [hl1]; exact hg1', hg2, hnew row hrow⟩) q1 q2 q3 q4
          refine ⟨_, R, _, _, _, rfl, H, ?_, H1, Ext.app _ _, hgone.2.trans hst⟩
          have h5 := Rel.sl (R := R) (μ := μ ++ [.blk w.heap.size G]) (t := h.length) (e := e) (start := 0) (len := n + 1) (b := w.heap.size) (cap := G) (c := G) (by rw [H0.rel.len]; simp) (by omega) hg1' hg2
          simpa using h5
  · -- at the end
    obtain rfl : i = n := by omega
    have hK : appK P T T (.sl t e 0 i) (.sl u e 0 1) h (fun v h' => v = .sl h.length e 0 (i + 1) ∧ h' = h.set t .gone ++ [.rows e (xs ++ [y])]) := by
      unfold appK
      rw [hk]
      simp only [o, asE_self]
      refine ⟨⟨hsz, hzl⟩, hn, ?_⟩
      unfold appSrcK srcK
      simp only [o1, asE_self]
      refine ⟨by simp, by simp, ?_⟩
      rw [hn]
      refine ⟨⟨?_, ?_⟩, ?_⟩
      · have := Nat.mul_le_mul (show xs.length + ([y].drop 0 |>.take 1).length ≤ 1000000001 by simp; omega) hby
        unfold maxBytes
        omega
      · unfold maxBytes
        simp
        omega
      · simp
    have hfin : xs.take i ++ y :: xs.drop i = xs ++ [y] := by rw [hn, List.take_length, List.drop_length]
    rw [hfin] at H
    generalize hone : (1 : Nat) = ONE at hx
    cases hx with
    | sl0 => omega
    | sl k1 kcap kl km =>
      rename_i vb vcap vc
      subst hone
      have hx' : Rel R μ (.sl u e 0 1) (.slice (some ⟨vb, 0 * e.sz, none⟩) 1 vc) := .sl k1 kcap kl km
      generalize hN : i = N at hs
      cases hs with
      | sl0 h1 =>
        rename_i a
        rw [hN] at hK
        obtain ⟨v, w1, R', μ', h', av, hrun, ⟨rfl, rfl⟩, hrel, H1, hext, hst⟩ := appK_ok (ty := T) H0 (.sl0 h1) hx' hK
        subst hN
        refine (hE a 0 0 vb (0 * e.sz) vc v w w1 (Nat.le_refl _) (by omega) (fun _ => ⟨rfl, rfl⟩) hrun).mono ?_
        rintro e' w' ⟨rfl, rfl⟩
        exact ⟨_, R', μ', _, _, rfl, H, hrel, H1, hext, hst⟩
      | sl h1 hcap hl hm =>
        rename_i b cap c
        subst hN
        obtain ⟨v, w1, R', μ', h', av, hrun, ⟨rfl, rfl⟩, hrel, H1, hext, hst⟩ := appK_ok (ty := T) H0 (.sl h1 hcap hl hm) hx' hK
        refine (hE _ i c vb (0 * e.sz) vc v w w1 hl (by unfold maxLen at hm; omega) (fun q => by cases q) hrun).mono ?_
        rintro e' w' ⟨rfl, rfl⟩
        exact ⟨_, R', μ', _, _, rfl, H, hrel, H1, hext, hst⟩
theorem insS_prg (b n c vb vo vc i : Nat) (cur : Array Value) (ty : TypeId) (vs : List Value) (w : World) (hi : i < n) (hroom : n + 1 ≤ c) (hc63 : c ≤ 9223372036854775807) (hvb : vb ≠ b)
    (hb : w.heap[b]? = some (.cells cur ty (0, 0))) (hsz : cur.size = c * 7) (h1c : ∀ v ∈ cur.toList.take (n * 7), v.oneCell' = true)
    (hvl : vs.length = 7) (hvs : ∀ j v, vs[j]? = some v → w.cell? ⟨vb, vo + j, none⟩ = some v) (h1v : ∀ v ∈ vs, v.oneCell' = true)
    (tA : TypeId) (kA : Nat) (hsa : w.shape? vb = some (tA, kA)) (hfa : w.frozen? ⟨vb, vo, none⟩ = false) (hfe : w.frozen? ⟨vb, kA, none⟩ = false) :
    Calls Try.prog 31 #[.slice (some ⟨b, 0, none⟩) n c, .int .i64 i, .slice (some ⟨vb, vo, none⟩) 1 vc] w fun e w' => e = .returned (.slice (some ⟨b, 0, none⟩) (n + 1) c) ∧ ∃ row, row.toList.take ((n + 1) * 7) = cur.toList.take (i * 7) ++ vs ++ (cur.toList.take (n * 7)).drop (i * 7) ∧ row.size = cur.size ∧ w' = w.drew.setRow b row := by
  have hz1 : ¬ ((1 : Int) = 0) := by omega
  have hz2 : ¬ ((i : Int) = (n : Int)) := by omega
  have hw1 : IntKind.i64.wrap ((i : Int) + (1 : Int)) = (i : Int) + (1 : Int) := by rw [IntKind.wrap_i64]; omega
  have hb1 : (0 : Int) ≤ (i : Int) + (1 : Int) := by omega
  have hin : i ≤ n := by omega
  have htn : ((i : Int) + (1 : Int)).toNat = i + 1 := by omega
  have hb3 : (i : Int) ≤ (n : Int) + (1 : Int) := by omega
  have hb2 : ¬ (c = i + 1) := by omega
  have hb4 : ¬ (c = i) := by omega
  have hsz4 : (Try.prog.info? 65).map (·.size) = some 7 := by kernel_rfl
  have hu : Try.prog.underlying 59 = some (.slice 65) := Try.underlying59
  have hsb : ∃ tB kB, w.shape? b = some (tB, kB) ∧ kB ≠ 0 := by
    refine ⟨ty, cur.size, by simp [World.shape?, hb], by omega⟩
  obtain ⟨tB, kB, hsb, hkB⟩ := hsb
  have hov : ∀ lb cb, (callFunc 57 #[.slice (some ⟨vb, vo, none⟩) 1 vc, .slice (some ⟨b, (i + 1) * 7, none⟩) lb cb]).run Try.prog w = .ok (.value (.bool false)) w := fun lb cb => by
    rw [run_callFunc_extern Try.func57 (by kernel_rfl) (by kernel_rfl) (by kernel_rfl) (e := Extern.SlicesOverlaps.overlaps #[59, 59] #[4]) (by kernel_rfl),
      Lib.run_overlaps_apart w 59 4 65 hu 7 Try.sizeOf65 ⟨vb, vo, none⟩ ⟨b, (i + 1) * 7, none⟩ 1 vc lb cb hvb tA tB kA kB hsa hsb hkB hfa hfe]
    rfl
  have mixed := mixed
  obtain ⟨cs, hcs⟩ : ∃ cs, cs = (cur.toList.take (n * 7)).drop (i * 7) := ⟨_, rfl⟩
  have hcl : cs.length = (n - i) * 7 := by
    rw [hcs, List.length_drop, List.length_take, Array.length_toList, hsz, Nat.min_eq_left (Nat.mul_le_mul_right _ (by omega)), Nat.sub_mul]
  have hg1 : w.drew.heap[b]? = some (.cells cur ty (0, 0)) := hb
  obtain ⟨r1, hr1⟩ : ∃ r1, r1 = (cur.toList.take ((i + 1) * 7) ++ cs ++ cur.toList.drop ((i + 1) * 7 + cs.length)).toArray := ⟨_, rfl⟩
  have hcp1 : ∀ ty' dc sc, (Builtin.copy_ #[59, 59] ty' #[.slice (some ⟨b, (i + 1) * 7, none⟩) (n - i) dc, .slice (some ⟨b, i * 7, none⟩) (n + 1 - i) sc]).run Try.prog w.drew = .ok (goInt (Nat.min (n + 1 - i) (n - i))) (w.drew.setRow b r1) := fun ty' dc sc => by
    rw [hr1]
    refine run_copy_rowK _ w.drew _ _ ty' 65 b ((i + 1) * 7) (n - i) dc ⟨b, i * 7, none⟩ (n + 1 - i) sc cur ty cs 7 hu hsz4 hg1 ?_ ?_ ?_ ?_
    · rw [hcl, show Nat.min (n + 1 - i) (n - i) = n - i by simp only [Nat.min_def]; split <;> omega]
    · intro j v hj
      rw [Addr.add_lit]
      rw [hcs, List.getElem?_drop] at hj
      have hlt : i * 7 + j < n * 7 := by
        rcases Nat.lt_or_ge (i * 7 + j) (n * 7) with q | q
        · exact q
        · rw [List.getElem?_take_eq_none q] at hj; cases hj
      rw [List.getElem?_take_of_lt hlt] at hj
      simp only [World.cell?, hg1]
      simpa using hj
    · rw [hcl, hsz]; omega
    · intro v hv
      rw [hcs] at hv
      exact h1c v (List.mem_of_mem_drop hv)
  have hg2 : (w.drew.setRow b r1).heap[b]? = some (.cells r1 ty (0, 0)) := setRow_heap _ _ _ _ _ _ hg1
  have hr1z : r1.size = cur.size := by
    rw [hr1]
    simp only [List.size_toArray, List.length_append, List.length_take, List.length_drop, Array.length_toList, hcl, hsz]
    omega
  obtain ⟨r2, hr2⟩ : ∃ r2, r2 = (r1.toList.take (i * 7) ++ vs ++ r1.toList.drop (i * 7 + vs.length)).toArray := ⟨_, rfl⟩
  have hcp2 : ∀ ty' dc, (Builtin.copy_ #[59, 59] ty' #[.slice (some ⟨b, i * 7, none⟩) (n + 1 - i) dc, .slice (some ⟨vb, vo, none⟩) 1 vc]).run Try.prog (w.drew.setRow b r1) = .ok (goInt (Nat.min 1 (n + 1 - i))) (w.drew.setRow b r2) := fun ty' dc => by
    rw [← setRow_setRow w.drew b r1 r2, hr2]
    refine run_copy_rowK _ _ _ _ ty' 65 b (i * 7) (n + 1 - i) dc ⟨vb, vo, none⟩ 1 vc r1 ty vs 7 hu hsz4 hg2 ?_ ?_ ?_ h1v
    · rw [hvl, show Nat.min 1 (n + 1 - i) = 1 by simp only [Nat.min_def]; split <;> omega, Nat.one_mul]
    · intro j v hj
      rw [Addr.add_lit]
      have q := hvs j v hj
      have e : (w.drew.setRow b r1).heap[vb]? = w.heap[vb]? := by rw [setRow_other _ _ _ _ hvb]; rfl
      simp only [World.cell?] at q ⊢
      rw [e]
      exact q
    · rw [hvl, hr1z, hsz]; omega
  have hz2r : r2.size = cur.size := by
    rw [hr2]
    simp only [List.size_toArray, List.length_append, List.length_take, List.length_drop, Array.length_toList, hvl, hr1z, hsz]
    omega
  have hfin : r2.toList.take ((n + 1) * 7) = cur.toList.take (i * 7) ++ vs ++ (cur.toList.take (n * 7)).drop (i * 7) := by
    rw [← hcs, hr2, hr1]
    simp only []
    exact ins_list (by rw [Array.length_toList, hsz]; exact Nat.mul_le_mul_right _ hroom) (Nat.mul_le_mul_right _ hin) hcl hvl
  clear hr1 hr2 hcs
  go_enter Try.func31, Try.ntmps31
  go_wp2_with (simp only [hov])
  go_region_law_o (refine step_copy_runI rfl _ _ 59 59 rfl _ _ (by simp [Act.eval, Act.put]) (by simp [Act.eval, Act.put]) (hcp1 _ _ _) ?_)
  go_wp2_with (at_builtin; refine wpList_copy_runI _ rfl _ _ 59 59 rfl _ _ rfl rfl (hcp2 _ _) ?_)
  go_ret
  exact ⟨rfl, r2, hfin, hz2r, rfl⟩
theorem insG_prg (b n c vb vo vc i : Nat) (cur : Array Value) (ty : TypeId) (vs : List Value) (w : World) (hi : i < n) (hnc : n ≤ c) (hroom : c < n + 1) (hbig : (n + 1) * 72 ≤ 140737488355328)
    (hb : w.heap[b]? = some (.cells cur ty (0, 0))) (hsz : cur.size = c * 7) (h1c : ∀ v ∈ cur.toList.take (n * 7), v.oneCell' = true)
    (hvl : vs.length = 7) (hvw : vb < w.heap.size) (hvs : ∀ j v, vs[j]? = some v → w.cell? ⟨vb, vo + j, none⟩ = some v) (h1v : ∀ v ∈ vs, v.oneCell' = true) :
    Calls Try.prog 31 #[.slice (some ⟨b, 0, none⟩) n c, .int .i64 i, .slice (some ⟨vb, vo, none⟩) 1 vc] w fun e w' => ∃ G row, e = .returned (.slice (some ⟨w.heap.size, 0, none⟩) (n + 1) G) ∧ n + 1 ≤ G ∧ G ≤ maxLen ∧
      row.toList.take ((n + 1) * 7) = cur.toList.take (i * 7) ++ vs ++ (cur.toList.take (n * 7)).drop (i * 7) ∧ row.size = G * 7 ∧ w'.heap[w.heap.size]? = some (.cells row 65 (0, 0)) ∧
      (∀ m, m < w.heap.size → w'.heap[m]? = w.heap[m]?) ∧ w'.heap.size = w.heap.size + 1 ∧ w'.os = w.os ∧ w'.tape = w.tape ∧ w'.output = w.output ∧ w.drawn ≤ w'.drawn := by
  have mixed := mixed
  obtain ⟨i0, z, hi0, hz0, hzs⟩ := zero_info (P := Try.prog) (el := 65) (e := .prg) (by unfold zlenT; rw [ze_65]; rfl)
  have hib : i0.bytes = 72 := by
    have q := by_65
    unfold bytesT at q
    rw [hi0] at q
    exact q
  have hsz4 : (Try.prog.info? 65).map (·.size) = some 7 := by kernel_rfl
  have his : i0.size = 7 := by rw [hi0] at hsz4; simpa using hsz4
  have hzs : z.cells.size = 7 := hzs
  have hu : Try.prog.underlying 59 = some (.slice 65) := Try.underlying59
  have hz1 : ¬ ((1 : Int) = 0) := by omega
  have hz2 : ¬ ((i : Int) = (n : Int)) := by omega
  have hz3 : (c : Int) < (n : Int) + (1 : Int) := by omega
  have hbw : b < w.heap.size := (Array.getElem?_eq_some_iff.1 hb).1
  have hkk : (n : Int) + (1 : Int) - (i : Int) = ((n + 1 - i : Nat) : Int) := by omega
  have hik : i + (n + 1 - i) = n + 1 := by omega
  have hcn : c = n := by omega
  have hink : i * 7 ≤ n * 7 := Nat.mul_le_mul_right _ (by omega)
  have hold : (Builtin.firstCells i0.size i (.slice (some ⟨b, 0, none⟩) i c)).run Try.prog w.drew = .ok (cur.toList.take (i * 7)).toArray w.drew := by
    rw [his]
    refine run_firstCells_some w.drew 7 i ⟨b, 0, none⟩ i c (cur.toList.take (i * 7)) (by rw [List.length_take, Array.length_toList, hsz]; omega) fun j v hj => ?_
    rw [addr_add, Nat.zero_add]
    show w.cell? _ = _
    rw [cell_at hb, ← Array.getElem?_toList]
    rw [List.getElem?_take] at hj
    split at hj
    · exact hj
    · simp at hj
  obtain ⟨G, hG⟩ : ∃ G, G = grownCap w (n + 1) c 65 := ⟨_, rfl⟩
  obtain ⟨ROW, hROW⟩ : ∃ ROW : Array Value, ROW = (cur.toList.take (i * 7)).toArray ++ Builtin.zeroCells z.cells (n + 1 - i) ++ Builtin.zeroCells z.cells (G - (n + 1)) := ⟨_, rfl⟩
  have hrz : ∀ ty', (Builtin.append_ #[59, 3] ty' #[.slice (some ⟨b, 0, none⟩) i c, .int .i64 ((n : Int) + (1 : Int) - (i : Int))]).run Try.prog w =
      .ok (.slice (some ⟨w.heap.size, 0, none⟩) (n + 1) G) (w.drew.alloc (.cells ROW 65)) := fun ty' => by
    have h := Lib.run_append_grow_zeros w 59 3 ty' 65 i0 z .i64 .i64 hu Try.underlying3 hi0 hz0 (some ⟨b, 0, none⟩) i c (cur.toList.take (i * 7)) hold (n + 1 - i) (by omega) (by omega) (by omega) (by omega) (by rw [hib]; omega) (by rw [hib, hik]; exact growslice_fits hroom hbig)
    rw [hik, ← hG, ← hROW] at h
    rw [hkk]
    exact h
  have hGn : n + 1 ≤ G := by rw [hG]; exact grownCap_ge w _ _ _
  have hGM : G ≤ maxLen := by rw [hG]; exact grownCap_le_maxLen w _ _ _ (by unfold maxLen; omega)
  have hG63 : G ≤ 9223372036854775807 := by unfold maxLen at hGM; omega
  have hRl : ROW.size = G * 7 := by
    rw [hROW]
    simp only [Array.size_append, List.size_toArray, List.length_take, Array.length_toList, Builtin.zeroCells, Array.size_map, Array.size_range, hzs, hsz]
    omega
  obtain ⟨cs, hcs⟩ : ∃ cs, cs = (cur.toList.take (n * 7)).drop (i * 7) := ⟨_, rfl⟩
  have hcl : cs.length = (n - i) * 7 := by
    rw [hcs, List.length_drop, List.length_take, Array.length_toList, hsz, Nat.min_eq_left (Nat.mul_le_mul_right _ (by omega)), Nat.sub_mul]
  obtain ⟨r1, hr1⟩ : ∃ r1, r1 = (ROW.toList.take (i * 7) ++ vs ++ ROW.toList.drop (i * 7 + vs.length)).toArray := ⟨_, rfl⟩
  obtain ⟨r2, hr2⟩ : ∃ r2, r2 = (r1.toList.take ((i + 1) * 7) ++ cs ++ r1.toList.drop ((i + 1) * 7 + cs.length)).toArray := ⟨_, rfl⟩
  have hr1z : r1.size = G * 7 := by
    rw [hr1]
    simp only [List.size_toArray, List.length_append, List.length_take, List.length_drop, Array.length_toList, hvl, hRl]
    omega
  have hr2z : r2.size = G * 7 := by
    rw [hr2]
    simp only [List.size_toArray, List.length_append, List.length_take, List.length_drop, Array.length_toList, hcl, hr1z]
    omega
  obtain ⟨N, hN⟩ : ∃ N, N = w.heap.size := ⟨_, rfl⟩
  have hcpA : ∀ (W : World), W.heap = (w.alloc (.cells ROW 65)).heap → ∀ ty' dc, (Builtin.copy_ #[59, 59] ty' #[.slice (some ⟨w.heap.size, i * 7, none⟩) (n + 1 - i) dc, .slice (some ⟨vb, vo, none⟩) 1 vc]).run Try.prog W = .ok (goInt (Nat.min 1 (n + 1 - i))) (W.setRow w.heap.size r1) := fun W hW ty' dc => by
    have hg : W.heap[w.heap.size]? = some (.cells ROW 65 (0, 0)) := by rw [hW]; exact heap_alloc_new w _
    rw [hr1]
    refine run_copy_rowK _ W _ _ ty' 65 w.heap.size (i * 7) (n + 1 - i) dc ⟨vb, vo, none⟩ 1 vc ROW 65 vs 7 hu hsz4 hg ?_ ?_ ?_ h1v
    · rw [hvl, show Nat.min 1 (n + 1 - i) = 1 by simp only [Nat.min_def]; split <;> omega, Nat.one_mul]
    · intro j v hj
      rw [Addr.add_lit]
      have q := hvs j v hj
      have e : W.heap[vb]? = w.heap[vb]? := by rw [hW]; exact RowKit.Below.heap_alloc w _ vb hvw
      simp only [World.cell?] at q ⊢
      rw [e]
      exact q
    · rw [hvl, hRl]; omega
  have hcpB : ∀ (W : World), W.heap = ((w.alloc (.cells ROW 65)).setRow w.heap.size r1).heap → ∀ ty' dc sc, (Builtin.copy_ #[59, 59] ty' #[.slice (some ⟨w.heap.size, (i + 1) * 7, none⟩) (n - i) dc, .slice (some ⟨b, i * 7, none⟩) (n - i) sc]).run Try.prog W = .ok (goInt (Nat.min (n - i) (n - i))) (W.setRow w.heap.size r2) := fun W hW ty' dc sc => by
    have hg : W.heap[w.heap.size]? = some (.cells r1 65 (0, 0)) := by rw [hW]; exact setRow_heap _ _ _ _ _ _ (heap_alloc_new w _)
    rw [hr2]
    refine run_copy_rowK _ W _ _ ty' 65 w.heap.size ((i + 1) * 7) (n - i) dc ⟨b, i * 7, none⟩ (n - i) sc r1 65 cs 7 hu hsz4 hg ?_ ?_ ?_ ?_
    · rw [hcl, show Nat.min (n - i) (n - i) = n - i by simp only [Nat.min_def]; split <;> omega]
    · intro j v hj
      rw [Addr.add_lit]
      rw [hcs, List.getElem?_drop] at hj
      have hlt : i * 7 + j < n * 7 := by
        rcases Nat.lt_or_ge (i * 7 + j) (n * 7) with q | q
        · exact q
        · rw [List.getElem?_take_eq_none q] at hj; cases hj
      rw [List.getElem?_take_of_lt hlt] at hj
      have e : W.heap[b]? = w.heap[b]? := by
        rw [hW, setRow_other _ _ _ _ (by omega)]; exact RowKit.Below.heap_alloc w _ b hbw
      simp only [World.cell?, e, hb]
      simpa using hj
    · rw [hcl, hr1z]; omega
    · intro v hv
      rw [hcs] at hv
      exact h1c v (List.mem_of_mem_drop hv)
  have hfin : r2.toList.take ((n + 1) * 7) = cur.toList.take (i * 7) ++ vs ++ (cur.toList.take (n * 7)).drop (i * 7) := by
    rw [← hcs, hr2, hr1, hROW]
    exact insG_list (by rw [List.length_take, Array.length_toList, hsz]; omega) hvl (by rw [hcl]; omega)
  clear hkk hik hold hROW hG hRl hr1 hr2 hcs hcn hink
  have hin : i ≤ n := by omega
  have hw1 : IntKind.i64.wrap ((i : Int) + (1 : Int)) = (i : Int) + (1 : Int) := by rw [IntKind.wrap_i64]; omega
  have hb1 : (0 : Int) ≤ (i : Int) + (1 : Int) := by omega
  have htn : ((i : Int) + (1 : Int)).toNat = i + 1 := by omega
  have hb3 : (i : Int) ≤ (n : Int) := by omega
  have hGi : ¬ (G = i) := by omega
  have hGim : ¬ (G = i + 1) := by omega
  have hci : ¬ (c = i) := by omega
  have hbN : b ≠ w.heap.size := by omega
  have hA := hcpA ((w.alloc (.cells ROW 65)).drew) rfl
  have hB := hcpB (((w.alloc (.cells ROW 65)).drew.setRow w.heap.size r1).drew) rfl
  clear hcpA hcpB
  go_enter Try.func31, Try.ntmps31
  go_wp2_with (first
    | (at_builtin; refine Lib.wpList_append_run _ rfl _ _ _ _ rfl _ _ rfl rfl _ _ (hrz _) ?_)
    | (at_builtin; refine wpList_copy_runI _ rfl _ _ 59 59 rfl _ _ rfl rfl (hA _ _) ?_))
  go_region_law_o (refine step_copy_runI rfl _ _ 59 59 rfl (.slice (some ⟨w.heap.size, (i + 1) * 7, none⟩) (n - i) (G - (i + 1))) (.slice (some ⟨b, i * 7, none⟩) (n - i) (c - i)) (by simp [Act.eval, Act.put]) (by simp [Act.eval, Act.put]) (hB 3 (G - (i + 1)) (c - i)) ?_)
  go_wp2
  go_ret
  refine ⟨G, r2, rfl, hGn, hGM, hfin, hr2z, ?_, fun m hm => ?_, ?_, rfl, rfl, rfl, ?_⟩
  · exact setRow_heap _ _ r1 _ _ _ (setRow_heap _ _ ROW _ _ _ (heap_alloc_new w _))
  · rw [setRow_other _ _ _ _ (by omega)]
    show ((w.alloc (.cells ROW 65)).setRow w.heap.size r1).heap[m]? = _
    rw [setRow_other _ _ _ _ (by omega)]
    exact RowKit.Below.heap_alloc w _ m hm
  · simp
  · simp; omega
theorem insE_prg (s : Option Addr) (n c vb vo vc : Nat) (v : Value) (w w1 : World) (hnc : n ≤ c) (hc63 : c ≤ 9223372036854775807) (hnil : s = none → n = 0 ∧ c = 0)
    (hrun : (Builtin.append_ #[59, 59] 59 #[.slice s n c, .slice (some ⟨vb, vo, none⟩) 1 vc]).run Try.prog w = .ok v w1) :
    Calls Try.prog 31 #[.slice s n c, .int .i64 n, .slice (some ⟨vb, vo, none⟩) 1 vc] w fun e w' => e = .returned v ∧ w' = w1 := by
  have mixed := mixed
  have hz1 : ¬ ((1 : Int) = 0) := by omega
  go_enter Try.func31, Try.ntmps31
  cases s with
  | none =>
    obtain ⟨rfl, rfl⟩ := hnil rfl
    go_wp2_with (at_builtin; refine Lib.wpList_append_run _ rfl _ _ _ _ rfl _ _ rfl rfl _ _ hrun ?_)
    go_ret
    exact ⟨rfl, rfl⟩
  | some a =>
    obtain ⟨ab, ao, asp⟩ := a
    go_wp2_with (at_builtin; refine Lib.wpList_append_run _ rfl _ _ _ _ rfl _ _ rfl rfl _ _ hrun ?_)
    all_goals (go_ret; exact ⟨rfl, rfl⟩)
theorem c_ins_prg {h : List Ch} {K : KT} {t u n : Nat} {xs : List Prg} {y : Prg} {i : Nat} (H : K (.sl h.length .prg 0 (n + 1)) (h.set t .gone ++ [.rows .prg (xs.take i ++ y :: xs.drop i)])) (o : hth h t = .rows .prg xs) (o1 : hth h u = .rows .prg [y]) (s1 : n = xs.length) (s2 : i ≤ n) (s3 : xs.length ≤ 1000000000) (s4 : t ≠ u) : Does Try.prog 31 [.sl t .prg 0 n, .int .i64 (i : Int), .sl u .prg 0 1] h K :=
  ins_ok (e := .prg) ⟨_, fn_31, rfl, rfl⟩ (T := 59) (E := 65) kd_59 sz_65 (by unfold zlenT; rw [ze_65]; rfl) (by rw [by_65]; decide) insE_prg insS_prg (by rw [by_65]; exact insG_prg) s1 s2 s3 s4 o o1 H
abbrev i_ins_prg := Ctr.mk (i := 0) (g := 31) @c_ins_prg
attribute [instance] i_ins_prg
end Go.V
