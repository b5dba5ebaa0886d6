/-
  schedule: Restore.
  The specification of the schedule: New, clock, off, before, insert, Insert.
-/
import Derived.Test.YtnhhgmoadpiklaaPart17
set_option linter.unusedVariables false
set_option linter.unusedSimpArgs false
set_option maxRecDepth 100000
set_option maxHeartbeats 8000000
namespace Go.V
open Go.Proofs
abbrev capS (most : Int) : Int := min (max most 0) 256
def nxtE (l : List Ent) : Int := l.foldl (fun n x => max n (x.id + 1)) 1
theorem b_srst (most : Int) (l : List Ent) (hl : l.length ≤ 1000000) (hs : smallE l) (hc : chkE l (capS most) = 0) (hn : (l.map (·.id)).Nodup) (hid : ∀ x ∈ l, 1 ≤ x.id ∧ x.id ≤ 2147483648) : DoesK Try.prog 0 24 [.int .i64 most, .ro .ent l] []
    (EndF 0 (.tup [.ptr 0 0, .int .i64 0]) [.pack (ScO (capS most) 0 (nxtE l) off0 (srtE l))]) := by
  refine DoesK.close ?_
  refine w_body (rs := [.tmp 4, .tmp 5]) (tm := [.int .i64 most, .ro .ent l, .any, .any, .any, .any, .any, .any, .any, .any, .any, .any, .any, .any, .any, .any, .any, .any, .any, .any, .any, .any, .any, .any, .any, .any, .any, .any, .any, .any, .any, .any, .any, .any, .any, .any, .any, .any, .any, .any, .any, .any, .any, .any, .any, .any, .any, .any, .any, .any, .any, .any, .any, .any, .any, .any]) fn_24 rfl rfl rfl rfl fun R hR => ?_
  (have zx1 := @hc; all_goals (try ((first | (with_reducible refine wp_id ?_) | (with_reducible refine does_id ?_) | (with_reducible refine ops_id ?_)); refine walk ?_; (repeat' (first | exact trivial | with_reducible refine And.intro ?_ ?_)); all_goals (repeat (first | (with_reducible refine ImpB.mk fun hb => ?_) | (with_reducible refine ImpK.mk fun hK => ?_) | (with_reducible refine ImpF.mk fun hF => ?_) | (with_reducible refine ImpQ.mk fun hp => ?_) | (with_reducible refine AllE.mk fun p => ?_) | (with_reducible refine AllR.mk fun rest => ?_) | (with_reducible refine AllK.mk fun K => ?_))))); repeat' (with_reducible refine And.intro ?_ ?_))
  any_goals exact fun x hx => (hs x hx).1
  any_goals ((try (refine w_seq fun K hK => ?_)); (try (refine w_block ?_)); refine w_loop (A := Nat × List Ent) (fun p => p.2 = l.take p.1 ∧ p.1 ≤ l.length) (fun p => l.length - p.1) (fun p => [(23, .int .i64 p.1)]) (fun p => [(0, .cells (scC (capS most) 0 (nxtE p.2) off0 1 p.2.length)), (1, .rows .ent p.2)]) ((0, [])) (ws := ?ws1) (tk := ?tk1) ?hw1 ?ht1 ?hi ?h0 ?LH1; (case hw1 => simp only [go_sem, decide_true, decide_false, Int.reduceToNat, Nat.min_eq_left, Nat.min_eq_right, Int.reducePow, Nat.reducePow, Int.reduceLE, Int.reduceLT, Int.reduceMul, Int.reduceAdd, Int.reduceSub, Int.reduceNeg, Bool.not_true, Bool.not_false, Bool.not_not, ↓reduceIte, Nat.reduceAdd, Nat.reduceSub, Nat.reduceMul, Nat.reduceEqDiff, reduceCtorEq, Nat.reduceLT, Nat.reduceLeDiff, Nat.reduceGT]; exact rfl); (case ht1 => simp only [go_sem, decide_true, decide_false, Int.reduceToNat, Nat.min_eq_left, Nat.min_eq_right, Int.reducePow, Nat.reducePow, Int.reduceLE, Int.reduceLT, Int.reduceMul, Int.reduceAdd, Int.reduceSub, Int.reduceNeg, Bool.not_true, Bool.not_false, Bool.not_not, ↓reduceIte, Nat.reduceAdd, Nat.reduceSub, Nat.reduceMul, Nat.reduceEqDiff, reduceCtorEq, Nat.reduceLT, Nat.reduceLeDiff, Nat.reduceGT]; exact rfl); (case' LH1 => rintro ⟨k, acc⟩ E t hx hE ht; simp only [go_sem] at ht; subst ht; simp only [go_sem]; try dsimp only at hx))
  case LH1 =>
    obtain ⟨ha, hk⟩ := hx
    have hal : acc.length = k := by rw [ha, List.length_take]; omega
    by_cases c1 : k < l.length
    · have d1 : decide ((k : Int) < (l.length : Int)) = true := decide_eq_true (by omega)
      have hsm := smallE_at hs c1
      have hst := take_ent c1
      have hi := hid (eAt l k) (by rw [eAt_eq c1]; exact List.getElem_mem c1)
      have hw : IntKind.i64.wrap ((k : Int) + 1) = ((k + 1 : Nat) : Int) := wrap_i64 _ (by omega) (by omega)
      have hw1 : IntKind.i64.wrap ((eAt l k).id + 1) = (eAt l k).id + 1 := wrap_i64 _ (by omega) (by omega)
      have hnx : nxtE (acc ++ [eAt l k]) = max (nxtE acc) ((eAt l k).id + 1) := by unfold nxtE; rw [List.foldl_append]; rfl
      (have zx1 := @d1; have zx2 := @hw; have zx3 := @hw1; all_goals (try ((first | (with_reducible refine wp_id ?_) | (with_reducible refine does_id ?_) | (with_reducible refine ops_id ?_)); refine walk ?_; (repeat' (first | exact trivial | with_reducible refine And.intro ?_ ?_)); all_goals (repeat (first | (with_reducible refine ImpB.mk fun hb => ?_) | (with_reducible refine ImpK.mk fun hK => ?_) | (with_reducible refine ImpF.mk fun hF => ?_) | (with_reducible refine ImpQ.mk fun hp => ?_) | (with_reducible refine AllE.mk fun p => ?_) | (with_reducible refine AllR.mk fun rest => ?_) | (with_reducible refine AllK.mk fun K => ?_))))); repeat' (with_reducible refine And.intro ?_ ?_))
      (all_goals first | exact Int.natCast_nonneg _ | exact Int.ofNat_lt.2 (by assumption) | assumption | omega | exact Nat.le_refl _ | (exfalso; simp at hb; done) | (simp only [go_sem, decide_true, decide_false, Int.reduceToNat, Nat.min_eq_left, Nat.min_eq_right, Int.reducePow, Nat.reducePow, Int.reduceLE, Int.reduceLT, Int.reduceMul, Int.reduceAdd, Int.reduceSub, Int.reduceNeg, Bool.not_true, Bool.not_false, Bool.not_not, ↓reduceIte, Nat.reduceAdd, Nat.reduceSub, Nat.reduceMul, Nat.reduceEqDiff, reduceCtorEq, Nat.reduceLT, Nat.reduceLeDiff, Nat.reduceGT]; done) | (unfold capM; omega) | (simp only [List.length_drop, List.length_take, List.length_append, List.length_cons, List.length_nil]; omega) | skip)
      · refine ⟨(k + 1, acc ++ [eAt l k]), ⟨⟨by rw [hst, ← ha], c1⟩, by dsimp only; omega⟩, ?_⟩
        (focus (refine ⟨_, _, Gh.refl, [0, 4], rfl, ?_⟩; (refine ⟨?_, ?_, ?_⟩ <;> simp only [go_sem, List.range, List.range.loop, List.nodup_cons, List.nodup_nil, List.mem_cons, List.not_mem_nil, or_false, or_self, decide_true, decide_false, Int.reduceToNat, Nat.min_eq_left, Nat.min_eq_right, Int.reducePow, Nat.reducePow, Int.reduceLE, Int.reduceLT, Int.reduceMul, Int.reduceAdd, Int.reduceSub, Int.reduceNeg, Bool.not_true, Bool.not_false, Bool.not_not, ↓reduceIte, Nat.reduceAdd, Nat.reduceSub, Nat.reduceMul, Nat.reduceEqDiff, reduceCtorEq, Nat.reduceLT, Nat.reduceLeDiff, Nat.reduceGT]); (try any_goals (refine ⟨?_, ?_⟩)); (try any_goals (with_reducible rfl))))
        all_goals first | exact hnx | exact hnx.symm
      · exact hsm.1
      · exact hsm.2
    · have d1 : decide ((k : Int) < (l.length : Int)) = false := decide_eq_false (by omega)
      have hacc : acc = l := by rw [ha]; exact List.take_of_length_le (by omega)
      subst hacc
      (have zx1 := @d1; all_goals (try ((first | (with_reducible refine wp_id ?_) | (with_reducible refine does_id ?_) | (with_reducible refine ops_id ?_)); refine walk ?_; (repeat' (first | exact trivial | with_reducible refine And.intro ?_ ?_)); all_goals (repeat (first | (with_reducible refine ImpB.mk fun hb => ?_) | (with_reducible refine ImpK.mk fun hK => ?_) | (with_reducible refine ImpF.mk fun hF => ?_) | (with_reducible refine ImpQ.mk fun hp => ?_) | (with_reducible refine AllE.mk fun p => ?_) | (with_reducible refine AllR.mk fun rest => ?_) | (with_reducible refine AllK.mk fun K => ?_))))); repeat' (with_reducible refine And.intro ?_ ?_))
      (focus (refine ⟨_, _, Gh.refl, [0], rfl, ?_⟩; (refine ⟨?_, ?_, ?_⟩ <;> simp only [go_sem, List.range, List.range.loop, List.nodup_cons, List.nodup_nil, List.mem_cons, List.not_mem_nil, or_false, or_self, decide_true, decide_false, Int.reduceToNat, Nat.min_eq_left, Nat.min_eq_right, Int.reducePow, Nat.reducePow, Int.reduceLE, Int.reduceLT, Int.reduceMul, Int.reduceAdd, Int.reduceSub, Int.reduceNeg, Bool.not_true, Bool.not_false, Bool.not_not, ↓reduceIte, Nat.reduceAdd, Nat.reduceSub, Nat.reduceMul, Nat.reduceEqDiff, reduceCtorEq, Nat.reduceLT, Nat.reduceLeDiff, Nat.reduceGT]); (try any_goals (refine ⟨?_, ?_⟩)); (try any_goals (with_reducible rfl))))
  · exact ⟨rfl, Nat.zero_le _⟩
  · (focus (refine ⟨_, _, Gh.refl, [0, 1], rfl, ?_⟩; (refine ⟨?_, ?_, ?_⟩ <;> simp only [go_sem, List.range, List.range.loop, List.nodup_cons, List.nodup_nil, List.mem_cons, List.not_mem_nil, or_false, or_self, decide_true, decide_false, Int.reduceToNat, Nat.min_eq_left, Nat.min_eq_right, Int.reducePow, Nat.reducePow, Int.reduceLE, Int.reduceLT, Int.reduceMul, Int.reduceAdd, Int.reduceSub, Int.reduceNeg, Bool.not_true, Bool.not_false, Bool.not_not, ↓reduceIte, Nat.reduceAdd, Nat.reduceSub, Nat.reduceMul, Nat.reduceEqDiff, reduceCtorEq, Nat.reduceLT, Nat.reduceLeDiff, Nat.reduceGT]); (try any_goals (refine ⟨?_, ?_⟩)); (try any_goals (with_reducible rfl))))
    rfl
theorem b_srstF (most : Int) (l : List Ent) (hl : l.length ≤ 1000000) (hs : smallE l) (hc : ¬ chkE l (capS most) = 0) : DoesK Try.prog 0 24 [.int .i64 most, .ro .ent l] []
    (EndF 0 (.tup [.lit (.pointer none), .int .i64 (chkE l (capS most))]) []) := by
  refine DoesK.close ?_
  have hd : decide (chkE l (min (max most 0) 256) = 0) = false := decide_eq_false hc
  refine w_body (rs := [.tmp 4, .tmp 5]) (tm := [.int .i64 most, .ro .ent l, .any, .any, .any, .any, .any, .any, .any, .any, .any, .any, .any, .any, .any, .any, .any, .any, .any, .any, .any, .any, .any, .any, .any, .any, .any, .any, .any, .any, .any, .any, .any, .any, .any, .any, .any, .any, .any, .any, .any, .any, .any, .any, .any, .any, .any, .any, .any, .any, .any, .any, .any, .any, .any, .any]) fn_24 rfl rfl rfl rfl fun R hR => ?_
  (have zx1 := @hd; all_goals (try ((first | (with_reducible refine wp_id ?_) | (with_reducible refine does_id ?_) | (with_reducible refine ops_id ?_)); refine walk ?_; (repeat' (first | exact trivial | with_reducible refine And.intro ?_ ?_)); all_goals (repeat (first | (with_reducible refine ImpB.mk fun hb => ?_) | (with_reducible refine ImpK.mk fun hK => ?_) | (with_reducible refine ImpF.mk fun hF => ?_) | (with_reducible refine ImpQ.mk fun hp => ?_) | (with_reducible refine AllE.mk fun p => ?_) | (with_reducible refine AllR.mk fun rest => ?_) | (with_reducible refine AllK.mk fun K => ?_))))); repeat' (with_reducible refine And.intro ?_ ?_))
  · (focus (refine ⟨_, _, Gh.refl, [], rfl, ?_⟩; (refine ⟨?_, ?_, ?_⟩ <;> simp only [go_sem, List.range, List.range.loop, List.nodup_cons, List.nodup_nil, List.mem_cons, List.not_mem_nil, or_false, or_self, decide_true, decide_false, Int.reduceToNat, Nat.min_eq_left, Nat.min_eq_right, Int.reducePow, Nat.reducePow, Int.reduceLE, Int.reduceLT, Int.reduceMul, Int.reduceAdd, Int.reduceSub, Int.reduceNeg, Bool.not_true, Bool.not_false, Bool.not_not, ↓reduceIte, Nat.reduceAdd, Nat.reduceSub, Nat.reduceMul, Nat.reduceEqDiff, reduceCtorEq, Nat.reduceLT, Nat.reduceLeDiff, Nat.reduceGT]); (try any_goals (refine ⟨?_, ?_⟩)); (try any_goals (with_reducible rfl))))
  · exact absurd hc (of_decide_eq_false hb)
  · exact fun x hx => (hs x hx).1
theorem c_srst {h : List Ch} {K : KT} {most : Int} {l : List Ent} (H : K (.tup [.ptr h.length 0, .int .i64 0]) (h ++ [.pack (ScO (capS most) 0 (nxtE l) off0 (srtE l))])) (e1 : chkE l (capS most) = 0) (s1 : l.length ≤ 1000000) (s2 : smallE l) (s3 : (l.map (·.id)).Nodup) (s4 : ∀ x ∈ l, 1 ≤ x.id ∧ x.id ≤ 2147483648) : Does Try.prog 24 [.int .i64 most, .ro .ent l] h K :=
  frame_new (b_srst most l s1 s2 e1 s3 s4) (br_cons br_int (br_cons br_ro br_nil)) (.inl rfl) (fun _ => rfl) (by simp [renA, renL, rhoC]) H
abbrev i_srst := Ctr.mk (i := 0) (g := 24) @c_srst
attribute [instance] i_srst
theorem c_srst_s {h : List Ch} {K : KT} {most : Int} {l : List Ent} {t n : Nat} (H : K (.tup [.ptr (frHs t .ent l (h.set t .gone)).length 0, .int .i64 0]) (frHs t .ent l (h.set t .gone) ++ [.pack (ScO (capS most) 0 (nxtE l) off0 (srtE l))])) (o : hth h t = .rows .ent l) (e1 : chkE l (capS most) = 0) (s1 : l.length ≤ 1000000) (s2 : smallE l) (s3 : (l.map (·.id)).Nodup) (s4 : ∀ x ∈ l, 1 ≤ x.id ∧ x.id ≤ 2147483648) (s5 : n = l.length) (s6 : frObH t .ent l.length h) : Does Try.prog 24 [.int .i64 most, .sl t .ent 0 n] h K := by
  subst s5
  refine Does.ghost (gh_frz (e := .ent) (xs := l) o ?_ s6) ?_
  · simp [frObL, frOb]
  · have e : frL t .ent l [.int .i64 most, .sl t .ent 0 l.length] = [.int .i64 most, .ro .ent l] := by simp [frL, frA]
    rw [e]
    exact c_srst H e1 s1 s2 s3 s4
abbrev i_srst_s := Ctr.mk (i := 1) (g := 24) @c_srst_s
attribute [instance] i_srst_s
theorem c_srstF {h : List Ch} {K : KT} {most : Int} {l : List Ent} {a : AV} (H : K (.tup [.lit (.pointer none), .int .i64 (chkE l (capS most))]) h) (b1 : brA [] h (.ro .ent l) a) (e1 : ¬ chkE l (capS most) = 0) (s1 : l.length ≤ 1000000) (s2 : smallE l) : Does Try.prog 24 [.int .i64 most, a] h K :=
  frame_pure (b_srstF most l s1 s2 e1) (br_cons br_int (br_cons b1 br_nil)) (.inr rfl) (fun _ => rfl) H
abbrev i_srstF := Ctr.mk (i := 2) (g := 24) @c_srstF
attribute [instance] i_srstF
end Go.V

set_option maxRecDepth 100000
set_option maxHeartbeats 8000000
namespace Go.V
open Go.Proofs
/-- the specification's schedule -/
def RS (most next now : Int) (l : List Ent) (off : List Int) : Ch := .cells [.int .i64 most, .int .i64 next, .int .i64 now, .ro .ent l, .ro .int off]
attribute [go_sem] RS
theorem fit_rs {most next now : Int} {l : List Ent} {off : List Int} (σ : List Nat) : fitC σ (RS most next now l off) (RS most next now l off) := by
  simp [RS, fitC, fitL, fitA, asE_self]
theorem b_rnew (most : Int) : DoesK Try.prog 0 13 [.int .i64 most] [] (EndF 0 (.agg [.int .i64 (capS most), .int .i64 1, .int .i64 0, .ro .ent [], .ro .int []]) []) := by
  refine DoesK.close ?_
  refine w_body (rs := [.cell 2 30]) (tm := [.int .i64 most, .any, .any, .any, .any, .any, .any]) fn_13 rfl rfl rfl rfl fun R hR => ?_
  (all_goals (try ((first | (with_reducible refine wp_id ?_) | (with_reducible refine does_id ?_) | (with_reducible refine ops_id ?_)); refine walk ?_; (repeat' (first | exact trivial | with_reducible refine And.intro ?_ ?_)); all_goals (repeat (first | (with_reducible refine ImpB.mk fun hb => ?_) | (with_reducible refine ImpK.mk fun hK => ?_) | (with_reducible refine ImpF.mk fun hF => ?_) | (with_reducible refine ImpQ.mk fun hp => ?_) | (with_reducible refine AllE.mk fun p => ?_) | (with_reducible refine AllR.mk fun rest => ?_) | (with_reducible refine AllK.mk fun K => ?_))))); repeat' (with_reducible refine And.intro ?_ ?_))
  (focus (refine ⟨_, _, Gh.refl, [], rfl, ?_⟩; (refine ⟨?_, ?_, ?_⟩ <;> simp only [go_sem, List.range, List.range.loop, List.nodup_cons, List.nodup_nil, List.mem_cons, List.not_mem_nil, or_false, or_self, decide_true, decide_false, Int.reduceToNat, Nat.min_eq_left, Nat.min_eq_right, Int.reducePow, Nat.reducePow, Int.reduceLE, Int.reduceLT, Int.reduceMul, Int.reduceAdd, Int.reduceSub, Int.reduceNeg, Bool.not_true, Bool.not_false, Bool.not_not, ↓reduceIte, Nat.reduceAdd, Nat.reduceSub, Nat.reduceMul, Nat.reduceEqDiff, reduceCtorEq, Nat.reduceLT, Nat.reduceLeDiff, Nat.reduceGT]); (try any_goals (refine ⟨?_, ?_⟩)); (try any_goals (with_reducible rfl))))
theorem c_rnew {h : List Ch} {K : KT} {most : Int} (H : K (.agg [.int .i64 (capS most), .int .i64 1, .int .i64 0, .ro .ent [], .ro .int []]) h) : Does Try.prog 13 [.int .i64 most] h K :=
  frame_pure (b_rnew most) (br_cons br_int br_nil) (.inl rfl) (fun _ => rfl) H
abbrev i_rnew := Ctr.mk (i := 0) (g := 13) @c_rnew
attribute [instance] i_rnew
theorem b_rclock (most next now n : Int) (l : List Ent) (off : List Int) : DoesK Try.prog 1 71 [.ptr 0 0, .int .i64 n] [RS most next now l off] (EndF 1 (.tup []) ([RS most next (passT now n) l off] ++ [])) := by
  refine DoesK.close ?_
  by_cases c1 : now < n
  · have d1 : decide (now < n) = true := decide_eq_true c1
    by_cases c2 : n ≤ 1099511627776
    · have d2 : decide (n ≤ 1099511627776) = true := decide_eq_true c2
      have e : passT now n = n := if_pos ⟨c1, c2⟩
      rw [e]
      refine w_body (rs := []) (tm := [.ptr 0 0, .int .i64 n, .any, .any, .any, .any, .any, .any, .any, .any, .any, .any, .any, .any, .any, .any, .any, .any]) fn_71 rfl rfl rfl rfl fun R hR => ?_
      (have zx1 := @d1; have zx2 := @d2; all_goals (try ((first | (with_reducible refine wp_id ?_) | (with_reducible refine does_id ?_) | (with_reducible refine ops_id ?_)); refine walk ?_; (repeat' (first | exact trivial | with_reducible refine And.intro ?_ ?_)); all_goals (repeat (first | (with_reducible refine ImpB.mk fun hb => ?_) | (with_reducible refine ImpK.mk fun hK => ?_) | (with_reducible refine ImpF.mk fun hF => ?_) | (with_reducible refine ImpQ.mk fun hp => ?_) | (with_reducible refine AllE.mk fun p => ?_) | (with_reducible refine AllR.mk fun rest => ?_) | (with_reducible refine AllK.mk fun K => ?_))))); repeat' (with_reducible refine And.intro ?_ ?_))
      (focus (refine ⟨_, _, Gh.refl, [0], rfl, ?_⟩; (refine ⟨?_, ?_, ?_⟩ <;> simp only [go_sem, List.range, List.range.loop, List.nodup_cons, List.nodup_nil, List.mem_cons, List.not_mem_nil, or_false, or_self, decide_true, decide_false, Int.reduceToNat, Nat.min_eq_left, Nat.min_eq_right, Int.reducePow, Nat.reducePow, Int.reduceLE, Int.reduceLT, Int.reduceMul, Int.reduceAdd, Int.reduceSub, Int.reduceNeg, Bool.not_true, Bool.not_false, Bool.not_not, ↓reduceIte, Nat.reduceAdd, Nat.reduceSub, Nat.reduceMul, Nat.reduceEqDiff, reduceCtorEq, Nat.reduceLT, Nat.reduceLeDiff, Nat.reduceGT]); (try any_goals (refine ⟨?_, ?_⟩)); (try any_goals (with_reducible rfl))))
    · have d2 : decide (n ≤ 1099511627776) = false := decide_eq_false c2
      have e : passT now n = now := if_neg fun q => c2 q.2
      rw [e]
      refine w_body (rs := []) (tm := [.ptr 0 0, .int .i64 n, .any, .any, .any, .any, .any, .any, .any, .any, .any, .any, .any, .any, .any, .any, .any, .any]) fn_71 rfl rfl rfl rfl fun R hR => ?_
      (have zx1 := @d1; have zx2 := @d2; all_goals (try ((first | (with_reducible refine wp_id ?_) | (with_reducible refine does_id ?_) | (with_reducible refine ops_id ?_)); refine walk ?_; (repeat' (first | exact trivial | with_reducible refine And.intro ?_ ?_)); all_goals (repeat (first | (with_reducible refine ImpB.mk fun hb => ?_) | (with_reducible refine ImpK.mk fun hK => ?_) | (with_reducible refine ImpF.mk fun hF => ?_) | (with_reducible refine ImpQ.mk fun hp => ?_) | (with_reducible refine AllE.mk fun p => ?_) | (with_reducible refine AllR.mk fun rest => ?_) | (with_reducible refine AllK.mk fun K => ?_))))); repeat' (with_reducible refine And.intro ?_ ?_))
      (focus (refine ⟨_, _, Gh.refl, [0], rfl, ?_⟩; (refine ⟨?_, ?_, ?_⟩ <;> simp only [go_sem, List.range, List.range.loop, List.nodup_cons, List.nodup_nil, List.mem_cons, List.not_mem_nil, or_false, or_self, decide_true, decide_false, Int.reduceToNat, Nat.min_eq_left, Nat.min_eq_right, Int.reducePow, Nat.reducePow, Int.reduceLE, Int.reduceLT, Int.reduceMul, Int.reduceAdd, Int.reduceSub, Int.reduceNeg, Bool.not_true, Bool.not_false, Bool.not_not, ↓reduceIte, Nat.reduceAdd, Nat.reduceSub, Nat.reduceMul, Nat.reduceEqDiff, reduceCtorEq, Nat.reduceLT, Nat.reduceLeDiff, Nat.reduceGT]); (try any_goals (refine ⟨?_, ?_⟩)); (try any_goals (with_reducible rfl))))
  · have d1 : decide (now < n) = false := decide_eq_false c1
    have e : passT now n = now := if_neg fun q => c1 q.1
    rw [e]
    refine w_body (rs := []) (tm := [.ptr 0 0, .int .i64 n, .any, .any, .any, .any, .any, .any, .any, .any, .any, .any, .any, .any, .any, .any, .any, .any]) fn_71 rfl rfl rfl rfl fun R hR => ?_
    (have zx1 := @d1; all_goals (try ((first | (with_reducible refine wp_id ?_) | (with_reducible refine does_id ?_) | (with_reducible refine ops_id ?_)); refine walk ?_; (repeat' (first | exact trivial | with_reducible refine And.intro ?_ ?_)); all_goals (repeat (first | (with_reducible refine ImpB.mk fun hb => ?_) | (with_reducible refine ImpK.mk fun hK => ?_) | (with_reducible refine ImpF.mk fun hF => ?_) | (with_reducible refine ImpQ.mk fun hp => ?_) | (with_reducible refine AllE.mk fun p => ?_) | (with_reducible refine AllR.mk fun rest => ?_) | (with_reducible refine AllK.mk fun K => ?_))))); repeat' (with_reducible refine And.intro ?_ ?_))
    (focus (refine ⟨_, _, Gh.refl, [0], rfl, ?_⟩; (refine ⟨?_, ?_, ?_⟩ <;> simp only [go_sem, List.range, List.range.loop, List.nodup_cons, List.nodup_nil, List.mem_cons, List.not_mem_nil, or_false, or_self, decide_true, decide_false, Int.reduceToNat, Nat.min_eq_left, Nat.min_eq_right, Int.reducePow, Nat.reducePow, Int.reduceLE, Int.reduceLT, Int.reduceMul, Int.reduceAdd, Int.reduceSub, Int.reduceNeg, Bool.not_true, Bool.not_false, Bool.not_not, ↓reduceIte, Nat.reduceAdd, Nat.reduceSub, Nat.reduceMul, Nat.reduceEqDiff, reduceCtorEq, Nat.reduceLT, Nat.reduceLeDiff, Nat.reduceGT]); (try any_goals (refine ⟨?_, ?_⟩)); (try any_goals (with_reducible rfl))))
theorem c_rclock {h : List Ch} {K : KT} {t : Nat} {most next now n : Int} {l : List Ent} {off : List Int} (H : K (.tup []) (h.set t (RS most next (passT now n) l off))) (o : hth h t = RS most next now l off) : Does Try.prog 71 [.ptr t 0, .int .i64 n] h K :=
  frame_obj0 (b_rclock most next now n l off) o (by simp [RS]) (fun σ => fit_rs σ) (br_cons (br_ptr rfl) (br_cons br_int br_nil)) (.inl rfl) (fun _ => rfl) rfl H
abbrev i_rclock := Ctr.mk (i := 0) (g := 71) @c_rclock
attribute [instance] i_rclock
/-- a disabled group -/
def offG (off : List Int) (g : Int) : Bool := decide (g ∈ off)
theorem b_roff (most next now g : Int) (l : List Ent) (off : List Int) (hl : off.length ≤ 1099511627776) : DoesK Try.prog 1 73 [.ptr 0 0, .int .i64 g] [RS most next now l off] (EndF 1 (.bool (offG off g)) ([RS most next now l off] ++ [])) := by
  refine DoesK.close ?_
  refine w_body (rs := [.tmp 4]) (tm := [.ptr 0 0, .int .i64 g, .any, .any, .any, .any, .any, .any, .any, .any, .any, .any, .any, .any, .any, .any, .any, .any, .any, .any, .any, .any, .any, .any]) fn_73 rfl rfl rfl rfl fun R hR => ?_
  (all_goals (try ((first | (with_reducible refine wp_id ?_) | (with_reducible refine does_id ?_) | (with_reducible refine ops_id ?_)); refine walk ?_; (repeat' (first | exact trivial | with_reducible refine And.intro ?_ ?_)); all_goals (repeat (first | (with_reducible refine ImpB.mk fun hb => ?_) | (with_reducible refine ImpK.mk fun hK => ?_) | (with_reducible refine ImpF.mk fun hF => ?_) | (with_reducible refine ImpQ.mk fun hp => ?_) | (with_reducible refine AllE.mk fun p => ?_) | (with_reducible refine AllR.mk fun rest => ?_) | (with_reducible refine AllK.mk fun K => ?_))))); repeat' (with_reducible refine And.intro ?_ ?_))
  any_goals ((try (refine w_seq fun K hK => ?_)); (try (refine w_block ?_)); refine w_loop (A := Nat) (fun k => g ∉ off.take k ∧ k ≤ off.length) (fun k => off.length - k) (fun k => [(5, .int .i64 k)]) (fun k => [(0, RS most next now l off)]) (0) (ws := ?ws1) (tk := ?tk1) ?hw1 ?ht1 ?hi ?h0 ?LH1; (case hw1 => simp only [go_sem, decide_true, decide_false, Int.reduceToNat, Nat.min_eq_left, Nat.min_eq_right, Int.reducePow, Nat.reducePow, Int.reduceLE, Int.reduceLT, Int.reduceMul, Int.reduceAdd, Int.reduceSub, Int.reduceNeg, Bool.not_true, Bool.not_false, Bool.not_not, ↓reduceIte, Nat.reduceAdd, Nat.reduceSub, Nat.reduceMul, Nat.reduceEqDiff, reduceCtorEq, Nat.reduceLT, Nat.reduceLeDiff, Nat.reduceGT]; exact rfl); (case ht1 => simp only [go_sem, decide_true, decide_false, Int.reduceToNat, Nat.min_eq_left, Nat.min_eq_right, Int.reducePow, Nat.reducePow, Int.reduceLE, Int.reduceLT, Int.reduceMul, Int.reduceAdd, Int.reduceSub, Int.reduceNeg, Bool.not_true, Bool.not_false, Bool.not_not, ↓reduceIte, Nat.reduceAdd, Nat.reduceSub, Nat.reduceMul, Nat.reduceEqDiff, reduceCtorEq, Nat.reduceLT, Nat.reduceLeDiff, Nat.reduceGT]; exact rfl); (case' LH1 => rintro k E t hx hE ht; simp only [go_sem] at ht; subst ht; simp only [go_sem]; try dsimp only at hx))
  case LH1 =>
    obtain ⟨ha, hk⟩ := hx
    by_cases c1 : k < off.length
    · have d1 : decide ((k : Int) < (off.length : Int)) = true := decide_eq_true (by omega)
      have hw : IntKind.i64.wrap ((k : Int) + 1) = ((k + 1 : Nat) : Int) := wrap_i64 _ (by omega) (by omega)
      have hst : off.take (k + 1) = off.take k ++ [off.getD k 0] := by
        rw [List.take_succ_eq_append_getElem c1, List.getD_eq_getElem?_getD, List.getElem?_eq_getElem c1]; rfl
      have hmem : off.getD k 0 ∈ off := by rw [List.getD_eq_getElem?_getD, List.getElem?_eq_getElem c1]; exact List.getElem_mem c1
      (have zx1 := @d1; have zx2 := @hw; all_goals (try ((first | (with_reducible refine wp_id ?_) | (with_reducible refine does_id ?_) | (with_reducible refine ops_id ?_)); refine walk ?_; (repeat' (first | exact trivial | with_reducible refine And.intro ?_ ?_)); all_goals (repeat (first | (with_reducible refine ImpB.mk fun hb => ?_) | (with_reducible refine ImpK.mk fun hK => ?_) | (with_reducible refine ImpF.mk fun hF => ?_) | (with_reducible refine ImpQ.mk fun hp => ?_) | (with_reducible refine AllE.mk fun p => ?_) | (with_reducible refine AllR.mk fun rest => ?_) | (with_reducible refine AllK.mk fun K => ?_))))); repeat' (with_reducible refine And.intro ?_ ?_))
      · exact Int.natCast_nonneg _
      · exact_mod_cast c1
      · have e : offG off g = true := decide_eq_true (by rw [← of_decide_eq_true hb]; exact hmem)
        rw [e]
        (focus (refine ⟨_, _, Gh.refl, [0], rfl, ?_⟩; (refine ⟨?_, ?_, ?_⟩ <;> simp only [go_sem, List.range, List.range.loop, List.nodup_cons, List.nodup_nil, List.mem_cons, List.not_mem_nil, or_false, or_self, decide_true, decide_false, Int.reduceToNat, Nat.min_eq_left, Nat.min_eq_right, Int.reducePow, Nat.reducePow, Int.reduceLE, Int.reduceLT, Int.reduceMul, Int.reduceAdd, Int.reduceSub, Int.reduceNeg, Bool.not_true, Bool.not_false, Bool.not_not, ↓reduceIte, Nat.reduceAdd, Nat.reduceSub, Nat.reduceMul, Nat.reduceEqDiff, reduceCtorEq, Nat.reduceLT, Nat.reduceLeDiff, Nat.reduceGT]); (try any_goals (refine ⟨?_, ?_⟩)); (try any_goals (with_reducible rfl))))
      · refine ⟨k + 1, ⟨⟨?_, c1⟩, by dsimp only; omega⟩, ?_⟩
        · rw [hst]
          simp only [List.mem_append, List.mem_singleton, not_or]
          exact ⟨ha, fun q => of_decide_eq_false hb q.symm⟩
        · (focus (refine ⟨_, _, Gh.refl, [0], rfl, ?_⟩; (refine ⟨?_, ?_, ?_⟩ <;> simp only [go_sem, List.range, List.range.loop, List.nodup_cons, List.nodup_nil, List.mem_cons, List.not_mem_nil, or_false, or_self, decide_true, decide_false, Int.reduceToNat, Nat.min_eq_left, Nat.min_eq_right, Int.reducePow, Nat.reducePow, Int.reduceLE, Int.reduceLT, Int.reduceMul, Int.reduceAdd, Int.reduceSub, Int.reduceNeg, Bool.not_true, Bool.not_false, Bool.not_not, ↓reduceIte, Nat.reduceAdd, Nat.reduceSub, Nat.reduceMul, Nat.reduceEqDiff, reduceCtorEq, Nat.reduceLT, Nat.reduceLeDiff, Nat.reduceGT]); (try any_goals (refine ⟨?_, ?_⟩)); (try any_goals (with_reducible rfl))))
    · have d1 : decide ((k : Int) < (off.length : Int)) = false := decide_eq_false (by omega)
      have e : offG off g = false := decide_eq_false (by rw [List.take_of_length_le (by omega)] at ha; exact ha)
      (have zx1 := @d1; all_goals (try ((first | (with_reducible refine wp_id ?_) | (with_reducible refine does_id ?_) | (with_reducible refine ops_id ?_)); refine walk ?_; (repeat' (first | exact trivial | with_reducible refine And.intro ?_ ?_)); all_goals (repeat (first | (with_reducible refine ImpB.mk fun hb => ?_) | (with_reducible refine ImpK.mk fun hK => ?_) | (with_reducible refine ImpF.mk fun hF => ?_) | (with_reducible refine ImpQ.mk fun hp => ?_) | (with_reducible refine AllE.mk fun p => ?_) | (with_reducible refine AllR.mk fun rest => ?_) | (with_reducible refine AllK.mk fun K => ?_))))); repeat' (with_reducible refine And.intro ?_ ?_))
      rw [e]
      (focus (refine ⟨_, _, Gh.refl, [0], rfl, ?_⟩; (refine ⟨?_, ?_, ?_⟩ <;> simp only [go_sem, List.range, List.range.loop, List.nodup_cons, List.nodup_nil, List.mem_cons, List.not_mem_nil, or_false, or_self, decide_true, decide_false, Int.reduceToNat, Nat.min_eq_left, Nat.min_eq_right, Int.reducePow, Nat.reducePow, Int.reduceLE, Int.reduceLT, Int.reduceMul, Int.reduceAdd, Int.reduceSub, Int.reduceNeg, Bool.not_true, Bool.not_false, Bool.not_not, ↓reduceIte, Nat.reduceAdd, Nat.reduceSub, Nat.reduceMul, Nat.reduceEqDiff, reduceCtorEq, Nat.reduceLT, Nat.reduceLeDiff, Nat.reduceGT]); (try any_goals (refine ⟨?_, ?_⟩)); (try any_goals (with_reducible rfl))))
  · exact ⟨by simp, Nat.zero_le _⟩
  · (focus (refine ⟨_, _, Gh.refl, [0], rfl, ?_⟩; (refine ⟨?_, ?_, ?_⟩ <;> simp only [go_sem, List.range, List.range.loop, List.nodup_cons, List.nodup_nil, List.mem_cons, List.not_mem_nil, or_false, or_self, decide_true, decide_false, Int.reduceToNat, Nat.min_eq_left, Nat.min_eq_right, Int.reducePow, Nat.reducePow, Int.reduceLE, Int.reduceLT, Int.reduceMul, Int.reduceAdd, Int.reduceSub, Int.reduceNeg, Bool.not_true, Bool.not_false, Bool.not_not, ↓reduceIte, Nat.reduceAdd, Nat.reduceSub, Nat.reduceMul, Nat.reduceEqDiff, reduceCtorEq, Nat.reduceLT, Nat.reduceLeDiff, Nat.reduceGT]); (try any_goals (refine ⟨?_, ?_⟩)); (try any_goals (with_reducible rfl))))
theorem c_roff {h : List Ch} {K : KT} {t : Nat} {most next now g : Int} {l : List Ent} {off : List Int} (H : K (.bool (offG off g)) h) (o : hth h t = RS most next now l off) (s1 : off.length ≤ 1099511627776) : Does Try.prog 73 [.ptr t 0, .int .i64 g] h K :=
  frame_look (b_roff most next now g l off s1) o (by simp [RS]) (fun σ => fit_rs σ) (br_cons (br_ptr rfl) (br_cons br_int br_nil)) (.inl rfl) (fun _ => rfl) rfl H
abbrev i_roff := Ctr.mk (i := 0) (g := 73) @c_roff
attribute [instance] i_roff
theorem brL_ent {h : List Ch} {σ : List Nat} (x : Ent) : brA σ h (.agg (entL x)) (.agg (entL x)) :=
  br_agg (br_cons br_int (br_cons br_int (br_cons br_int (br_cons br_int (br_cons br_int (br_cons br_int (br_cons br_ro (br_cons br_ro br_nil))))))))
theorem b_rbef (x y : Ent) : DoesK Try.prog 0 81 [.agg (entL x), .agg (entL y)] [] (EndF 0 (.bool (befE x y)) []) := by
  refine DoesK.close ?_
  refine w_body (rs := [.tmp 4]) (tm := [.agg (entL x), .agg (entL y), .any, .any, .any, .any, .any, .any, .any, .any, .any, .any, .any, .any, .any, .any, .any, .any, .any, .any, .any, .any, .any, .any]) fn_81 rfl rfl rfl rfl fun R hR => ?_
  (all_goals (try ((first | (with_reducible refine wp_id ?_) | (with_reducible refine does_id ?_) | (with_reducible refine ops_id ?_)); refine walk ?_; (repeat' (first | exact trivial | with_reducible refine And.intro ?_ ?_)); all_goals (repeat (first | (with_reducible refine ImpB.mk fun hb => ?_) | (with_reducible refine ImpK.mk fun hK => ?_) | (with_reducible refine ImpF.mk fun hF => ?_) | (with_reducible refine ImpQ.mk fun hp => ?_) | (with_reducible refine AllE.mk fun p => ?_) | (with_reducible refine AllR.mk fun rest => ?_) | (with_reducible refine AllK.mk fun K => ?_))))); repeat' (with_reducible refine And.intro ?_ ?_))
  · rw [show befE x y = true from by unfold befE; exact decide_eq_true (.inl (of_decide_eq_true hb))]
    (focus (refine ⟨_, _, Gh.refl, [], rfl, ?_⟩; (refine ⟨?_, ?_, ?_⟩ <;> simp only [go_sem, List.range, List.range.loop, List.nodup_cons, List.nodup_nil, List.mem_cons, List.not_mem_nil, or_false, or_self, decide_true, decide_false, Int.reduceToNat, Nat.min_eq_left, Nat.min_eq_right, Int.reducePow, Nat.reducePow, Int.reduceLE, Int.reduceLT, Int.reduceMul, Int.reduceAdd, Int.reduceSub, Int.reduceNeg, Bool.not_true, Bool.not_false, Bool.not_not, ↓reduceIte, Nat.reduceAdd, Nat.reduceSub, Nat.reduceMul, Nat.reduceEqDiff, reduceCtorEq, Nat.reduceLT, Nat.reduceLeDiff, Nat.reduceGT]); (try any_goals (refine ⟨?_, ?_⟩)); (try any_goals (with_reducible rfl))))
  · rename_i q1
    have h1 := of_decide_eq_false q1
    have h2 := of_decide_eq_true hb
    rw [show befE x y = decide (x.id < y.id) from by unfold befE; exact decide_eq_decide.2 (by omega)]
    (focus (refine ⟨_, _, Gh.refl, [], rfl, ?_⟩; (refine ⟨?_, ?_, ?_⟩ <;> simp only [go_sem, List.range, List.range.loop, List.nodup_cons, List.nodup_nil, List.mem_cons, List.not_mem_nil, or_false, or_self, decide_true, decide_false, Int.reduceToNat, Nat.min_eq_left, Nat.min_eq_right, Int.reducePow, Nat.reducePow, Int.reduceLE, Int.reduceLT, Int.reduceMul, Int.reduceAdd, Int.reduceSub, Int.reduceNeg, Bool.not_true, Bool.not_false, Bool.not_not, ↓reduceIte, Nat.reduceAdd, Nat.reduceSub, Nat.reduceMul, Nat.reduceEqDiff, reduceCtorEq, Nat.reduceLT, Nat.reduceLeDiff, Nat.reduceGT]); (try any_goals (refine ⟨?_, ?_⟩)); (try any_goals (with_reducible rfl))))
  · rename_i q1
    have h1 := of_decide_eq_false q1
    have h2 := of_decide_eq_false hb
    rw [show befE x y = false from by unfold befE; exact decide_eq_false (by omega)]
    (focus (refine ⟨_, _, Gh.refl, [], rfl, ?_⟩; (refine ⟨?_, ?_, ?_⟩ <;> simp only [go_sem, List.range, List.range.loop, List.nodup_cons, List.nodup_nil, List.mem_cons, List.not_mem_nil, or_false, or_self, decide_true, decide_false, Int.reduceToNat, Nat.min_eq_left, Nat.min_eq_right, Int.reducePow, Nat.reducePow, Int.reduceLE, Int.reduceLT, Int.reduceMul, Int.reduceAdd, Int.reduceSub, Int.reduceNeg, Bool.not_true, Bool.not_false, Bool.not_not, ↓reduceIte, Nat.reduceAdd, Nat.reduceSub, Nat.reduceMul, Nat.reduceEqDiff, reduceCtorEq, Nat.reduceLT, Nat.reduceLeDiff, Nat.reduceGT]); (try any_goals (refine ⟨?_, ?_⟩)); (try any_goals (with_reducible rfl))))
theorem c_rbef {h : List Ch} {K : KT} {x y : Ent} (H : K (.bool (befE x y)) h) : Does Try.prog 81 [.agg [.int .i64 x.id, .int .i64 x.time, .int .i64 x.group, .int .i64 x.c.src, .int .i64 x.c.num, .int .i64 x.c.srv, .ro .int x.c.args, .ro .byte x.c.data], .agg [.int .i64 y.id, .int .i64 y.time, .int .i64 y.group, .int .i64 y.c.src, .int .i64 y.c.num, .int .i64 y.c.srv, .ro .int y.c.args, .ro .byte y.c.data]] h K :=
  frame_pure (b_rbef x y) (br_cons (brL_ent x) (br_cons (brL_ent y) br_nil)) (.inl rfl) (fun _ => rfl) H
abbrev i_rbef := Ctr.mk (i := 0) (g := 81) @c_rbef
attribute [instance] i_rbef
def insB (l : List Ent) (x : Ent) : List Ent := l.takeWhile (fun y => befE y x) ++ x :: l.dropWhile (fun y => befE y x)
theorem takeWhile_at {p : Ent → Bool} : ∀ {l : List Ent} {k : Nat}, (∀ y ∈ l.take k, p y = true) → (∀ z ∈ (l.drop k).head?, p z = false) → l.takeWhile p = l.take k ∧ l.dropWhile p = l.drop k
  | [], k, _, _ => by simp
  | y :: l, 0, _, h => by
    have : p y = false := h y (by simp)
    simp [List.takeWhile_cons, List.dropWhile_cons, this]
  | y :: l, k + 1, h1, h => by
    have : p y = true := h1 y (by simp)
    have hh := takeWhile_at (p := p) (l := l) (k := k) (fun z hz => h1 z (by simp [hz])) (by simpa using h)
    simp [List.takeWhile_cons, List.dropWhile_cons, this, hh.1, hh.2]
theorem insB_at {l : List Ent} {x : Ent} {k : Nat} (h1 : ∀ y ∈ l.take k, befE y x = true) (h : ∀ z ∈ (l.drop k).head?, befE z x = false) : insB l x = l.take k ++ x :: l.drop k := by
  have := takeWhile_at (p := fun y => befE y x) h1 h
  unfold insB
  rw [this.1, this.2]
theorem b_rinsert (l : List Ent) (x : Ent) (hl : l.length ≤ 1000000) : DoesK Try.prog 0 48 [.ro .ent l, .agg (entL x)] [] (EndF 0 (.ro .ent (insB l x)) []) := by
  refine DoesK.close ?_
  refine w_body (rs := [.tmp 4]) (tm := [.ro .ent l, .agg (entL x), .any, .any, .any, .any, .any, .any, .any, .any, .any, .any, .any, .any, .any, .any, .any, .any, .any, .any, .any, .any, .any, .any, .any, .any, .any, .any, .any, .any, .any, .any, .any, .any, .any, .any, .any]) fn_48 rfl rfl rfl rfl fun R hR => ?_
  (all_goals (try ((first | (with_reducible refine wp_id ?_) | (with_reducible refine does_id ?_) | (with_reducible refine ops_id ?_)); refine walk ?_; (repeat' (first | exact trivial | with_reducible refine And.intro ?_ ?_)); all_goals (repeat (first | (with_reducible refine ImpB.mk fun hb => ?_) | (with_reducible refine ImpK.mk fun hK => ?_) | (with_reducible refine ImpF.mk fun hF => ?_) | (with_reducible refine ImpQ.mk fun hp => ?_) | (with_reducible refine AllE.mk fun p => ?_) | (with_reducible refine AllR.mk fun rest => ?_) | (with_reducible refine AllK.mk fun K => ?_))))); repeat' (with_reducible refine And.intro ?_ ?_))
  refine Wp.ghost (gh_adopt (s := 5) .ent trivial) ?_
  any_goals ((try (refine w_seq fun K hK => ?_)); (try (refine w_block ?_)); refine w_loop (A := Nat × List Ent) (fun p => p.2 = l.take p.1 ∧ p.1 ≤ l.length ∧ (∀ y ∈ l.take p.1, befE y x = true)) (fun p => l.length - p.1) (fun p => [(6, .int .i64 p.1), (5, .sl 1 .ent 0 p.2.length)]) (fun p => [(0, .cells (entL x)), (1, .rows .ent p.2)]) ((0, [])) (ws := ?ws2) (tk := ?tk2) ?hw2 ?ht2 ?hi ?h0 ?LH2; (case hw2 => simp only [go_sem, decide_true, decide_false, Int.reduceToNat, Nat.min_eq_left, Nat.min_eq_right, Int.reducePow, Nat.reducePow, Int.reduceLE, Int.reduceLT, Int.reduceMul, Int.reduceAdd, Int.reduceSub, Int.reduceNeg, Bool.not_true, Bool.not_false, Bool.not_not, ↓reduceIte, Nat.reduceAdd, Nat.reduceSub, Nat.reduceMul, Nat.reduceEqDiff, reduceCtorEq, Nat.reduceLT, Nat.reduceLeDiff, Nat.reduceGT]; exact rfl); (case ht2 => simp only [go_sem, decide_true, decide_false, Int.reduceToNat, Nat.min_eq_left, Nat.min_eq_right, Int.reducePow, Nat.reducePow, Int.reduceLE, Int.reduceLT, Int.reduceMul, Int.reduceAdd, Int.reduceSub, Int.reduceNeg, Bool.not_true, Bool.not_false, Bool.not_not, ↓reduceIte, Nat.reduceAdd, Nat.reduceSub, Nat.reduceMul, Nat.reduceEqDiff, reduceCtorEq, Nat.reduceLT, Nat.reduceLeDiff, Nat.reduceGT]; exact rfl); (case' LH2 => rintro ⟨k, acc⟩ E t hx hE ht; simp only [go_sem] at ht; subst ht; simp only [go_sem]; try dsimp only at hx))
  case LH2 =>
    obtain ⟨ha, hk, hall⟩ := hx
    have hal : acc.length = k := by rw [ha, List.length_take]; omega
    have hres : (∀ z ∈ (l.drop k).head?, befE z x = false) → insB l x = l.take k ++ x :: l.drop k := fun q => insB_at hall q
    by_cases c1 : k < l.length
    · have d1 : decide ((k : Int) < (l.length : Int)) = true := decide_eq_true (by omega)
      have hst := take_ent c1
      have hw : IntKind.i64.wrap ((k : Int) + 1) = ((k + 1 : Nat) : Int) := wrap_i64 _ (by omega) (by omega)
      cases hb : befE (eAt l k) x
      · have hres' := hres (by intro z hz; rw [List.drop_eq_getElem_cons c1] at hz; simp only [List.head?_cons, Option.mem_def, Option.some.injEq] at hz; subst hz; rw [← eAt_eq c1]; exact hb)
        have hdl := List.length_drop (l := l) (i := k)
        (have zx1 := @d1; have zx2 := @hw; have zx3 := @hb; all_goals (try ((first | (with_reducible refine wp_id ?_) | (with_reducible refine does_id ?_) | (with_reducible refine ops_id ?_)); refine walk ?_; (repeat' (first | exact trivial | with_reducible refine And.intro ?_ ?_)); all_goals (repeat (first | (with_reducible refine ImpB.mk fun hb => ?_) | (with_reducible refine ImpK.mk fun hK => ?_) | (with_reducible refine ImpF.mk fun hF => ?_) | (with_reducible refine ImpQ.mk fun hp => ?_) | (with_reducible refine AllE.mk fun p => ?_) | (with_reducible refine AllR.mk fun rest => ?_) | (with_reducible refine AllK.mk fun K => ?_))))); repeat' (with_reducible refine And.intro ?_ ?_))
        any_goals first | omega | exact Int.natCast_nonneg _ | exact Int.le_refl _
        refine end_ro rfl ?_ (by rw [hres', ← ha]; simp) ?_
        · simp; omega
        · simp [frObH, frObC, frOb, frObL, entL]
      · (have zx1 := @d1; have zx2 := @hw; have zx3 := @hb; all_goals (try ((first | (with_reducible refine wp_id ?_) | (with_reducible refine does_id ?_) | (with_reducible refine ops_id ?_)); refine walk ?_; (repeat' (first | exact trivial | with_reducible refine And.intro ?_ ?_)); all_goals (repeat (first | (with_reducible refine ImpB.mk fun hb => ?_) | (with_reducible refine ImpK.mk fun hK => ?_) | (with_reducible refine ImpF.mk fun hF => ?_) | (with_reducible refine ImpQ.mk fun hp => ?_) | (with_reducible refine AllE.mk fun p => ?_) | (with_reducible refine AllR.mk fun rest => ?_) | (with_reducible refine AllK.mk fun K => ?_))))); repeat' (with_reducible refine And.intro ?_ ?_))
        any_goals first | omega | exact Int.natCast_nonneg _ | exact Int.le_refl _
        refine ⟨(k + 1, acc ++ [eAt l k]), ⟨⟨by rw [hst, ← ha], c1, by rw [hst]; intro y hy; rcases List.mem_append.1 hy with q | q; exact hall y q; rw [List.mem_singleton.1 q]; exact hb⟩, by dsimp only; omega⟩, ?_⟩
        (focus (refine ⟨_, _, Gh.refl, [0, 3], rfl, ?_⟩; (refine ⟨?_, ?_, ?_⟩ <;> simp only [go_sem, List.range, List.range.loop, List.nodup_cons, List.nodup_nil, List.mem_cons, List.not_mem_nil, or_false, or_self, decide_true, decide_false, Int.reduceToNat, Nat.min_eq_left, Nat.min_eq_right, Int.reducePow, Nat.reducePow, Int.reduceLE, Int.reduceLT, Int.reduceMul, Int.reduceAdd, Int.reduceSub, Int.reduceNeg, Bool.not_true, Bool.not_false, Bool.not_not, ↓reduceIte, Nat.reduceAdd, Nat.reduceSub, Nat.reduceMul, Nat.reduceEqDiff, reduceCtorEq, Nat.reduceLT, Nat.reduceLeDiff, Nat.reduceGT]); (try any_goals (refine ⟨?_, ?_⟩)); (try any_goals (with_reducible rfl))))
    · have d1 : decide ((k : Int) < (l.length : Int)) = false := decide_eq_false (by omega)
      have hres' := hres (by rw [List.drop_eq_nil_of_le (by omega)]; simp)
      have hdl := List.length_drop (l := l) (i := k)
      (have zx1 := @d1; all_goals (try ((first | (with_reducible refine wp_id ?_) | (with_reducible refine does_id ?_) | (with_reducible refine ops_id ?_)); refine walk ?_; (repeat' (first | exact trivial | with_reducible refine And.intro ?_ ?_)); all_goals (repeat (first | (with_reducible refine ImpB.mk fun hb => ?_) | (with_reducible refine ImpK.mk fun hK => ?_) | (with_reducible refine ImpF.mk fun hF => ?_) | (with_reducible refine ImpQ.mk fun hp => ?_) | (with_reducible refine AllE.mk fun p => ?_) | (with_reducible refine AllR.mk fun rest => ?_) | (with_reducible refine AllK.mk fun K => ?_))))); repeat' (with_reducible refine And.intro ?_ ?_))
      any_goals first | omega | exact Int.natCast_nonneg _ | exact Int.le_refl _
      refine end_ro rfl ?_ (by rw [hres', ← ha]; simp) ?_
      · simp; omega
      · simp [frObH, frObC, frOb, frObL, entL]
  · exact ⟨rfl, Nat.zero_le _, by simp⟩
  · (focus (refine ⟨_, _, Gh.refl, [0, 1], rfl, ?_⟩; (refine ⟨?_, ?_, ?_⟩ <;> simp only [go_sem, List.range, List.range.loop, List.nodup_cons, List.nodup_nil, List.mem_cons, List.not_mem_nil, or_false, or_self, decide_true, decide_false, Int.reduceToNat, Nat.min_eq_left, Nat.min_eq_right, Int.reducePow, Nat.reducePow, Int.reduceLE, Int.reduceLT, Int.reduceMul, Int.reduceAdd, Int.reduceSub, Int.reduceNeg, Bool.not_true, Bool.not_false, Bool.not_not, ↓reduceIte, Nat.reduceAdd, Nat.reduceSub, Nat.reduceMul, Nat.reduceEqDiff, reduceCtorEq, Nat.reduceLT, Nat.reduceLeDiff, Nat.reduceGT]); (try any_goals (refine ⟨?_, ?_⟩)); (try any_goals (with_reducible rfl))))
theorem c_rinsert {h : List Ch} {K : KT} {l : List Ent} {i t g x y z : Int} {args : List Int} {data : List UInt8} (H : K (.ro .ent (insB l ⟨i, t, g, ⟨x, y, z, args, data⟩⟩)) h) (s1 : l.length ≤ 1000000) : Does Try.prog 48 [.ro .ent l, .agg [.int .i64 i, .int .i64 t, .int .i64 g, .int .i64 x, .int .i64 y, .int .i64 z, .ro .int args, .ro .byte data]] h K :=
  frame_pure (b_rinsert l ⟨i, t, g, ⟨x, y, z, args, data⟩⟩ s1) (br_cons br_ro (br_cons (brL_ent _) br_nil)) (.inl rfl) (fun _ => rfl) H
abbrev i_rinsert := Ctr.mk (i := 0) (g := 48) @c_rinsert
attribute [instance] i_rinsert
end Go.V
