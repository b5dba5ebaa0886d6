/-
  ranges: the program's normal, Add, Remove, Missing.
  Ranges that are built in the call.
  archive: Add in one contract; duplicate with data; entries, Len.
  archive: plain law of ArchiveFills.
  archive: entries, Gaps, Len, Items of an archive of one application process.
-/
import Derived.Test.YtoohlpieakeecaaPart13
set_option linter.unusedVariables false
set_option linter.unusedSimpArgs false
set_option maxRecDepth 100000
set_option maxHeartbeats 4000000
namespace Go.V
open Go.Proofs
theorem join_next {d : List Rng} {k : Nat} (hk : k < d.length) : (d.take (k + 1)).foldl joinS [] = joinS ((d.take k).foldl joinS []) (rAt d k) := by rw [take_next hk, List.foldl_append]; rfl
theorem joinS_len (out : List Rng) (r : Rng) : (joinS out r).length ≤ out.length + 1 := by
  unfold joinS
  split <;> simp
theorem joins_len (d : List Rng) : (d.foldl joinS []).length ≤ d.length := by
  have key : ∀ (l s : List Rng), (l.foldl joinS s).length ≤ s.length + l.length := by
    intro l
    induction l with
    | nil => intro s; simp
    | cons r l ih =>
      intro s
      have h1 := ih (joinS s r)
      have h2 := joinS_len s r
      simp only [List.foldl_cons, List.length_cons]
      omega
  have := key d []
  simpa using this
theorem b_normal (l : List Rng) (hl : l.length ≤ 1000000000) : DoesK Try.prog 0 54 [.ro .rng l] [] (EndF 0 (.ro .rng (ofL l)) []) := by
  refine DoesK.close ?_
  obtain ⟨f, hf⟩ : ∃ f, l.filter (fun x => !neR x) = f := ⟨_, rfl⟩
  have hfl : f.length ≤ l.length := by rw [← hf]; exact List.length_filter_le _ _
  obtain ⟨g, hg⟩ : ∃ g, ofL l = g := ⟨_, rfl⟩
  have hall : ∀ d : List Rng, d.Perm f → (d.Pairwise fun r s => r.from_ ≤ s.from_) → d.foldl joinS [] = g := fun d h1 h2 => by
    rw [← hf] at h1
    rw [← hg]
    exact normal_eq h1 h2
  rw [hg]
  refine w_body (rs := [.tmp 2]) (tm := [.ro .rng l, .any, .any, .any, .any, .any, .any, .any, .any, .any, .any, .any, .any, .any, .any, .any, .any, .any, .any, .any, .any, .any, .any, .any, .any, .any, .any, .any, .any, .any, .any, .any, .any, .any, .any, .any, .any, .any, .any, .any, .any, .any, .any, .any, .any, .any, .any, .any, .any, .any, .any, .any, .any, .any]) fn_54 rfl rfl rfl rfl fun R hR => ?_
  (have zx1 := @hf; all_goals (try ((first | (with_reducible refine wp_id ?_) | (with_reducible refine does_id ?_) | (with_reducible refine ops_id ?_)); refine walk ?_; (repeat' (first | exact trivial | with_reducible refine And.intro ?_ ?_)); all_goals (repeat (first | (with_reducible refine ImpB.mk fun hb => ?_) | (with_reducible refine ImpK.mk fun hK => ?_) | (with_reducible refine ImpF.mk fun hF => ?_) | (with_reducible refine ImpQ.mk fun hp => ?_) | (with_reducible refine AllE.mk fun p => ?_) | (with_reducible refine AllR.mk fun rest => ?_) | (with_reducible refine AllK.mk fun K => ?_))))); repeat' (with_reducible refine And.intro ?_ ?_))
  refine c_sortR (xs := f) (fun d hp hs => ?_) rfl rfl (by omega)
  have hdl := hp.length_eq
  have hend := hall d hp hs
  refine hK _ _ ?_
  (intro tm' e'; simp only [putA, List.set_cons_succ, List.set_cons_zero] at e'; subst e')
  simp only [go_sem, decide_true, decide_false, Int.reduceToNat, Nat.min_eq_left, Nat.min_eq_right, Int.reducePow, Nat.reducePow, Int.reduceLE, Int.reduceLT, Int.reduceMul, Int.reduceAdd, Int.reduceSub, Int.reduceNeg, Bool.not_true, Bool.not_false, Bool.not_not, ↓reduceIte, Nat.reduceAdd, Nat.reduceSub, Nat.reduceMul, Nat.reduceEqDiff, reduceCtorEq, Nat.reduceLT, Nat.reduceLeDiff, Nat.reduceGT]
  (all_goals (try ((first | (with_reducible refine wp_id ?_) | (with_reducible refine does_id ?_) | (with_reducible refine ops_id ?_)); refine walk ?_; (repeat' (first | exact trivial | with_reducible refine And.intro ?_ ?_)); all_goals (repeat (first | (with_reducible refine ImpB.mk fun hb => ?_) | (with_reducible refine ImpK.mk fun hK => ?_) | (with_reducible refine ImpF.mk fun hF => ?_) | (with_reducible refine ImpQ.mk fun hp => ?_) | (with_reducible refine AllE.mk fun p => ?_) | (with_reducible refine AllR.mk fun rest => ?_) | (with_reducible refine AllK.mk fun K => ?_))))); repeat' (with_reducible refine And.intro ?_ ?_))
  refine Wp.ghost (gh_adopt (s := 4) .rng trivial) ?_
  simp only [go_sem, decide_true, decide_false, Int.reduceToNat, Nat.min_eq_left, Nat.min_eq_right, Int.reducePow, Nat.reducePow, Int.reduceLE, Int.reduceLT, Int.reduceMul, Int.reduceAdd, Int.reduceSub, Int.reduceNeg, Bool.not_true, Bool.not_false, Bool.not_not, ↓reduceIte, Nat.reduceAdd, Nat.reduceSub, Nat.reduceMul, Nat.reduceEqDiff, reduceCtorEq, Nat.reduceLT, Nat.reduceLeDiff, Nat.reduceGT]
  any_goals ((try (refine w_seq fun K hK => ?_)); (try (refine w_block ?_)); refine w_loop (A := Nat) (fun k => k ≤ d.length) (fun k => d.length - k) (fun k => [(4, .sl 1 .rng 0 ((d.take k).foldl joinS []).length), (15, .int .i64 k)]) (fun k => [(1, .rows .rng ((d.take k).foldl joinS []))]) (0) (ws := ?ws1) (tk := ?tk1) ?hw1 ?ht1 ?hi ?h0 ?LH1; (case hw1 => simp only [go_sem, decide_true, decide_false, Int.reduceToNat, Nat.min_eq_left, Nat.min_eq_right, Int.reducePow, Nat.reducePow, Int.reduceLE, Int.reduceLT, Int.reduceMul, Int.reduceAdd, Int.reduceSub, Int.reduceNeg, Bool.not_true, Bool.not_false, Bool.not_not, ↓reduceIte, Nat.reduceAdd, Nat.reduceSub, Nat.reduceMul, Nat.reduceEqDiff, reduceCtorEq, Nat.reduceLT, Nat.reduceLeDiff, Nat.reduceGT]; exact rfl); (case ht1 => simp only [go_sem, decide_true, decide_false, Int.reduceToNat, Nat.min_eq_left, Nat.min_eq_right, Int.reducePow, Nat.reducePow, Int.reduceLE, Int.reduceLT, Int.reduceMul, Int.reduceAdd, Int.reduceSub, Int.reduceNeg, Bool.not_true, Bool.not_false, Bool.not_not, ↓reduceIte, Nat.reduceAdd, Nat.reduceSub, Nat.reduceMul, Nat.reduceEqDiff, reduceCtorEq, Nat.reduceLT, Nat.reduceLeDiff, Nat.reduceGT]; exact rfl); (case' LH1 => rintro k E t hx hE ht; simp only [go_sem] at ht; subst ht; simp only [go_sem]; try dsimp only at hx))
  case hi => exact Nat.zero_le _
  case h0 =>
    (focus (refine ⟨_, _, Gh.refl, [0, 1], rfl, ?_⟩; (refine fitq ?_ ?_ ?_ <;> try exact trivial); (try any_goals (refine ⟨?_, ?_⟩)); (try any_goals (with_reducible rfl))))
    all_goals rfl
  case LH1 =>
    have hw : IntKind.i64.wrap ((k : Int) + 1) = ((k + 1 : Nat) : Int) := by rw [wrap_i64 _ (by omega) (by omega)]; omega
    by_cases hk : k < d.length
    · have hkd : decide ((k : Int) < f.length) = true := decide_eq_true (by omega)
      have hn := join_next hk
      have hol := joins_len (d.take k)
      rw [List.length_take] at hol
      obtain ⟨out, hout⟩ : ∃ out, (d.take k).foldl joinS [] = out := ⟨_, rfl⟩
      rw [hout] at hn hol ⊢
      by_cases c0 : 0 < out.length
      · have d0 : decide ((0 : Int) < out.length) = true := decide_eq_true (by omega)
        have w1 : IntKind.i64.wrap ((out.length : Int) - 1) = ((out.length - 1 : Nat) : Int) := by rw [wrap_i64 _ (by omega) (by omega)]; omega
        have hl1 : out.length - 1 < out.length := by omega
        by_cases c1 : (rAt d k).from_ ≤ (rAt out (out.length - 1)).to_
        · have d1 : decide ((rAt d k).from_ ≤ (rAt out (out.length - 1)).to_) = true := decide_eq_true c1
          have hj : joinS out (rAt d k) = out.set (out.length - 1) ⟨(rAt out (out.length - 1)).from_, max (rAt out (out.length - 1)).to_ (rAt d k).to_⟩ := by unfold joinS; rw [if_pos ⟨c0, c1⟩]
          (have zx1 := @hkd; have zx2 := @d0; have zx3 := @w1; have zx4 := @d1; all_goals (try ((first | (with_reducible refine wp_id ?_) | (with_reducible refine does_id ?_) | (with_reducible refine ops_id ?_)); refine walk ?_; (repeat' (first | exact trivial | with_reducible refine And.intro ?_ ?_)); all_goals (repeat (first | (with_reducible refine ImpB.mk fun hb => ?_) | (with_reducible refine ImpK.mk fun hK => ?_) | (with_reducible refine ImpF.mk fun hF => ?_) | (with_reducible refine ImpQ.mk fun hp => ?_) | (with_reducible refine AllE.mk fun p => ?_) | (with_reducible refine AllR.mk fun rest => ?_) | (with_reducible refine AllK.mk fun K => ?_))))); repeat' (with_reducible refine And.intro ?_ ?_))
          (all_goals first | exact Int.natCast_nonneg _ | exact Int.ofNat_lt.2 (by assumption) | assumption | omega | exact Nat.le_refl _ | (exfalso; simp at hb; done) | (simp only [go_sem, decide_true, decide_false, Int.reduceToNat, Nat.min_eq_left, Nat.min_eq_right, Int.reducePow, Nat.reducePow, Int.reduceLE, Int.reduceLT, Int.reduceMul, Int.reduceAdd, Int.reduceSub, Int.reduceNeg, Bool.not_true, Bool.not_false, Bool.not_not, ↓reduceIte, Nat.reduceAdd, Nat.reduceSub, Nat.reduceMul, Nat.reduceEqDiff, reduceCtorEq, Nat.reduceLT, Nat.reduceLeDiff, Nat.reduceGT]; done) | (unfold capM; omega) | (simp only [List.length_drop, List.length_take, List.length_append, List.length_cons, List.length_nil]; omega) | skip)
          refine ⟨k + 1, ⟨by first | omega | (dsimp only; omega), by first | omega | (dsimp only; omega)⟩, ?_⟩
          (focus (refine ⟨_, _, Gh.refl, [0, 1], rfl, ?_⟩; (refine fitq ?_ ?_ ?_ <;> try exact trivial); (try any_goals (refine ⟨?_, ?_⟩)); (try any_goals (with_reducible rfl))))
          all_goals first | exact hw.symm | (rw [hn, hj]; first | done | rfl | simp) | skip
        · have d1 : decide ((rAt d k).from_ ≤ (rAt out (out.length - 1)).to_) = false := decide_eq_false c1
          have hj : joinS out (rAt d k) = out ++ [rAt d k] := by unfold joinS; rw [if_neg (fun q => c1 q.2)]
          (have zx1 := @hkd; have zx2 := @d0; have zx3 := @w1; have zx4 := @d1; all_goals (try ((first | (with_reducible refine wp_id ?_) | (with_reducible refine does_id ?_) | (with_reducible refine ops_id ?_)); refine walk ?_; (repeat' (first | exact trivial | with_reducible refine And.intro ?_ ?_)); all_goals (repeat (first | (with_reducible refine ImpB.mk fun hb => ?_) | (with_reducible refine ImpK.mk fun hK => ?_) | (with_reducible refine ImpF.mk fun hF => ?_) | (with_reducible refine ImpQ.mk fun hp => ?_) | (with_reducible refine AllE.mk fun p => ?_) | (with_reducible refine AllR.mk fun rest => ?_) | (with_reducible refine AllK.mk fun K => ?_))))); repeat' (with_reducible refine And.intro ?_ ?_))
          (all_goals first | exact Int.natCast_nonneg _ | exact Int.ofNat_lt.2 (by assumption) | assumption | omega | exact Nat.le_refl _ | (exfalso; simp at hb; done) | (simp only [go_sem, decide_true, decide_false, Int.reduceToNat, Nat.min_eq_left, Nat.min_eq_right, Int.reducePow, Nat.reducePow, Int.reduceLE, Int.reduceLT, Int.reduceMul, Int.reduceAdd, Int.reduceSub, Int.reduceNeg, Bool.not_true, Bool.not_false, Bool.not_not, ↓reduceIte, Nat.reduceAdd, Nat.reduceSub, Nat.reduceMul, Nat.reduceEqDiff, reduceCtorEq, Nat.reduceLT, Nat.reduceLeDiff, Nat.reduceGT]; done) | (unfold capM; omega) | (simp only [List.length_drop, List.length_take, List.length_append, List.length_cons, List.length_nil]; omega) | skip)
          refine ⟨k + 1, ⟨by first | omega | (dsimp only; omega), by first | omega | (dsimp only; omega)⟩, ?_⟩
          (focus (refine ⟨_, _, Gh.refl, [0, 4], rfl, ?_⟩; (refine fitq ?_ ?_ ?_ <;> try exact trivial); (try any_goals (refine ⟨?_, ?_⟩)); (try any_goals (with_reducible rfl))))
          all_goals first | exact hw.symm | (rw [hn, hj]; first | done | rfl | simp) | skip
      · have d0 : decide ((0 : Int) < out.length) = false := decide_eq_false (by omega)
        have hj : joinS out (rAt d k) = out ++ [rAt d k] := by unfold joinS; rw [if_neg (fun q => c0 q.1)]
        (have zx1 := @hkd; have zx2 := @d0; all_goals (try ((first | (with_reducible refine wp_id ?_) | (with_reducible refine does_id ?_) | (with_reducible refine ops_id ?_)); refine walk ?_; (repeat' (first | exact trivial | with_reducible refine And.intro ?_ ?_)); all_goals (repeat (first | (with_reducible refine ImpB.mk fun hb => ?_) | (with_reducible refine ImpK.mk fun hK => ?_) | (with_reducible refine ImpF.mk fun hF => ?_) | (with_reducible refine ImpQ.mk fun hp => ?_) | (with_reducible refine AllE.mk fun p => ?_) | (with_reducible refine AllR.mk fun rest => ?_) | (with_reducible refine AllK.mk fun K => ?_))))); repeat' (with_reducible refine And.intro ?_ ?_))
        (all_goals first | exact Int.natCast_nonneg _ | exact Int.ofNat_lt.2 (by assumption) | assumption | omega | exact Nat.le_refl _ | (exfalso; simp at hb; done) | (simp only [go_sem, decide_true, decide_false, Int.reduceToNat, Nat.min_eq_left, Nat.min_eq_right, Int.reducePow, Nat.reducePow, Int.reduceLE, Int.reduceLT, Int.reduceMul, Int.reduceAdd, Int.reduceSub, Int.reduceNeg, Bool.not_true, Bool.not_false, Bool.not_not, ↓reduceIte, Nat.reduceAdd, Nat.reduceSub, Nat.reduceMul, Nat.reduceEqDiff, reduceCtorEq, Nat.reduceLT, Nat.reduceLeDiff, Nat.reduceGT]; done) | (unfold capM; omega) | (simp only [List.length_drop, List.length_take, List.length_append, List.length_cons, List.length_nil]; omega) | skip)
        refine ⟨k + 1, ⟨by first | omega | (dsimp only; omega), by first | omega | (dsimp only; omega)⟩, ?_⟩
        (focus (refine ⟨_, _, Gh.refl, [0, 4], rfl, ?_⟩; (refine fitq ?_ ?_ ?_ <;> try exact trivial); (try any_goals (refine ⟨?_, ?_⟩)); (try any_goals (with_reducible rfl))))
        all_goals first | exact hw.symm | (rw [hn, hj]; first | done | rfl | simp) | skip
    · have hkd : decide ((k : Int) < f.length) = false := decide_eq_false (by omega)
      rw [List.take_of_length_le (by omega), hend]
      (have zx1 := @hkd; all_goals (try ((first | (with_reducible refine wp_id ?_) | (with_reducible refine does_id ?_) | (with_reducible refine ops_id ?_)); refine walk ?_; (repeat' (first | exact trivial | with_reducible refine And.intro ?_ ?_)); all_goals (repeat (first | (with_reducible refine ImpB.mk fun hb => ?_) | (with_reducible refine ImpK.mk fun hK => ?_) | (with_reducible refine ImpF.mk fun hF => ?_) | (with_reducible refine ImpQ.mk fun hp => ?_) | (with_reducible refine AllE.mk fun p => ?_) | (with_reducible refine AllR.mk fun rest => ?_) | (with_reducible refine AllK.mk fun K => ?_))))); repeat' (with_reducible refine And.intro ?_ ?_))
      refine end_ro rfl ?_ rfl ?_
      · rfl
      · simp only [go_sem, decide_true, decide_false, Int.reduceToNat, Nat.min_eq_left, Nat.min_eq_right, Int.reducePow, Nat.reducePow, Int.reduceLE, Int.reduceLT, Int.reduceMul, Int.reduceAdd, Int.reduceSub, Int.reduceNeg, Bool.not_true, Bool.not_false, Bool.not_not, ↓reduceIte, Nat.reduceAdd, Nat.reduceSub, Nat.reduceMul, Nat.reduceEqDiff, reduceCtorEq, Nat.reduceLT, Nat.reduceLeDiff, Nat.reduceGT]
theorem c_normal {h : List Ch} {K : KT} {l : List Rng} {a : AV} (H : K (.ro .rng (ofL l)) h) (q1 : isRO .rng l a) (s1 : l.length ≤ 1000000000) : Does Try.prog 54 [a] h K :=
  frame_pure (b_normal l s1) (br_cons q1.br br_nil) (.inl (by simp only [brTL, q1.brT]; rfl)) (fun _ => rfl) H
abbrev i_normal := Ctr.mk (i := 0) (g := 54) @c_normal
attribute [instance] i_normal
theorem c_normal_sl {h : List Ch} {K : KT} {l : List Rng} {g n : Nat} (H : K (.ro .rng (ofL l)) (frHs g .rng l (h.set g .gone))) (o : hth h g = .rows .rng l) (s1 : n = l.length) (s2 : l.length ≤ 1000000000) (s3 : frObH g .rng l.length h) : Does Try.prog 54 [.sl g .rng 0 n] h K := by
  subst s1
  refine Does.ghost (gh_frz (t := g) (e := .rng) (xs := l) o (by simp [frObL, frOb]) s3) ?_
  have e : frL g .rng l [.sl g .rng 0 l.length] = [.ro .rng l] := by simp [frL, frA]
  rw [e]
  exact c_normal H isRO_ro s2
abbrev i_normal_sl := Ctr.mk (i := 1) (g := 54) @c_normal_sl
attribute [instance] i_normal_sl
theorem b_add (l : List Rng) (r : Rng) (hl : l.length ≤ 900000000) : DoesK Try.prog 0 38 [.ro .rng l, .agg [.int .i64 r.from_, .int .i64 r.to_]] [] (EndF 0 (.ro .rng (insF (ofL l) r)) []) := by
  refine DoesK.close ?_
  have ha := of_add l r
  refine w_body (rs := [.tmp 4]) (tm := [.ro .rng l, .agg [.int .i64 r.from_, .int .i64 r.to_], .any, .any, .any, .any, .any, .any, .any, .any, .any]) fn_38 rfl rfl rfl rfl fun R hR => ?_
  (have zx1 := @ha; all_goals (try ((first | (with_reducible refine wp_id ?_) | (with_reducible refine does_id ?_) | (with_reducible refine ops_id ?_)); refine walk ?_; (repeat' (first | exact trivial | with_reducible refine And.intro ?_ ?_)); all_goals (repeat (first | (with_reducible refine ImpB.mk fun hb => ?_) | (with_reducible refine ImpK.mk fun hK => ?_) | (with_reducible refine ImpF.mk fun hF => ?_) | (with_reducible refine ImpQ.mk fun hp => ?_) | (with_reducible refine AllE.mk fun p => ?_) | (with_reducible refine AllR.mk fun rest => ?_) | (with_reducible refine AllK.mk fun K => ?_))))); repeat' (with_reducible refine And.intro ?_ ?_))
  (all_goals first | exact Int.natCast_nonneg _ | exact Int.ofNat_lt.2 (by assumption) | assumption | omega | exact Nat.le_refl _ | (exfalso; simp at hb; done) | (simp only [go_sem, decide_true, decide_false, Int.reduceToNat, Nat.min_eq_left, Nat.min_eq_right, Int.reducePow, Nat.reducePow, Int.reduceLE, Int.reduceLT, Int.reduceMul, Int.reduceAdd, Int.reduceSub, Int.reduceNeg, Bool.not_true, Bool.not_false, Bool.not_not, ↓reduceIte, Nat.reduceAdd, Nat.reduceSub, Nat.reduceMul, Nat.reduceEqDiff, reduceCtorEq, Nat.reduceLT, Nat.reduceLeDiff, Nat.reduceGT]; done) | (unfold capM; omega) | (simp only [List.length_drop, List.length_take, List.length_append, List.length_cons, List.length_nil]; omega) | skip)
  (focus (refine ⟨_, _, Gh.refl, [], rfl, ?_⟩; (refine fitq ?_ ?_ ?_ <;> try exact trivial); (try any_goals (refine ⟨?_, ?_⟩)); (try any_goals (with_reducible rfl))))
theorem c_add {h : List Ch} {K : KT} {l : List Rng} {r : Rng} {a : AV} (H : K (.ro .rng (insF (ofL l) r)) h) (q1 : isRO .rng l a) (s1 : l.length ≤ 900000000) : Does Try.prog 38 [a, .agg [.int .i64 r.from_, .int .i64 r.to_]] h K :=
  frame_pure (b_add l r s1) (br_cons q1.br (br_cons (br_agg (br_cons br_int (br_cons br_int br_nil))) br_nil)) (.inl (by simp only [brTL, q1.brT]; rfl)) (fun _ => rfl) H
theorem pieces_len (s : List Rng) (r : Rng) : (pieces s r).length = 2 * s.length := by
  induction s with
  | nil => rfl
  | cons x s ih =>
    unfold pieces at ih ⊢
    rw [List.flatMap_cons, List.length_append, List.length_cons, List.length_cons, List.length_cons, List.length_nil]
    omega
theorem pieces_next {s : List Rng} {r : Rng} {k : Nat} (hk : k < s.length) : pieces (s.take (k + 1)) r = pieces (s.take k) r ++ [lftR (rAt s k) r, rgtR (rAt s k) r] := by
  unfold pieces
  rw [take_next hk, List.flatMap_append, List.flatMap_singleton]
theorem b_rem (l : List Rng) (r : Rng) (hl : l.length ≤ 1000000) : DoesK Try.prog 0 39 [.ro .rng l, .agg [.int .i64 r.from_, .int .i64 r.to_]] [] (EndF 0 (.ro .rng (remF (ofL l) r)) []) := by
  refine DoesK.close ?_
  have hl2 := of_len l
  have hv := of_vld l
  obtain ⟨s, hs⟩ : ∃ s, ofL l = s := ⟨_, rfl⟩
  rw [hs] at hl2 hv ⊢
  by_cases hc : r.to_ ≤ r.from_
  · have hcd : decide (r.to_ ≤ r.from_) = true := decide_eq_true hc
    have e1 : remF s r = s := by unfold remF; rw [if_pos hc]
    rw [e1]
    refine w_body (rs := [.tmp 4]) (tm := [.ro .rng l, .agg [.int .i64 r.from_, .int .i64 r.to_], .any, .any, .any, .any, .any, .any, .any, .any, .any, .any, .any, .any, .any, .any, .any, .any, .any, .any, .any, .any, .any, .any, .any, .any, .any, .any, .any, .any, .any, .any, .any, .any, .any, .any, .any, .any, .any, .any, .any, .any, .any, .any]) fn_39 rfl rfl rfl rfl fun R hR => ?_
    (have zx1 := @hs; have zx2 := @hcd; all_goals (try ((first | (with_reducible refine wp_id ?_) | (with_reducible refine does_id ?_) | (with_reducible refine ops_id ?_)); refine walk ?_; (repeat' (first | exact trivial | with_reducible refine And.intro ?_ ?_)); all_goals (repeat (first | (with_reducible refine ImpB.mk fun hb => ?_) | (with_reducible refine ImpK.mk fun hK => ?_) | (with_reducible refine ImpF.mk fun hF => ?_) | (with_reducible refine ImpQ.mk fun hp => ?_) | (with_reducible refine AllE.mk fun p => ?_) | (with_reducible refine AllR.mk fun rest => ?_) | (with_reducible refine AllK.mk fun K => ?_))))); repeat' (with_reducible refine And.intro ?_ ?_))
    (all_goals first | exact Int.natCast_nonneg _ | exact Int.ofNat_lt.2 (by assumption) | assumption | omega | exact Nat.le_refl _ | (exfalso; simp at hb; done) | (simp only [go_sem, decide_true, decide_false, Int.reduceToNat, Nat.min_eq_left, Nat.min_eq_right, Int.reducePow, Nat.reducePow, Int.reduceLE, Int.reduceLT, Int.reduceMul, Int.reduceAdd, Int.reduceSub, Int.reduceNeg, Bool.not_true, Bool.not_false, Bool.not_not, ↓reduceIte, Nat.reduceAdd, Nat.reduceSub, Nat.reduceMul, Nat.reduceEqDiff, reduceCtorEq, Nat.reduceLT, Nat.reduceLeDiff, Nat.reduceGT]; done) | (unfold capM; omega) | (simp only [List.length_drop, List.length_take, List.length_append, List.length_cons, List.length_nil]; omega) | skip)
    (focus (refine ⟨_, _, Gh.refl, [], rfl, ?_⟩; (refine fitq ?_ ?_ ?_ <;> try exact trivial); (try any_goals (refine ⟨?_, ?_⟩)); (try any_goals (with_reducible rfl))))
  · have hcd : decide (r.to_ ≤ r.from_) = false := decide_eq_false hc
    have e1 : remF s r = remL s r := by unfold remF; rw [if_neg hc]
    rw [e1, ← pieces_of hv (by omega)]
    refine w_body (rs := [.tmp 4]) (tm := [.ro .rng l, .agg [.int .i64 r.from_, .int .i64 r.to_], .any, .any, .any, .any, .any, .any, .any, .any, .any, .any, .any, .any, .any, .any, .any, .any, .any, .any, .any, .any, .any, .any, .any, .any, .any, .any, .any, .any, .any, .any, .any, .any, .any, .any, .any, .any, .any, .any, .any, .any, .any, .any]) fn_39 rfl rfl rfl rfl fun R hR => ?_
    (have zx1 := @hs; have zx2 := @hcd; all_goals (try ((first | (with_reducible refine wp_id ?_) | (with_reducible refine does_id ?_) | (with_reducible refine ops_id ?_)); refine walk ?_; (repeat' (first | exact trivial | with_reducible refine And.intro ?_ ?_)); all_goals (repeat (first | (with_reducible refine ImpB.mk fun hb => ?_) | (with_reducible refine ImpK.mk fun hK => ?_) | (with_reducible refine ImpF.mk fun hF => ?_) | (with_reducible refine ImpQ.mk fun hp => ?_) | (with_reducible refine AllE.mk fun p => ?_) | (with_reducible refine AllR.mk fun rest => ?_) | (with_reducible refine AllK.mk fun K => ?_))))); repeat' (with_reducible refine And.intro ?_ ?_))
    refine Wp.ghost (gh_adopt (s := 5) .rng trivial) ?_
    simp only [go_sem, decide_true, decide_false, Int.reduceToNat, Nat.min_eq_left, Nat.min_eq_right, Int.reducePow, Nat.reducePow, Int.reduceLE, Int.reduceLT, Int.reduceMul, Int.reduceAdd, Int.reduceSub, Int.reduceNeg, Bool.not_true, Bool.not_false, Bool.not_not, ↓reduceIte, Nat.reduceAdd, Nat.reduceSub, Nat.reduceMul, Nat.reduceEqDiff, reduceCtorEq, Nat.reduceLT, Nat.reduceLeDiff, Nat.reduceGT]
    any_goals ((try (refine w_seq fun K hK => ?_)); (try (refine w_block ?_)); refine w_loop (A := Nat) (fun k => k ≤ s.length) (fun k => s.length - k) (fun k => [(5, .sl 1 .rng 0 (pieces (s.take k) r).length), (18, .int .i64 k)]) (fun k => [(1, .rows .rng (pieces (s.take k) r))]) (0) (ws := ?ws2) (tk := ?tk2) ?hw2 ?ht2 ?hi ?h0 ?LH2; (case hw2 => simp only [go_sem, decide_true, decide_false, Int.reduceToNat, Nat.min_eq_left, Nat.min_eq_right, Int.reducePow, Nat.reducePow, Int.reduceLE, Int.reduceLT, Int.reduceMul, Int.reduceAdd, Int.reduceSub, Int.reduceNeg, Bool.not_true, Bool.not_false, Bool.not_not, ↓reduceIte, Nat.reduceAdd, Nat.reduceSub, Nat.reduceMul, Nat.reduceEqDiff, reduceCtorEq, Nat.reduceLT, Nat.reduceLeDiff, Nat.reduceGT]; exact rfl); (case ht2 => simp only [go_sem, decide_true, decide_false, Int.reduceToNat, Nat.min_eq_left, Nat.min_eq_right, Int.reducePow, Nat.reducePow, Int.reduceLE, Int.reduceLT, Int.reduceMul, Int.reduceAdd, Int.reduceSub, Int.reduceNeg, Bool.not_true, Bool.not_false, Bool.not_not, ↓reduceIte, Nat.reduceAdd, Nat.reduceSub, Nat.reduceMul, Nat.reduceEqDiff, reduceCtorEq, Nat.reduceLT, Nat.reduceLeDiff, Nat.reduceGT]; exact rfl); (case' LH2 => rintro k E t hx hE ht; simp only [go_sem] at ht; subst ht; simp only [go_sem]; try dsimp only at hx))
    case hi => exact Nat.zero_le _
    case h0 =>
      (focus (refine ⟨_, _, Gh.refl, [0, 1], rfl, ?_⟩; (refine fitq ?_ ?_ ?_ <;> try exact trivial); (try any_goals (refine ⟨?_, ?_⟩)); (try any_goals (with_reducible rfl))))
      all_goals rfl
    case LH2 =>
      have hw : IntKind.i64.wrap ((k : Int) + 1) = ((k + 1 : Nat) : Int) := by rw [wrap_i64 _ (by omega) (by omega)]; omega
      have hpl := pieces_len (s.take k) r
      rw [List.length_take] at hpl
      by_cases hk : k < s.length
      · have hkd : decide ((k : Int) < s.length) = true := decide_eq_true (by omega)
        have hn := pieces_next (r := r) hk
        (have zx1 := @hkd; all_goals (try ((first | (with_reducible refine wp_id ?_) | (with_reducible refine does_id ?_) | (with_reducible refine ops_id ?_)); refine walk ?_; (repeat' (first | exact trivial | with_reducible refine And.intro ?_ ?_)); all_goals (repeat (first | (with_reducible refine ImpB.mk fun hb => ?_) | (with_reducible refine ImpK.mk fun hK => ?_) | (with_reducible refine ImpF.mk fun hF => ?_) | (with_reducible refine ImpQ.mk fun hp => ?_) | (with_reducible refine AllE.mk fun p => ?_) | (with_reducible refine AllR.mk fun rest => ?_) | (with_reducible refine AllK.mk fun K => ?_))))); repeat' (with_reducible refine And.intro ?_ ?_))
        (all_goals first | exact Int.natCast_nonneg _ | exact Int.ofNat_lt.2 (by assumption) | assumption | omega | exact Nat.le_refl _ | (exfalso; simp at hb; done) | (simp only [go_sem, decide_true, decide_false, Int.reduceToNat, Nat.min_eq_left, Nat.min_eq_right, Int.reducePow, Nat.reducePow, Int.reduceLE, Int.reduceLT, Int.reduceMul, Int.reduceAdd, Int.reduceSub, Int.reduceNeg, Bool.not_true, Bool.not_false, Bool.not_not, ↓reduceIte, Nat.reduceAdd, Nat.reduceSub, Nat.reduceMul, Nat.reduceEqDiff, reduceCtorEq, Nat.reduceLT, Nat.reduceLeDiff, Nat.reduceGT]; done) | (unfold capM; omega) | (simp only [List.length_drop, List.length_take, List.length_append, List.length_cons, List.length_nil]; omega) | skip)
        refine ⟨k + 1, ⟨by first | omega | (dsimp only; omega), by first | omega | (dsimp only; omega)⟩, ?_⟩
        (focus (refine ⟨_, _, Gh.refl, [0, 4], rfl, ?_⟩; (refine fitq ?_ ?_ ?_ <;> try exact trivial); (try any_goals (refine ⟨?_, ?_⟩)); (try any_goals (with_reducible rfl))))
        all_goals first | exact hw.symm | (rw [hn]; first | done | rfl | simp) | skip
      · have hkd : decide ((k : Int) < s.length) = false := decide_eq_false (by omega)
        rw [List.take_of_length_le (by omega)] at hpl ⊢
        have hpl2 : (pieces s r).length ≤ 1000000000 := by omega
        (have zx1 := @hkd; all_goals (try ((first | (with_reducible refine wp_id ?_) | (with_reducible refine does_id ?_) | (with_reducible refine ops_id ?_)); refine walk ?_; (repeat' (first | exact trivial | with_reducible refine And.intro ?_ ?_)); all_goals (repeat (first | (with_reducible refine ImpB.mk fun hb => ?_) | (with_reducible refine ImpK.mk fun hK => ?_) | (with_reducible refine ImpF.mk fun hF => ?_) | (with_reducible refine ImpQ.mk fun hp => ?_) | (with_reducible refine AllE.mk fun p => ?_) | (with_reducible refine AllR.mk fun rest => ?_) | (with_reducible refine AllK.mk fun K => ?_))))); repeat' (with_reducible refine And.intro ?_ ?_))
        (all_goals first | exact Int.natCast_nonneg _ | exact Int.ofNat_lt.2 (by assumption) | assumption | omega | exact Nat.le_refl _ | (exfalso; simp at hb; done) | (simp only [go_sem, decide_true, decide_false, Int.reduceToNat, Nat.min_eq_left, Nat.min_eq_right, Int.reducePow, Nat.reducePow, Int.reduceLE, Int.reduceLT, Int.reduceMul, Int.reduceAdd, Int.reduceSub, Int.reduceNeg, Bool.not_true, Bool.not_false, Bool.not_not, ↓reduceIte, Nat.reduceAdd, Nat.reduceSub, Nat.reduceMul, Nat.reduceEqDiff, reduceCtorEq, Nat.reduceLT, Nat.reduceLeDiff, Nat.reduceGT]; done) | (unfold capM; omega) | (simp only [List.length_drop, List.length_take, List.length_append, List.length_cons, List.length_nil]; omega) | skip)
        (focus (refine ⟨_, _, Gh.refl, [], rfl, ?_⟩; (refine fitq ?_ ?_ ?_ <;> try exact trivial); (try any_goals (refine ⟨?_, ?_⟩)); (try any_goals (with_reducible rfl))))
theorem c_rem {h : List Ch} {K : KT} {l : List Rng} {r : Rng} {a : AV} (H : K (.ro .rng (remF (ofL l) r)) h) (q1 : isRO .rng l a) (s1 : l.length ≤ 1000000) : Does Try.prog 39 [a, .agg [.int .i64 r.from_, .int .i64 r.to_]] h K :=
  frame_pure (b_rem l r s1) (br_cons q1.br (br_cons (br_agg (br_cons br_int (br_cons br_int br_nil))) br_nil)) (.inl (by simp only [brTL, q1.brT]; rfl)) (fun _ => rfl) H
end Go.V

set_option maxRecDepth 100000
set_option maxHeartbeats 8000000
namespace Go.V
open Go.Proofs
theorem c_add2 {h : List Ch} {K : KT} {l : List Rng} {f t : Int} {a : AV} (H : K (.ro .rng (insF (ofL l) ⟨f, t⟩)) h) (q1 : isRO .rng l a) (s1 : l.length ≤ 900000000) : Does Try.prog 38 [a, .agg [.int .i64 f, .int .i64 t]] h K := c_add (r := ⟨f, t⟩) H q1 s1
abbrev i_add2 := Ctr.mk (i := 1) (g := 38) @c_add2
attribute [instance] i_add2
theorem c_rem2 {h : List Ch} {K : KT} {l : List Rng} {f t : Int} {a : AV} (H : K (.ro .rng (remF (ofL l) ⟨f, t⟩)) h) (q1 : isRO .rng l a) (s1 : l.length ≤ 1000000) : Does Try.prog 39 [a, .agg [.int .i64 f, .int .i64 t]] h K := c_rem (r := ⟨f, t⟩) H q1 s1
abbrev i_rem2 := Ctr.mk (i := 1) (g := 39) @c_rem2
attribute [instance] i_rem2
end Go.V

set_option maxRecDepth 100000
set_option maxHeartbeats 8000000
namespace Go.V
open Go.Proofs
def addO (p c t : Int) (xs : List Ent) : List Ent × Int := addA p c t (ext (eAt xs (xs.length - 1)).count c) xs
theorem c_addO {h : List Ch} {K : KT} {u : Nat} {p c t : Int} {xs : List Ent} (H : K (.int .i64 (addO p c t xs).2) (h.set u (.pack (AO p (addO p c t xs).1)))) (o : hth h u = .pack (AO p xs)) (e1 : isIt p c t) (s1 : 0 < xs.length) (s2 : xs.length ≤ 1000000) (s3 : -1099511627776 ≤ (eAt xs (xs.length - 1)).count ∧ (eAt xs (xs.length - 1)).count ≤ 1099511627776) : Does Try.prog 10 [.ptr u 0, .agg [.int .i64 p, .int .i64 c, .int .i64 t, .lit (.slice none 0 0)]] h K := -- nocall
  frame_obj0 (b_addO p c t xs _ e1 s1 s2 s3 rfl) o (by simp) (fitC_pack _) (br_cons (br_ptr rfl) (br_cons (br_agg (br_cons br_int (br_cons br_int (br_cons br_int (br_cons br_lit br_nil))))) br_nil)) (.inl rfl) (fun _ => rfl) rfl H

def ASL (p : Int) (xs : List Ent) : List Ch := if xs.length = 0 then AE else AO p xs
theorem ASL_nil (p : Int) : ASL p [] = AE := rfl
theorem ASL_pos {p : Int} {xs : List Ent} (h : 0 < xs.length) : ASL p xs = AO p xs := if_neg (by omega)
def addS (p c t : Int) (xs : List Ent) : List Ent × Int := if xs.length = 0 then ([⟨c, p, c, t, []⟩], 0) else addO p c t xs
/-- lists with which Add does well -/
structure okE (xs : List Ent) : Prop where
  len : xs.length ≤ 1000000
  cnt : -1099511627776 ≤ (eAt xs (xs.length - 1)).count ∧ (eAt xs (xs.length - 1)).count ≤ 1099511627776
theorem addA_len (p c t e : Int) (xs : List Ent) (h : 0 < xs.length) : 0 < (addA p c t e xs).1.length := by
  unfold addA
  split
  · exact h
  · show 0 < (List.take _ xs ++ _ :: _).length
    rw [List.length_append, List.length_cons]; omega
theorem c_addS {h : List Ch} {K : KT} {u : Nat} {p q c t r : Int} {xs ys : List Ent} (H : K (.int .i64 r) (h.set u (.pack (ASL p ys)))) (o : hth h u = .pack (ASL q xs)) (e1 : isIt p c t) (e2 : okE xs) (e3 : addS p c t xs = (ys, r)) (s1 : p = q) : Does Try.prog 10 [.ptr u 0, .agg [.int .i64 p, .int .i64 c, .int .i64 t, .lit (.slice none 0 0)]] h K := by
  subst s1
  by_cases hn : xs.length = 0
  · obtain rfl := List.eq_nil_of_length_eq_zero hn
    have e : addS p c t [] = ([⟨c, p, c, t, []⟩], 0) := rfl
    rw [e] at e3
    obtain ⟨rfl, rfl⟩ := Prod.mk.inj e3
    exact k_add0 H o e1
  · have hp : 0 < xs.length := by omega
    rw [ASL_pos hp] at o
    have e : addS p c t xs = addO p c t xs := if_neg hn
    have e4 : ASL p (addO p c t xs).1 = AO p (addO p c t xs).1 := ASL_pos (addA_len _ _ _ _ _ hp)
    rw [← e, e3] at e4
    dsimp only at e4
    rw [e4] at H
    refine c_addO ?_ o e1 hp e2.len e2.cnt
    rw [← e, e3]
    exact H
abbrev i_addS := Ctr.mk (i := 0) (g := 10) @c_addS
attribute [instance] i_addS
theorem c_addZ {h : List Ch} {K : KT} {u : Nat} {p c t : Int} (H : K (.int .i64 0) (h.set u (.pack (ASL p [⟨c, p, c, t, []⟩])))) (o : hth h u = .pack AE) (e1 : isIt p c t) : Does Try.prog 10 [.ptr u 0, .agg [.int .i64 p, .int .i64 c, .int .i64 t, .lit (.slice none 0 0)]] h K := k_add0 H o e1
abbrev i_addZ := Ctr.mk (i := 1) (g := 10) @c_addZ
attribute [instance] i_addZ
end Go.V

set_option maxRecDepth 100000
set_option maxHeartbeats 8000000
namespace Go.V
open Go.Proofs
theorem posE_at {xs : List Ent} {e : Int} {i : Nat} (h0 : ∀ k, i = k + 1 → (eAt xs k).count < e) : ∀ j, i ≤ j → (∀ k, i ≤ k → k < j → e ≤ (eAt xs k).count) → posE xs e j = i
  | 0, h1, _ => by rw [posE]; omega
  | j + 1, h1, h2 => by
    rw [posE]
    by_cases c : i = j + 1
    · rw [if_neg (by have := h0 j c; omega), c]
    · rw [if_pos (h2 j (by omega) (by omega))]
      exact posE_at h0 j (by omega) fun k a b => h2 k a (by omega)
/-- gaps of a list of entries -/
def gapsF (xs : List Ent) : List Rng := if xs.length = 0 then [] else xs.foldl (fun out x => remF (ofL out) ⟨x.count, x.count + 1⟩) (insF (ofL []) ⟨(eAt xs 0).count, (eAt xs (xs.length - 1)).count + 1⟩)
end Go.V

set_option maxRecDepth 100000
set_option maxHeartbeats 8000000
namespace Go.V
open Go.Proofs
theorem k_entE {n0 : Nat} {h : List Ch} {K : KT} {u : Nat} {p : Int} (o : hth h u = .cells [.bool true, .lit (.slice none 0 0)]) (H : K (.lit (.slice none 0 0)) h) : DoesK Try.prog n0 37 [.ptr u 0, .int .i64 p] h K := by
  refine w_body (rs := [.tmp 4]) (tm := [.ptr u 0, .int .i64 p, .any, .any, .any, .any, .any, .any, .any, .any, .any, .any, .any, .any, .any, .any, .any, .any, .any, .any, .any, .any, .any, .any, .any, .any]) fn_37 rfl rfl rfl rfl fun R hR => ?_
  (have zx1 := @o; all_goals (try ((first | (with_reducible refine wp_id ?_) | (with_reducible refine does_id ?_) | (with_reducible refine ops_id ?_)); refine walk ?_; (repeat' (first | exact trivial | with_reducible refine And.intro ?_ ?_)); all_goals (repeat (first | (with_reducible refine ImpB.mk fun hb => ?_) | (with_reducible refine ImpK.mk fun hK => ?_) | (with_reducible refine ImpF.mk fun hF => ?_) | (with_reducible refine ImpQ.mk fun hp => ?_) | (with_reducible refine AllE.mk fun p => ?_) | (with_reducible refine AllR.mk fun rest => ?_) | (with_reducible refine AllK.mk fun K => ?_))))); repeat' (with_reducible refine And.intro ?_ ?_))
  exact H
theorem c_entE {h : List Ch} {K : KT} {u : Nat} {p : Int} (H : K (.lit (.slice none 0 0)) h) (o : hth h u = .cells [.bool true, .lit (.slice none 0 0)]) : Does Try.prog 37 [.ptr u 0, .int .i64 p] h K := Does.of_K (k_entE o H)
abbrev i_entE := Ctr.mk (i := 0) (g := 37) @c_entE
attribute [instance] i_entE
theorem k_entO {n0 : Nat} {h : List Ch} {K : KT} {u v g m : Nat} {p : Int} (o : hth h u = .cells [.bool true, .csl v 1 2]) (o1 : hth h v = .crow [.int .i64 p, .sl g .ent 0 m]) (H : K (.sl g .ent 0 m) h) : DoesK Try.prog n0 37 [.ptr u 0, .int .i64 p] h K := by
  refine w_body (rs := [.tmp 4]) (tm := [.ptr u 0, .int .i64 p, .any, .any, .any, .any, .any, .any, .any, .any, .any, .any, .any, .any, .any, .any, .any, .any, .any, .any, .any, .any, .any, .any, .any, .any]) fn_37 rfl rfl rfl rfl fun R hR => ?_
  (have zx1 := @o; have zx2 := @o1; all_goals (try ((first | (with_reducible refine wp_id ?_) | (with_reducible refine does_id ?_) | (with_reducible refine ops_id ?_)); refine walk ?_; (repeat' (first | exact trivial | with_reducible refine And.intro ?_ ?_)); all_goals (repeat (first | (with_reducible refine ImpB.mk fun hb => ?_) | (with_reducible refine ImpK.mk fun hK => ?_) | (with_reducible refine ImpF.mk fun hF => ?_) | (with_reducible refine ImpQ.mk fun hp => ?_) | (with_reducible refine AllE.mk fun p => ?_) | (with_reducible refine AllR.mk fun rest => ?_) | (with_reducible refine AllK.mk fun K => ?_))))); repeat' (with_reducible refine And.intro ?_ ?_))
  all_goals first | exact H | skip
theorem c_entO {h : List Ch} {K : KT} {u v g m : Nat} {p : Int} (H : K (.sl g .ent 0 m) h) (o : hth h u = .cells [.bool true, .csl v 1 2]) (o1 : hth h v = .crow [.int .i64 p, .sl g .ent 0 m]) : Does Try.prog 37 [.ptr u 0, .int .i64 p] h K := Does.of_K (k_entO o o1 H)
abbrev i_entO := Ctr.mk (i := 1) (g := 37) @c_entO
attribute [instance] i_entO
def gapK (xs : List Ent) (k : Nat) : List Rng := (xs.take k).foldl (fun out x => remF (ofL out) ⟨x.count, x.count + 1⟩) (insF (ofL []) ⟨(eAt xs 0).count, (eAt xs (xs.length - 1)).count + 1⟩)
theorem gapK_next {xs : List Ent} {k : Nat} (h : k < xs.length) : gapK xs (k + 1) = remF (ofL (gapK xs k)) ⟨(xs.getD k Ent.zero).count, (xs.getD k Ent.zero).count + 1⟩ := by
  unfold gapK
  rw [List.take_succ_eq_append_getElem h, List.foldl_append]
  rw [List.getD_eq_getElem?_getD, List.getElem?_eq_getElem h]
  rfl
theorem gapK_len (xs : List Ent) : ∀ k, k ≤ xs.length → (gapK xs k).length ≤ k + 1
  | 0, _ => by
    have := insF_len (ofL []) ⟨(eAt xs 0).count, (eAt xs (xs.length - 1)).count + 1⟩
    exact this
  | k + 1, h => by
    rw [gapK_next (by omega)]
    have h1 := remF_len (r := ⟨(xs.getD k Ent.zero).count, (xs.getD k Ent.zero).count + 1⟩) (of_vld (gapK xs k))
    have h2 := of_len (gapK xs k)
    have h3 := gapK_len xs k (by omega)
    omega
theorem gapK_all {xs : List Ent} (h : 0 < xs.length) : gapK xs xs.length = gapsF xs := by
  unfold gapK gapsF
  rw [if_neg (by omega), List.take_length]
/-- counts of a list that may be added to -/
structure okC (xs : List Ent) : Prop where
  len : xs.length ≤ 900000
  cnt : ∀ k, -4611686018427387904 ≤ (xs.getD k Ent.zero).count ∧ (xs.getD k Ent.zero).count ≤ 4611686018427387904
theorem b_gapO (p : Int) (xs : List Ent) (hl : 0 < xs.length) (hc : okC xs) :
    DoesK Try.prog 1 13 [.ptr 0 0, .int .i64 p] [.pack (AO p xs)] (EndF 1 (.ro .rng (gapsF xs)) ([.pack (AO p xs)] ++ [])) := by
  refine DoesK.close ?_
  obtain ⟨hc1, hc2⟩ := hc
  have hw1 : IntKind.i64.wrap ((xs.length : Int) - 1) = ((xs.length - 1 : Nat) : Int) := by rw [wrap_i64 _ (by omega) (by omega)]; omega
  have hnz : decide ((xs.length : Int) = 0) = false := decide_eq_false (by omega)
  obtain ⟨g0, hg0⟩ : ∃ g0, (xs.getD 0 Ent.zero).count = g0 := ⟨_, rfl⟩
  obtain ⟨g1, hg1⟩ : ∃ g1, (xs.getD (xs.length - 1) Ent.zero).count = g1 := ⟨_, rfl⟩
  have q1 := hc2 (xs.length - 1)
  rw [hg1] at q1
  have hw2 : IntKind.i64.wrap (g1 + 1) = g1 + 1 := wrap_i64 _ (by omega) (by omega)
  have hst : insF (ofL []) ⟨g0, g1 + 1⟩ = gapK xs 0 := by rw [← hg0, ← hg1]; rfl
  refine w_body (rs := [.tmp 4]) (tm := [.ptr 0 0, .int .i64 p, .any, .any, .any, .any, .any, .any, .any, .any, .any, .any, .any, .any, .any, .any, .any, .any, .any, .any, .any, .any, .any, .any, .any, .any, .any, .any, .any, .any, .any, .any, .any, .any, .any, .any, .any, .any, .any, .any, .any, .any, .any, .any, .any]) fn_13 rfl rfl rfl rfl fun R hR => ?_
  refine w_open 0 rfl rfl ?_
  simp only [go_sem, decide_true, decide_false, Int.reduceToNat, Nat.min_eq_left, Nat.min_eq_right, Int.reducePow, Nat.reducePow, Int.reduceLE, Int.reduceLT, Int.reduceMul, Int.reduceAdd, Int.reduceSub, Int.reduceNeg, Bool.not_true, Bool.not_false, Bool.not_not, ↓reduceIte, Nat.reduceAdd, Nat.reduceSub, Nat.reduceMul, Nat.reduceEqDiff, reduceCtorEq, Nat.reduceLT, Nat.reduceLeDiff, Nat.reduceGT]
  (have zx1 := @hw1; have zx2 := @hnz; have zx3 := @hg0; have zx4 := @hg1; have zx5 := @hw2; have zx6 := @hst; all_goals (try ((first | (with_reducible refine wp_id ?_) | (with_reducible refine does_id ?_) | (with_reducible refine ops_id ?_)); refine walk ?_; (repeat' (first | exact trivial | with_reducible refine And.intro ?_ ?_)); all_goals (repeat (first | (with_reducible refine ImpB.mk fun hb => ?_) | (with_reducible refine ImpK.mk fun hK => ?_) | (with_reducible refine ImpF.mk fun hF => ?_) | (with_reducible refine ImpQ.mk fun hp => ?_) | (with_reducible refine AllE.mk fun p => ?_) | (with_reducible refine AllR.mk fun rest => ?_) | (with_reducible refine AllK.mk fun K => ?_))))); repeat' (with_reducible refine And.intro ?_ ?_))
  any_goals first | exact Int.natCast_nonneg _ | (show ((xs.length - 1 : Nat) : Int) < (xs.length : Int); omega) | (show xs.length - 1 < xs.length; omega) | exact hl | (show (0 : Int) < (xs.length : Int); omega)
  any_goals ((try (refine w_seq fun K hK => ?_)); (try (refine w_block ?_)); refine w_loop (A := Nat) (fun k => k ≤ xs.length) (fun k => xs.length - k) (fun k => [(6, .ro .rng (gapK xs k)), (31, .int .i64 k)]) (fun k => []) (0) (ws := ?ws1) (tk := ?tk1) ?hw1 ?ht1 ?hi ?h0 ?LH1; (case hw1 => simp only [go_sem, decide_true, decide_false, Int.reduceToNat, Nat.min_eq_left, Nat.min_eq_right, Int.reducePow, Nat.reducePow, Int.reduceLE, Int.reduceLT, Int.reduceMul, Int.reduceAdd, Int.reduceSub, Int.reduceNeg, Bool.not_true, Bool.not_false, Bool.not_not, ↓reduceIte, Nat.reduceAdd, Nat.reduceSub, Nat.reduceMul, Nat.reduceEqDiff, reduceCtorEq, Nat.reduceLT, Nat.reduceLeDiff, Nat.reduceGT]; exact rfl); (case ht1 => simp only [go_sem, decide_true, decide_false, Int.reduceToNat, Nat.min_eq_left, Nat.min_eq_right, Int.reducePow, Nat.reducePow, Int.reduceLE, Int.reduceLT, Int.reduceMul, Int.reduceAdd, Int.reduceSub, Int.reduceNeg, Bool.not_true, Bool.not_false, Bool.not_not, ↓reduceIte, Nat.reduceAdd, Nat.reduceSub, Nat.reduceMul, Nat.reduceEqDiff, reduceCtorEq, Nat.reduceLT, Nat.reduceLeDiff, Nat.reduceGT]; exact rfl); (case' LH1 => rintro k E t hx hE ht; simp only [go_sem] at ht; subst ht; simp only [go_sem]; try dsimp only at hx))
  case hi => exact Nat.zero_le _
  case h0 =>
    (focus (refine ⟨_, _, Gh.refl, [0, 1, 2], rfl, ?_⟩; (refine fitq ?_ ?_ ?_ <;> try exact trivial); (try any_goals (refine ⟨?_, ?_⟩)); (try any_goals (with_reducible rfl))))
    all_goals (repeat' (first | (refine And.intro ?_ ?_) | rfl))
  case LH1 =>
    have hk0 : k ≤ xs.length := hx
    have hw : IntKind.i64.wrap ((k : Int) + 1) = ((k + 1 : Nat) : Int) := by rw [wrap_i64 _ (by omega) (by omega)]; omega
    by_cases hk : k < xs.length
    · have hkd : decide ((k : Int) < (xs.length : Int)) = true := decide_eq_true (by omega)
      have q2 := hc2 k
      obtain ⟨y, hy⟩ : ∃ y, xs.getD k Ent.zero = y := ⟨_, rfl⟩
      rw [hy] at q2
      have hw3 : IntKind.i64.wrap (y.count + 1) = y.count + 1 := wrap_i64 _ (by omega) (by omega)
      have hn := gapK_next hk
      rw [hy] at hn
      have hgl : (gapK xs k).length ≤ 1000000 := Nat.le_trans (gapK_len xs k hk0) (by omega)
      (have zx1 := @hkd; have zx2 := @hw; have zx3 := @hy; have zx4 := @hw3; all_goals (try ((first | (with_reducible refine wp_id ?_) | (with_reducible refine does_id ?_) | (with_reducible refine ops_id ?_)); refine walk ?_; (repeat' (first | exact trivial | with_reducible refine And.intro ?_ ?_)); all_goals (repeat (first | (with_reducible refine ImpB.mk fun hb => ?_) | (with_reducible refine ImpK.mk fun hK => ?_) | (with_reducible refine ImpF.mk fun hF => ?_) | (with_reducible refine ImpQ.mk fun hp => ?_) | (with_reducible refine AllE.mk fun p => ?_) | (with_reducible refine AllR.mk fun rest => ?_) | (with_reducible refine AllK.mk fun K => ?_))))); repeat' (with_reducible refine And.intro ?_ ?_))
      any_goals first | exact Int.natCast_nonneg _ | (show (k : Int) < (xs.length : Int); omega) | (show k < xs.length; omega)
      refine ⟨k + 1, ⟨(by omega : k + 1 ≤ xs.length), (by first | omega | (dsimp only; omega))⟩, ?_⟩
      dsimp only
      rw [hn]
      (focus (refine ⟨_, _, Gh.refl, [0, 1, 2], rfl, ?_⟩; (refine fitq ?_ ?_ ?_ <;> try exact trivial); (try any_goals (refine ⟨?_, ?_⟩)); (try any_goals (with_reducible rfl))))
      all_goals (repeat' (first | (refine And.intro ?_ ?_) | rfl))
    · have hkd : decide ((k : Int) < (xs.length : Int)) = false := decide_eq_false (by omega)
      have hke : k = xs.length := by omega
      have hg : gapK xs k = gapsF xs := by rw [hke]; exact gapK_all hl
      rw [hg]
      (have zx1 := @hkd; all_goals (try ((first | (with_reducible refine wp_id ?_) | (with_reducible refine does_id ?_) | (with_reducible refine ops_id ?_)); refine walk ?_; (repeat' (first | exact trivial | with_reducible refine And.intro ?_ ?_)); all_goals (repeat (first | (with_reducible refine ImpB.mk fun hb => ?_) | (with_reducible refine ImpK.mk fun hK => ?_) | (with_reducible refine ImpF.mk fun hF => ?_) | (with_reducible refine ImpQ.mk fun hp => ?_) | (with_reducible refine AllE.mk fun p => ?_) | (with_reducible refine AllR.mk fun rest => ?_) | (with_reducible refine AllK.mk fun K => ?_))))); repeat' (with_reducible refine And.intro ?_ ?_))
      (focus (refine ⟨_, _, gh_close (t := 0) (ts := [1, 2]) (l := AO p xs) ⟨⟨_, _, rfl⟩, ?_, by simp⟩, [0], rfl, ?_⟩; all_goals (refine fitq ?_ ?_ ?_ <;> try exact trivial); (try any_goals (refine ⟨?_, ?_⟩)); (try any_goals (with_reducible rfl))))
      all_goals (repeat' (first | (refine And.intro ?_ ?_) | rfl))
theorem b_gapE (p : Int) : DoesK Try.prog 1 13 [.ptr 0 0, .int .i64 p] [.pack AE] (EndF 1 (.ro .rng []) ([.pack AE] ++ [])) := by
  refine DoesK.close ?_
  refine w_body (rs := [.tmp 4]) (tm := [.ptr 0 0, .int .i64 p, .any, .any, .any, .any, .any, .any, .any, .any, .any, .any, .any, .any, .any, .any, .any, .any, .any, .any, .any, .any, .any, .any, .any, .any, .any, .any, .any, .any, .any, .any, .any, .any, .any, .any, .any, .any, .any, .any, .any, .any, .any, .any, .any]) fn_13 rfl rfl rfl rfl fun R hR => ?_
  refine w_open 0 rfl rfl ?_
  simp only [go_sem, decide_true, decide_false, Int.reduceToNat, Nat.min_eq_left, Nat.min_eq_right, Int.reducePow, Nat.reducePow, Int.reduceLE, Int.reduceLT, Int.reduceMul, Int.reduceAdd, Int.reduceSub, Int.reduceNeg, Bool.not_true, Bool.not_false, Bool.not_not, ↓reduceIte, Nat.reduceAdd, Nat.reduceSub, Nat.reduceMul, Nat.reduceEqDiff, reduceCtorEq, Nat.reduceLT, Nat.reduceLeDiff, Nat.reduceGT]
  (all_goals (try ((first | (with_reducible refine wp_id ?_) | (with_reducible refine does_id ?_) | (with_reducible refine ops_id ?_)); refine walk ?_; (repeat' (first | exact trivial | with_reducible refine And.intro ?_ ?_)); all_goals (repeat (first | (with_reducible refine ImpB.mk fun hb => ?_) | (with_reducible refine ImpK.mk fun hK => ?_) | (with_reducible refine ImpF.mk fun hF => ?_) | (with_reducible refine ImpQ.mk fun hp => ?_) | (with_reducible refine AllE.mk fun p => ?_) | (with_reducible refine AllR.mk fun rest => ?_) | (with_reducible refine AllK.mk fun K => ?_))))); repeat' (with_reducible refine And.intro ?_ ?_))
  (focus (refine ⟨_, _, gh_close (t := 0) (ts := []) (l := AE) ⟨⟨_, _, rfl⟩, ?_, by simp⟩, [0], rfl, ?_⟩; all_goals (refine fitq ?_ ?_ ?_ <;> try exact trivial); (try any_goals (refine ⟨?_, ?_⟩)); (try any_goals (with_reducible rfl))))
  all_goals (repeat' (first | (refine And.intro ?_ ?_) | rfl))
theorem c_gapS {h : List Ch} {K : KT} {u : Nat} {p q : Int} {xs : List Ent} (H : K (.ro .rng (gapsF xs)) h) (o : hth h u = .pack (ASL q xs)) (e1 : okC xs) (s1 : p = q) : Does Try.prog 13 [.ptr u 0, .int .i64 p] h K := by
  subst s1
  by_cases hn : xs.length = 0
  · obtain rfl := List.eq_nil_of_length_eq_zero hn
    exact frame_obj0 (b_gapE p) o (by simp) (fitC_pack _) (br_cons (br_ptr rfl) (br_cons br_int br_nil)) (.inl rfl) (fun _ => rfl) rfl (by rw [← ASL_nil p, set_hth o (by simp)]; exact H)
  · have hp : 0 < xs.length := by omega
    have o2 := o
    rw [ASL_pos hp] at o2
    exact frame_obj0 (b_gapO p xs hp e1) o2 (by simp) (fitC_pack _) (br_cons (br_ptr rfl) (br_cons br_int br_nil)) (.inl rfl) (fun _ => rfl) rfl (by rw [set_hth o2 (by simp)]; exact H)
abbrev i_gapS := Ctr.mk (i := 0) (g := 13) @c_gapS
attribute [instance] i_gapS
theorem b_lenO (p : Int) (xs : List Ent) (hl : 0 < xs.length) (hc : xs.length ≤ 900000) :
    DoesK Try.prog 1 14 [.ptr 0 0] [.pack (AO p xs)] (EndF 1 (.int .i64 xs.length) ([.pack (AO p xs)] ++ [])) := by
  refine DoesK.close ?_
  refine w_body (rs := [.tmp 2]) (tm := [.ptr 0 0, .any, .any, .any, .any, .any, .any, .any, .any, .any, .any, .any, .any, .any, .any, .any, .any, .any, .any, .any, .any, .any, .any, .any, .any]) fn_14 rfl rfl rfl rfl fun R hR => ?_
  refine w_open 0 rfl rfl ?_
  simp only [go_sem, decide_true, decide_false, Int.reduceToNat, Nat.min_eq_left, Nat.min_eq_right, Int.reducePow, Nat.reducePow, Int.reduceLE, Int.reduceLT, Int.reduceMul, Int.reduceAdd, Int.reduceSub, Int.reduceNeg, Bool.not_true, Bool.not_false, Bool.not_not, ↓reduceIte, Nat.reduceAdd, Nat.reduceSub, Nat.reduceMul, Nat.reduceEqDiff, reduceCtorEq, Nat.reduceLT, Nat.reduceLeDiff, Nat.reduceGT]
  (all_goals (try ((first | (with_reducible refine wp_id ?_) | (with_reducible refine does_id ?_) | (with_reducible refine ops_id ?_)); refine walk ?_; (repeat' (first | exact trivial | with_reducible refine And.intro ?_ ?_)); all_goals (repeat (first | (with_reducible refine ImpB.mk fun hb => ?_) | (with_reducible refine ImpK.mk fun hK => ?_) | (with_reducible refine ImpF.mk fun hF => ?_) | (with_reducible refine ImpQ.mk fun hp => ?_) | (with_reducible refine AllE.mk fun p => ?_) | (with_reducible refine AllR.mk fun rest => ?_) | (with_reducible refine AllK.mk fun K => ?_))))); repeat' (with_reducible refine And.intro ?_ ?_))
  any_goals ((try (refine w_seq fun K hK => ?_)); (try (refine w_block ?_)); refine w_loop (A := Nat) (fun k => k ≤ 1) (fun k => 1 - k) (fun k => [(3, .int .i64 (if k = 0 then 0 else (xs.length : Int))), (14, .int .i64 k)]) (fun k => []) (0) (ws := ?ws2) (tk := ?tk2) ?hw2 ?ht2 ?hi ?h0 ?LH2; (case hw2 => simp only [go_sem, decide_true, decide_false, Int.reduceToNat, Nat.min_eq_left, Nat.min_eq_right, Int.reducePow, Nat.reducePow, Int.reduceLE, Int.reduceLT, Int.reduceMul, Int.reduceAdd, Int.reduceSub, Int.reduceNeg, Bool.not_true, Bool.not_false, Bool.not_not, ↓reduceIte, Nat.reduceAdd, Nat.reduceSub, Nat.reduceMul, Nat.reduceEqDiff, reduceCtorEq, Nat.reduceLT, Nat.reduceLeDiff, Nat.reduceGT]; exact rfl); (case ht2 => simp only [go_sem, decide_true, decide_false, Int.reduceToNat, Nat.min_eq_left, Nat.min_eq_right, Int.reducePow, Nat.reducePow, Int.reduceLE, Int.reduceLT, Int.reduceMul, Int.reduceAdd, Int.reduceSub, Int.reduceNeg, Bool.not_true, Bool.not_false, Bool.not_not, ↓reduceIte, Nat.reduceAdd, Nat.reduceSub, Nat.reduceMul, Nat.reduceEqDiff, reduceCtorEq, Nat.reduceLT, Nat.reduceLeDiff, Nat.reduceGT]; exact rfl); (case' LH2 => rintro k E t hx hE ht; simp only [go_sem] at ht; subst ht; simp only [go_sem]; try dsimp only at hx))
  case hi => exact Nat.zero_le _
  case h0 =>
    (focus (refine ⟨_, _, Gh.refl, [0, 1, 2], rfl, ?_⟩; (refine fitq ?_ ?_ ?_ <;> try exact trivial); (try any_goals (refine ⟨?_, ?_⟩)); (try any_goals (with_reducible rfl))))
    all_goals (repeat' (first | (refine And.intro ?_ ?_) | rfl))
  case LH2 =>
    have hk0 : k ≤ 1 := hx
    have hw : IntKind.i64.wrap ((k : Int) + 1) = ((k + 1 : Nat) : Int) := by rw [wrap_i64 _ (by omega) (by omega)]; omega
    by_cases hk : k = 0
    · subst hk
      have hkd : decide (((0 : Nat) : Int) < 1) = true := by decide
      have hw1 : IntKind.i64.wrap 1 = ((1 : Nat) : Int) := by decide
      have hw2 : IntKind.i64.wrap (0 + (xs.length : Int)) = if (0 + 1 : Nat) = 0 then 0 else (xs.length : Int) := by rw [wrap_i64 _ (by omega) (by omega), if_neg (by decide)]; omega
      (have zx1 := @hkd; all_goals (try ((first | (with_reducible refine wp_id ?_) | (with_reducible refine does_id ?_) | (with_reducible refine ops_id ?_)); refine walk ?_; (repeat' (first | exact trivial | with_reducible refine And.intro ?_ ?_)); all_goals (repeat (first | (with_reducible refine ImpB.mk fun hb => ?_) | (with_reducible refine ImpK.mk fun hK => ?_) | (with_reducible refine ImpF.mk fun hF => ?_) | (with_reducible refine ImpQ.mk fun hp => ?_) | (with_reducible refine AllE.mk fun p => ?_) | (with_reducible refine AllR.mk fun rest => ?_) | (with_reducible refine AllK.mk fun K => ?_))))); repeat' (with_reducible refine And.intro ?_ ?_))
      refine ⟨0 + 1, ⟨Nat.le_refl _, (by first | omega | (dsimp only; omega))⟩, ?_⟩
      rw [hw1, hw2]
      (focus (refine ⟨_, _, Gh.refl, [0, 1, 2], rfl, ?_⟩; (refine fitq ?_ ?_ ?_ <;> try exact trivial); (try any_goals (refine ⟨?_, ?_⟩)); (try any_goals (with_reducible rfl))))
      all_goals (repeat' (first | (refine And.intro ?_ ?_) | rfl))
    · have hkd : decide ((k : Int) < 1) = false := decide_eq_false (by omega)
      rw [if_neg hk]
      (have zx1 := @hkd; all_goals (try ((first | (with_reducible refine wp_id ?_) | (with_reducible refine does_id ?_) | (with_reducible refine ops_id ?_)); refine walk ?_; (repeat' (first | exact trivial | with_reducible refine And.intro ?_ ?_)); all_goals (repeat (first | (with_reducible refine ImpB.mk fun hb => ?_) | (with_reducible refine ImpK.mk fun hK => ?_) | (with_reducible refine ImpF.mk fun hF => ?_) | (with_reducible refine ImpQ.mk fun hp => ?_) | (with_reducible refine AllE.mk fun p => ?_) | (with_reducible refine AllR.mk fun rest => ?_) | (with_reducible refine AllK.mk fun K => ?_))))); repeat' (with_reducible refine And.intro ?_ ?_))
      (focus (refine ⟨_, _, gh_close (t := 0) (ts := [1, 2]) (l := AO p xs) ⟨⟨_, _, rfl⟩, ?_, by simp⟩, [0], rfl, ?_⟩; all_goals (refine fitq ?_ ?_ ?_ <;> try exact trivial); (try any_goals (refine ⟨?_, ?_⟩)); (try any_goals (with_reducible rfl))))
      all_goals (repeat' (first | (refine And.intro ?_ ?_) | rfl))
theorem b_lenE : DoesK Try.prog 1 14 [.ptr 0 0] [.pack AE] (EndF 1 (.int .i64 0) ([.pack AE] ++ [])) := by
  refine DoesK.close ?_
  refine w_body (rs := [.tmp 2]) (tm := [.ptr 0 0, .any, .any, .any, .any, .any, .any, .any, .any, .any, .any, .any, .any, .any, .any, .any, .any, .any, .any, .any, .any, .any, .any, .any, .any]) fn_14 rfl rfl rfl rfl fun R hR => ?_
  refine w_open 0 rfl rfl ?_
  simp only [go_sem, decide_true, decide_false, Int.reduceToNat, Nat.min_eq_left, Nat.min_eq_right, Int.reducePow, Nat.reducePow, Int.reduceLE, Int.reduceLT, Int.reduceMul, Int.reduceAdd, Int.reduceSub, Int.reduceNeg, Bool.not_true, Bool.not_false, Bool.not_not, ↓reduceIte, Nat.reduceAdd, Nat.reduceSub, Nat.reduceMul, Nat.reduceEqDiff, reduceCtorEq, Nat.reduceLT, Nat.reduceLeDiff, Nat.reduceGT]
  (all_goals (try ((first | (with_reducible refine wp_id ?_) | (with_reducible refine does_id ?_) | (with_reducible refine ops_id ?_)); refine walk ?_; (repeat' (first | exact trivial | with_reducible refine And.intro ?_ ?_)); all_goals (repeat (first | (with_reducible refine ImpB.mk fun hb => ?_) | (with_reducible refine ImpK.mk fun hK => ?_) | (with_reducible refine ImpF.mk fun hF => ?_) | (with_reducible refine ImpQ.mk fun hp => ?_) | (with_reducible refine AllE.mk fun p => ?_) | (with_reducible refine AllR.mk fun rest => ?_) | (with_reducible refine AllK.mk fun K => ?_))))); repeat' (with_reducible refine And.intro ?_ ?_))
  any_goals ((try (refine w_seq fun K hK => ?_)); (try (refine w_block ?_)); refine w_loop (A := Nat) (fun k => k = 0) (fun k => 0) (fun k => [(3, .int .i64 0), (14, .int .i64 k)]) (fun k => []) (0) (ws := ?ws3) (tk := ?tk3) ?hw3 ?ht3 ?hi ?h0 ?LH3; (case hw3 => simp only [go_sem, decide_true, decide_false, Int.reduceToNat, Nat.min_eq_left, Nat.min_eq_right, Int.reducePow, Nat.reducePow, Int.reduceLE, Int.reduceLT, Int.reduceMul, Int.reduceAdd, Int.reduceSub, Int.reduceNeg, Bool.not_true, Bool.not_false, Bool.not_not, ↓reduceIte, Nat.reduceAdd, Nat.reduceSub, Nat.reduceMul, Nat.reduceEqDiff, reduceCtorEq, Nat.reduceLT, Nat.reduceLeDiff, Nat.reduceGT]; exact rfl); (case ht3 => simp only [go_sem, decide_true, decide_false, Int.reduceToNat, Nat.min_eq_left, Nat.min_eq_right, Int.reducePow, Nat.reducePow, Int.reduceLE, Int.reduceLT, Int.reduceMul, Int.reduceAdd, Int.reduceSub, Int.reduceNeg, Bool.not_true, Bool.not_false, Bool.not_not, ↓reduceIte, Nat.reduceAdd, Nat.reduceSub, Nat.reduceMul, Nat.reduceEqDiff, reduceCtorEq, Nat.reduceLT, Nat.reduceLeDiff, Nat.reduceGT]; exact rfl); (case' LH3 => rintro k E t hx hE ht; simp only [go_sem] at ht; subst ht; simp only [go_sem]; try dsimp only at hx))
  case hi => exact rfl
  case h0 =>
    (focus (refine ⟨_, _, Gh.refl, [0], rfl, ?_⟩; (refine fitq ?_ ?_ ?_ <;> try exact trivial); (try any_goals (refine ⟨?_, ?_⟩)); (try any_goals (with_reducible rfl))))
    all_goals (repeat' (first | (refine And.intro ?_ ?_) | rfl))
  case LH3 =>
    obtain rfl : k = 0 := hx
    have hkd : decide (((0 : Nat) : Int) < 0) = false := by decide
    (have zx1 := @hkd; all_goals (try ((first | (with_reducible refine wp_id ?_) | (with_reducible refine does_id ?_) | (with_reducible refine ops_id ?_)); refine walk ?_; (repeat' (first | exact trivial | with_reducible refine And.intro ?_ ?_)); all_goals (repeat (first | (with_reducible refine ImpB.mk fun hb => ?_) | (with_reducible refine ImpK.mk fun hK => ?_) | (with_reducible refine ImpF.mk fun hF => ?_) | (with_reducible refine ImpQ.mk fun hp => ?_) | (with_reducible refine AllE.mk fun p => ?_) | (with_reducible refine AllR.mk fun rest => ?_) | (with_reducible refine AllK.mk fun K => ?_))))); repeat' (with_reducible refine And.intro ?_ ?_))
    (focus (refine ⟨_, _, gh_close (t := 0) (ts := []) (l := AE) ⟨⟨_, _, rfl⟩, ?_, by simp⟩, [0], rfl, ?_⟩; all_goals (refine fitq ?_ ?_ ?_ <;> try exact trivial); (try any_goals (refine ⟨?_, ?_⟩)); (try any_goals (with_reducible rfl))))
    all_goals (repeat' (first | (refine And.intro ?_ ?_) | rfl))
theorem c_lenS {h : List Ch} {K : KT} {u : Nat} {p : Int} {xs : List Ent} (H : K (.int .i64 xs.length) h) (o : hth h u = .pack (ASL p xs)) (s1 : xs.length ≤ 900000) : Does Try.prog 14 [.ptr u 0] h K := by
  by_cases hn : xs.length = 0
  · obtain rfl := List.eq_nil_of_length_eq_zero hn
    exact frame_obj0 b_lenE o (by simp) (fitC_pack _) (br_cons (br_ptr rfl) br_nil) (.inl rfl) (fun _ => rfl) rfl (by rw [← ASL_nil p, set_hth o (by simp)]; exact H)
  · have hp : 0 < xs.length := by omega
    have o2 := o
    rw [ASL_pos hp] at o2
    exact frame_obj0 (b_lenO p xs hp s1) o2 (by simp) (fitC_pack _) (br_cons (br_ptr rfl) br_nil) (.inl rfl) (fun _ => rfl) rfl (by rw [set_hth o2 (by simp)]; exact H)
abbrev i_lenS := Ctr.mk (i := 0) (g := 14) @c_lenS
attribute [instance] i_lenS
theorem b_clB (xs : List UInt8) (hl : xs.length ≤ 1099511627776) : DoesK Try.prog 0 50 [.ro .byte xs] [] (EndF 0 (.ro .byte xs) []) := by
  refine DoesK.close ?_
  refine w_body (rs := [.tmp 2]) (tm := [.ro .byte xs, .any, .any, .any, .any, .any, .any, .any]) fn_50 rfl rfl rfl rfl fun R hR => ?_
  (all_goals (try ((first | (with_reducible refine wp_id ?_) | (with_reducible refine does_id ?_) | (with_reducible refine ops_id ?_)); refine walk ?_; (repeat' (first | exact trivial | with_reducible refine And.intro ?_ ?_)); all_goals (repeat (first | (with_reducible refine ImpB.mk fun hb => ?_) | (with_reducible refine ImpK.mk fun hK => ?_) | (with_reducible refine ImpF.mk fun hF => ?_) | (with_reducible refine ImpQ.mk fun hp => ?_) | (with_reducible refine AllE.mk fun p => ?_) | (with_reducible refine AllR.mk fun rest => ?_) | (with_reducible refine AllK.mk fun K => ?_))))); repeat' (with_reducible refine And.intro ?_ ?_))
  (all_goals first | exact Int.natCast_nonneg _ | exact Int.ofNat_lt.2 (by assumption) | assumption | omega | exact Nat.le_refl _ | (exfalso; simp at hb; done) | (simp only [go_sem, decide_true, decide_false, Int.reduceToNat, Nat.min_eq_left, Nat.min_eq_right, Int.reducePow, Nat.reducePow, Int.reduceLE, Int.reduceLT, Int.reduceMul, Int.reduceAdd, Int.reduceSub, Int.reduceNeg, Bool.not_true, Bool.not_false, Bool.not_not, ↓reduceIte, Nat.reduceAdd, Nat.reduceSub, Nat.reduceMul, Nat.reduceEqDiff, reduceCtorEq, Nat.reduceLT, Nat.reduceLeDiff, Nat.reduceGT]; done) | (unfold capM; omega) | (simp only [List.length_drop, List.length_take, List.length_append, List.length_cons, List.length_nil]; omega) | skip)
  · exact ⟨_, rfl⟩
  · (focus (refine ⟨_, _, Gh.refl, [], rfl, ?_⟩; (refine fitq ?_ ?_ ?_ <;> try exact trivial); (try any_goals (refine ⟨?_, ?_⟩)); (try any_goals (with_reducible rfl))))
    all_goals (try exact hb)
  · refine ⟨_, _, gh_frz (t := 1) (e := .byte) (xs := xs) rfl ?f1 ?f2, [], rfl, ?ft⟩
    case' ft => (refine fitq ?_ ?_ ?_ <;> try exact trivial)
    case' f1 => simp only [go_sem, decide_true, decide_false, Int.reduceToNat, Nat.min_eq_left, Nat.min_eq_right, Int.reducePow, Nat.reducePow, Int.reduceLE, Int.reduceLT, Int.reduceMul, Int.reduceAdd, Int.reduceSub, Int.reduceNeg, Bool.not_true, Bool.not_false, Bool.not_not, ↓reduceIte, Nat.reduceAdd, Nat.reduceSub, Nat.reduceMul, Nat.reduceEqDiff, reduceCtorEq, Nat.reduceLT, Nat.reduceLeDiff, Nat.reduceGT]
    case' f2 => simp only [go_sem, decide_true, decide_false, Int.reduceToNat, Nat.min_eq_left, Nat.min_eq_right, Int.reducePow, Nat.reducePow, Int.reduceLE, Int.reduceLT, Int.reduceMul, Int.reduceAdd, Int.reduceSub, Int.reduceNeg, Bool.not_true, Bool.not_false, Bool.not_not, ↓reduceIte, Nat.reduceAdd, Nat.reduceSub, Nat.reduceMul, Nat.reduceEqDiff, reduceCtorEq, Nat.reduceLT, Nat.reduceLeDiff, Nat.reduceGT]
    all_goals first | exact Nat.le_refl _ | simp
theorem c_clB {h : List Ch} {K : KT} {xs : List UInt8} {a : AV} (H : K (.ro .byte xs) h) (q1 : isRO .byte xs a) (s1 : xs.length ≤ 1099511627776) : Does Try.prog 50 [a] h K :=
  frame_pure (b_clB xs s1) (br_cons q1.br br_nil) (.inl (by rw [brTL, q1.brT]; rfl)) (fun _ => rfl) H
abbrev i_clB := Ctr.mk (i := 1) (g := 50) @c_clB
attribute [instance] i_clB
theorem b_dupD (a c t : Int) (d : List UInt8) (hl : d.length ≤ 1099511627776) : DoesK Try.prog 0 31 [.agg [.int .i64 a, .int .i64 c, .int .i64 t, .ro .byte d]] [] (EndF 0 (.agg [.int .i64 a, .int .i64 c, .int .i64 t, .ro .byte d]) []) := by
  refine DoesK.close ?_
  refine w_body (rs := [.cell 2 31]) (tm := [.agg [.int .i64 a, .int .i64 c, .int .i64 t, .ro .byte d], .any, .any, .any, .any, .any, .any, .any]) fn_31 rfl rfl rfl rfl fun R hR => ?_
  (all_goals (try ((first | (with_reducible refine wp_id ?_) | (with_reducible refine does_id ?_) | (with_reducible refine ops_id ?_)); refine walk ?_; (repeat' (first | exact trivial | with_reducible refine And.intro ?_ ?_)); all_goals (repeat (first | (with_reducible refine ImpB.mk fun hb => ?_) | (with_reducible refine ImpK.mk fun hK => ?_) | (with_reducible refine ImpF.mk fun hF => ?_) | (with_reducible refine ImpQ.mk fun hp => ?_) | (with_reducible refine AllE.mk fun p => ?_) | (with_reducible refine AllR.mk fun rest => ?_) | (with_reducible refine AllK.mk fun K => ?_))))); repeat' (with_reducible refine And.intro ?_ ?_))
  (focus (refine ⟨_, _, Gh.refl, [], rfl, ?_⟩; (refine fitq ?_ ?_ ?_ <;> try exact trivial); (try any_goals (refine ⟨?_, ?_⟩)); (try any_goals (with_reducible rfl))))
  all_goals (repeat' (first | (refine And.intro ?_ ?_) | rfl))
theorem c_dupD {h : List Ch} {K : KT} {a c t : Int} {d : List UInt8} (H : K (.agg [.int .i64 a, .int .i64 c, .int .i64 t, .ro .byte d]) h) (s1 : d.length ≤ 1099511627776) : Does Try.prog 31 [.agg [.int .i64 a, .int .i64 c, .int .i64 t, .ro .byte d]] h K :=
  frame_pure (b_dupD a c t d s1) (br_cons (br_agg (br_cons br_int (br_cons br_int (br_cons br_int (br_cons br_ro br_nil))))) br_nil) (.inl rfl) (fun _ => rfl) H
abbrev i_dupD := Ctr.mk (i := 1) (g := 31) @c_dupD
attribute [instance] i_dupD
end Go.V
