/-
  Links: searches and copies.
  The link in plain terms.
-/
import Derived.Test.YtnlndokgejiafaaPart11
set_option linter.unusedVariables false
set_option linter.unusedSimpArgs false
set_option maxRecDepth 100000
set_option maxHeartbeats 4000000
namespace Go.V
open Go.Proofs
theorem getM {α : Type} {l : List α} {k : Nat} {z : α} (h : k < l.length) : l.getD k z ∈ l := by
  rw [List.getD_eq_getElem?_getD, List.getElem?_eq_getElem h]; exact List.getElem_mem h
theorem getEq {α : Type} {l : List α} {k : Nat} {z : α} (h : k < l.length) : l.getD k z = l[k] := by rw [List.getD_eq_getElem?_getD, List.getElem?_eq_getElem h]; rfl
theorem getT {α : Type} {l : List α} {k : Nat} {z : α} (h : k < l.length) : l.take (k + 1) = l.take k ++ [l.getD k z] := by
  rw [List.take_succ_eq_append_getElem h, getEq h]
theorem br_Flp {m : List Nat} {h : List Ch} (x : Flp) : brA m h (.agg [.int .i64 x.idx, .int .i64 x.bit]) (.agg [.int .i64 x.idx, .int .i64 x.bit]) := br_agg (br_cons br_int (br_cons br_int br_nil))
/-- the first place at which p holds -/
def fstG {α : Type} (p : α → Bool) : List α → Nat → Int
  | [], _ => -1
  | x :: l, k => if p x then k else fstG p l (k + 1)
theorem fstG_none {α : Type} {p : α → Bool} : ∀ {l : List α} {k : Nat}, (∀ x ∈ l, p x = false) → fstG p l k = -1
  | [], _, _ => rfl
  | x :: l, k, h => by rw [fstG, h x (by simp)]; exact fstG_none fun y hy => h y (by simp [hy])
theorem fstG_at {α : Type} {p : α → Bool} {z : α} : ∀ {l : List α} {j k : Nat}, j < l.length → (∀ i, i < j → p (l.getD i z) = false) → p (l.getD j z) = true → fstG p l k = ((k + j : Nat) : Int)
  | [], j, _, h, _, _ => by simp at h
  | x :: l, 0, k, _, _, h => by
    have : p x = true := h
    rw [fstG, if_pos this, Nat.add_zero]
  | x :: l, j + 1, k, hl, h0, h => by
    have h1 : p x = false := h0 0 (by omega)
    rw [fstG, h1]
    simp only [Bool.false_eq_true, if_false]
    rw [fstG_at (j := j) (by simpa using hl) (fun i hi => h0 (i + 1) (by omega)) h]
    congr 1; omega
theorem fstG_any {α : Type} {p : α → Bool} : ∀ {l : List α} {k : Nat}, decide (0 ≤ fstG p l k) = l.any p
  | [], _ => by simp [fstG]
  | x :: l, k => by
    rw [fstG, List.any_cons]
    cases h : p x
    · simp only [Bool.false_eq_true, if_false, Bool.false_or]
      exact fstG_any
    · simp
theorem k_ixRng {n0 : Nat} {h : List Ch} {K : KT} {xs : List Rng} {f : FuncId} {caps : List AV} (p : Rng → Bool) (hl : xs.length ≤ 9223372036854775806) (hp : ∀ x : Rng, ∀ K' : KT, K' (.bool (p x)) h → Does Try.prog f ((.agg [.int .i64 x.from_, .int .i64 x.to_]) :: caps) h K') (H : K (.int .i64 (fstG p xs 0)) h) : DoesK Try.prog n0 44 [.ro .rng xs, .fn f caps] h K := by
  have inst : Ctr 0 f (∀ {h' : List Ch} {K' : KT} {x : Rng} (_ : h' = h) (_ : K' (.bool (p x)) h), Does Try.prog f ((.agg [.int .i64 x.from_, .int .i64 x.to_]) :: caps) h' K') := Ctr.mk (by rintro h' K' x rfl H; exact hp x K' H)
  refine w_body (rs := [.tmp 4]) (tm := [.ro .rng xs, .fn f caps, .any, .any, .any, .any, .any, .any, .any, .any, .any, .any, .any, .any, .any, .any, .any, .any, .any]) fn_44 rfl rfl rfl rfl fun R hR => ?_
  (all_goals (try ((first | (with_reducible refine wp_id ?_) | (with_reducible refine does_id ?_) | (with_reducible refine ops_id ?_)); refine walk ?_; (repeat' (first | exact trivial | with_reducible refine And.intro ?_ ?_)); all_goals (repeat (first | (with_reducible refine ImpB.mk fun hb => ?_) | (with_reducible refine ImpK.mk fun hK => ?_) | (with_reducible refine ImpF.mk fun hF => ?_) | (with_reducible refine ImpQ.mk fun hp => ?_) | (with_reducible refine AllE.mk fun p => ?_) | (with_reducible refine AllR.mk fun rest => ?_) | (with_reducible refine AllK.mk fun K => ?_))))); repeat' (with_reducible refine And.intro ?_ ?_))
  any_goals ((try (refine w_seq fun K hK => ?_)); (try (refine w_block ?_)); refine w_loopS (A := Nat) (fun k => k ≤ xs.length ∧ ∀ i, i < k → p (xs.getD i Rng.zero) = false) (fun k => xs.length - k) (fun k => [(8, .int .i64 k)]) (0) (ws := ?ws2) (tk := ?tk2) ?hw2 ?ht2 ?hi ?h0 ?LH2; (case hw2 => simp only [go_sem, decide_true, decide_false, Int.reduceToNat, Nat.min_eq_left, Nat.min_eq_right, Int.reducePow, Nat.reducePow, Int.reduceLE, Int.reduceLT, Int.reduceMul, Int.reduceAdd, Int.reduceSub, Int.reduceNeg, Bool.not_true, Bool.not_false, Bool.not_not, ↓reduceIte, Nat.reduceAdd, Nat.reduceSub, Nat.reduceMul, Nat.reduceEqDiff, reduceCtorEq, Nat.reduceLT, Nat.reduceLeDiff, Nat.reduceGT]; exact rfl); (case ht2 => simp only [go_sem, decide_true, decide_false, Int.reduceToNat, Nat.min_eq_left, Nat.min_eq_right, Int.reducePow, Nat.reducePow, Int.reduceLE, Int.reduceLT, Int.reduceMul, Int.reduceAdd, Int.reduceSub, Int.reduceNeg, Bool.not_true, Bool.not_false, Bool.not_not, ↓reduceIte, Nat.reduceAdd, Nat.reduceSub, Nat.reduceMul, Nat.reduceEqDiff, reduceCtorEq, Nat.reduceLT, Nat.reduceLeDiff, Nat.reduceGT]; exact rfl); (case' LH2 => rintro k E t hx hE ht; simp only [go_sem] at ht; subst ht; simp only [go_sem]; try dsimp only at hx))
  case hi => exact ⟨Nat.zero_le _, fun i hi => absurd hi (by omega)⟩
  case h0 => (focus (simp only [go_sem]; (repeat' (first | exact sub_nil | refine sub_cons ?_ ?_)); (any_goals (first | exact .inl rfl | exact .inr rfl)); (try any_goals (refine .inr ?_)); (try any_goals (refine congrArg _ ?_))))
  case LH2 =>
    have hw : IntKind.i64.wrap ((k : Int) + 1) = ((k + 1 : Nat) : Int) := by rw [wrap_i64 _ (by omega) (by omega)]; omega
    by_cases hk : k < xs.length
    · have hkd : decide ((k : Int) < xs.length) = true := decide_eq_true (by omega)
      (have zx1 := @hkd; all_goals (try ((first | (with_reducible refine wp_id ?_) | (with_reducible refine does_id ?_) | (with_reducible refine ops_id ?_)); refine walk ?_; (repeat' (first | exact trivial | with_reducible refine And.intro ?_ ?_)); all_goals (repeat (first | (with_reducible refine ImpB.mk fun hb => ?_) | (with_reducible refine ImpK.mk fun hK => ?_) | (with_reducible refine ImpF.mk fun hF => ?_) | (with_reducible refine ImpQ.mk fun hp => ?_) | (with_reducible refine AllE.mk fun p => ?_) | (with_reducible refine AllR.mk fun rest => ?_) | (with_reducible refine AllK.mk fun K => ?_))))); repeat' (with_reducible refine And.intro ?_ ?_))
      all_goals first | exact Int.natCast_nonneg _ | exact Int.ofNat_lt.2 hk | rfl | skip
      · rw [fstG_at hk hx.2 hb, Nat.zero_add] at H
        exact H
      · refine ⟨k + 1, ⟨⟨by first | omega | (dsimp only; omega), fun i hi => ?_⟩, by first | omega | (dsimp only; omega)⟩, ?_, rfl⟩
        · by_cases e : i = k
          · rw [e]; exact hb
          · exact hx.2 i (by omega)
        (focus (simp only [go_sem]; (repeat' (first | exact sub_nil | refine sub_cons ?_ ?_)); (any_goals (first | exact .inl rfl | exact .inr rfl)); (try any_goals (refine .inr ?_)); (try any_goals (refine congrArg _ ?_))))
        exact hw.symm
    · have hkd : decide ((k : Int) < xs.length) = false := decide_eq_false (by omega)
      (have zx1 := @hkd; all_goals (try ((first | (with_reducible refine wp_id ?_) | (with_reducible refine does_id ?_) | (with_reducible refine ops_id ?_)); refine walk ?_; (repeat' (first | exact trivial | with_reducible refine And.intro ?_ ?_)); all_goals (repeat (first | (with_reducible refine ImpB.mk fun hb => ?_) | (with_reducible refine ImpK.mk fun hK => ?_) | (with_reducible refine ImpF.mk fun hF => ?_) | (with_reducible refine ImpQ.mk fun hp => ?_) | (with_reducible refine AllE.mk fun p => ?_) | (with_reducible refine AllR.mk fun rest => ?_) | (with_reducible refine AllK.mk fun K => ?_))))); repeat' (with_reducible refine And.intro ?_ ?_))
      rw [fstG_none fun x hx' => by
        obtain ⟨i, hi, rfl⟩ := List.getElem_of_mem hx'
        have := hx.2 i (by omega)
        simpa [List.getD_eq_getElem?_getD, List.getElem?_eq_getElem hi] using this] at H
      exact H
theorem k_ctRng {n0 : Nat} {h : List Ch} {K : KT} {xs : List Rng} {f : FuncId} {caps : List AV} (p : Rng → Bool) (hl : xs.length ≤ 9223372036854775806) (hp : ∀ x : Rng, ∀ K' : KT, K' (.bool (p x)) h → Does Try.prog f ((.agg [.int .i64 x.from_, .int .i64 x.to_]) :: caps) h K') (H : K (.bool (xs.any p)) h) : DoesK Try.prog n0 38 [.ro .rng xs, .fn f caps] h K := by
  have inst : Ctr 0 44 (∀ {K' : KT} (_ : K' (.int .i64 (fstG p xs 0)) h), Does Try.prog 44 [.ro .rng xs, .fn f caps] h K') := Ctr.mk (fun H => Does.of_K (k_ixRng p hl hp H))
  refine w_body (rs := [.tmp 4]) (tm := [.ro .rng xs, .fn f caps, .any, .any, .any, .any, .any, .any, .any]) fn_38 rfl rfl rfl rfl fun R hR => ?_
  have hia := fstG_any (p := p) (l := xs) (k := 0)
  (have zx1 := @hia; all_goals (try ((first | (with_reducible refine wp_id ?_) | (with_reducible refine does_id ?_) | (with_reducible refine ops_id ?_)); refine walk ?_; (repeat' (first | exact trivial | with_reducible refine And.intro ?_ ?_)); all_goals (repeat (first | (with_reducible refine ImpB.mk fun hb => ?_) | (with_reducible refine ImpK.mk fun hK => ?_) | (with_reducible refine ImpF.mk fun hF => ?_) | (with_reducible refine ImpQ.mk fun hp => ?_) | (with_reducible refine AllE.mk fun p => ?_) | (with_reducible refine AllR.mk fun rest => ?_) | (with_reducible refine AllK.mk fun K => ?_))))); repeat' (with_reducible refine And.intro ?_ ?_))
  all_goals first | exact H | skip
theorem k_ixFlp {n0 : Nat} {h : List Ch} {K : KT} {xs : List Flp} {f : FuncId} {caps : List AV} (p : Flp → Bool) (hl : xs.length ≤ 9223372036854775806) (hp : ∀ x : Flp, ∀ K' : KT, K' (.bool (p x)) h → Does Try.prog f ((.agg [.int .i64 x.idx, .int .i64 x.bit]) :: caps) h K') (H : K (.int .i64 (fstG p xs 0)) h) : DoesK Try.prog n0 37 [.ro .flp xs, .fn f caps] h K := by
  have inst : Ctr 0 f (∀ {h' : List Ch} {K' : KT} {x : Flp} (_ : h' = h) (_ : K' (.bool (p x)) h), Does Try.prog f ((.agg [.int .i64 x.idx, .int .i64 x.bit]) :: caps) h' K') := Ctr.mk (by rintro h' K' x rfl H; exact hp x K' H)
  refine w_body (rs := [.tmp 4]) (tm := [.ro .flp xs, .fn f caps, .any, .any, .any, .any, .any, .any, .any, .any, .any, .any, .any, .any, .any, .any, .any, .any, .any]) fn_37 rfl rfl rfl rfl fun R hR => ?_
  (all_goals (try ((first | (with_reducible refine wp_id ?_) | (with_reducible refine does_id ?_) | (with_reducible refine ops_id ?_)); refine walk ?_; (repeat' (first | exact trivial | with_reducible refine And.intro ?_ ?_)); all_goals (repeat (first | (with_reducible refine ImpB.mk fun hb => ?_) | (with_reducible refine ImpK.mk fun hK => ?_) | (with_reducible refine ImpF.mk fun hF => ?_) | (with_reducible refine ImpQ.mk fun hp => ?_) | (with_reducible refine AllE.mk fun p => ?_) | (with_reducible refine AllR.mk fun rest => ?_) | (with_reducible refine AllK.mk fun K => ?_))))); repeat' (with_reducible refine And.intro ?_ ?_))
  any_goals ((try (refine w_seq fun K hK => ?_)); (try (refine w_block ?_)); refine w_loopS (A := Nat) (fun k => k ≤ xs.length ∧ ∀ i, i < k → p (xs.getD i Flp.zero) = false) (fun k => xs.length - k) (fun k => [(8, .int .i64 k)]) (0) (ws := ?ws3) (tk := ?tk3) ?hw3 ?ht3 ?hi ?h0 ?LH3; (case hw3 => simp only [go_sem, decide_true, decide_false, Int.reduceToNat, Nat.min_eq_left, Nat.min_eq_right, Int.reducePow, Nat.reducePow, Int.reduceLE, Int.reduceLT, Int.reduceMul, Int.reduceAdd, Int.reduceSub, Int.reduceNeg, Bool.not_true, Bool.not_false, Bool.not_not, ↓reduceIte, Nat.reduceAdd, Nat.reduceSub, Nat.reduceMul, Nat.reduceEqDiff, reduceCtorEq, Nat.reduceLT, Nat.reduceLeDiff, Nat.reduceGT]; exact rfl); (case ht3 => simp only [go_sem, decide_true, decide_false, Int.reduceToNat, Nat.min_eq_left, Nat.min_eq_right, Int.reducePow, Nat.reducePow, Int.reduceLE, Int.reduceLT, Int.reduceMul, Int.reduceAdd, Int.reduceSub, Int.reduceNeg, Bool.not_true, Bool.not_false, Bool.not_not, ↓reduceIte, Nat.reduceAdd, Nat.reduceSub, Nat.reduceMul, Nat.reduceEqDiff, reduceCtorEq, Nat.reduceLT, Nat.reduceLeDiff, Nat.reduceGT]; exact rfl); (case' LH3 => rintro k E t hx hE ht; simp only [go_sem] at ht; subst ht; simp only [go_sem]; try dsimp only at hx))
  case hi => exact ⟨Nat.zero_le _, fun i hi => absurd hi (by omega)⟩
  case h0 => (focus (simp only [go_sem]; (repeat' (first | exact sub_nil | refine sub_cons ?_ ?_)); (any_goals (first | exact .inl rfl | exact .inr rfl)); (try any_goals (refine .inr ?_)); (try any_goals (refine congrArg _ ?_))))
  case LH3 =>
    have hw : IntKind.i64.wrap ((k : Int) + 1) = ((k + 1 : Nat) : Int) := by rw [wrap_i64 _ (by omega) (by omega)]; omega
    by_cases hk : k < xs.length
    · have hkd : decide ((k : Int) < xs.length) = true := decide_eq_true (by omega)
      (have zx1 := @hkd; all_goals (try ((first | (with_reducible refine wp_id ?_) | (with_reducible refine does_id ?_) | (with_reducible refine ops_id ?_)); refine walk ?_; (repeat' (first | exact trivial | with_reducible refine And.intro ?_ ?_)); all_goals (repeat (first | (with_reducible refine ImpB.mk fun hb => ?_) | (with_reducible refine ImpK.mk fun hK => ?_) | (with_reducible refine ImpF.mk fun hF => ?_) | (with_reducible refine ImpQ.mk fun hp => ?_) | (with_reducible refine AllE.mk fun p => ?_) | (with_reducible refine AllR.mk fun rest => ?_) | (with_reducible refine AllK.mk fun K => ?_))))); repeat' (with_reducible refine And.intro ?_ ?_))
      all_goals first | exact Int.natCast_nonneg _ | exact Int.ofNat_lt.2 hk | rfl | skip
      · rw [fstG_at hk hx.2 hb, Nat.zero_add] at H
        exact H
      · refine ⟨k + 1, ⟨⟨by first | omega | (dsimp only; omega), fun i hi => ?_⟩, by first | omega | (dsimp only; omega)⟩, ?_, rfl⟩
        · by_cases e : i = k
          · rw [e]; exact hb
          · exact hx.2 i (by omega)
        (focus (simp only [go_sem]; (repeat' (first | exact sub_nil | refine sub_cons ?_ ?_)); (any_goals (first | exact .inl rfl | exact .inr rfl)); (try any_goals (refine .inr ?_)); (try any_goals (refine congrArg _ ?_))))
        exact hw.symm
    · have hkd : decide ((k : Int) < xs.length) = false := decide_eq_false (by omega)
      (have zx1 := @hkd; all_goals (try ((first | (with_reducible refine wp_id ?_) | (with_reducible refine does_id ?_) | (with_reducible refine ops_id ?_)); refine walk ?_; (repeat' (first | exact trivial | with_reducible refine And.intro ?_ ?_)); all_goals (repeat (first | (with_reducible refine ImpB.mk fun hb => ?_) | (with_reducible refine ImpK.mk fun hK => ?_) | (with_reducible refine ImpF.mk fun hF => ?_) | (with_reducible refine ImpQ.mk fun hp => ?_) | (with_reducible refine AllE.mk fun p => ?_) | (with_reducible refine AllR.mk fun rest => ?_) | (with_reducible refine AllK.mk fun K => ?_))))); repeat' (with_reducible refine And.intro ?_ ?_))
      rw [fstG_none fun x hx' => by
        obtain ⟨i, hi, rfl⟩ := List.getElem_of_mem hx'
        have := hx.2 i (by omega)
        simpa [List.getD_eq_getElem?_getD, List.getElem?_eq_getElem hi] using this] at H
      exact H
theorem k_ctFlp {n0 : Nat} {h : List Ch} {K : KT} {xs : List Flp} {f : FuncId} {caps : List AV} (p : Flp → Bool) (hl : xs.length ≤ 9223372036854775806) (hp : ∀ x : Flp, ∀ K' : KT, K' (.bool (p x)) h → Does Try.prog f ((.agg [.int .i64 x.idx, .int .i64 x.bit]) :: caps) h K') (H : K (.bool (xs.any p)) h) : DoesK Try.prog n0 21 [.ro .flp xs, .fn f caps] h K := by
  have inst : Ctr 0 37 (∀ {K' : KT} (_ : K' (.int .i64 (fstG p xs 0)) h), Does Try.prog 37 [.ro .flp xs, .fn f caps] h K') := Ctr.mk (fun H => Does.of_K (k_ixFlp p hl hp H))
  refine w_body (rs := [.tmp 4]) (tm := [.ro .flp xs, .fn f caps, .any, .any, .any, .any, .any, .any, .any]) fn_21 rfl rfl rfl rfl fun R hR => ?_
  have hia := fstG_any (p := p) (l := xs) (k := 0)
  (have zx1 := @hia; all_goals (try ((first | (with_reducible refine wp_id ?_) | (with_reducible refine does_id ?_) | (with_reducible refine ops_id ?_)); refine walk ?_; (repeat' (first | exact trivial | with_reducible refine And.intro ?_ ?_)); all_goals (repeat (first | (with_reducible refine ImpB.mk fun hb => ?_) | (with_reducible refine ImpK.mk fun hK => ?_) | (with_reducible refine ImpF.mk fun hF => ?_) | (with_reducible refine ImpQ.mk fun hp => ?_) | (with_reducible refine AllE.mk fun p => ?_) | (with_reducible refine AllR.mk fun rest => ?_) | (with_reducible refine AllK.mk fun K => ?_))))); repeat' (with_reducible refine And.intro ?_ ?_))
  all_goals first | exact H | skip
theorem k_ixInt {n0 : Nat} {h : List Ch} {K : KT} {xs : List Int} {f : FuncId} {caps : List AV} (p : Int → Bool) (hl : xs.length ≤ 9223372036854775806) (hp : ∀ x : Int, ∀ K' : KT, K' (.bool (p x)) h → Does Try.prog f ((.int .i64 x) :: caps) h K') (H : K (.int .i64 (fstG p xs 0)) h) : DoesK Try.prog n0 36 [.ro .int xs, .fn f caps] h K := by
  have inst : Ctr 0 f (∀ {h' : List Ch} {K' : KT} {x : Int} (_ : h' = h) (_ : K' (.bool (p x)) h), Does Try.prog f ((.int .i64 x) :: caps) h' K') := Ctr.mk (by rintro h' K' x rfl H; exact hp x K' H)
  refine w_body (rs := [.tmp 4]) (tm := [.ro .int xs, .fn f caps, .any, .any, .any, .any, .any, .any, .any, .any, .any, .any, .any, .any, .any, .any, .any, .any, .any]) fn_36 rfl rfl rfl rfl fun R hR => ?_
  (all_goals (try ((first | (with_reducible refine wp_id ?_) | (with_reducible refine does_id ?_) | (with_reducible refine ops_id ?_)); refine walk ?_; (repeat' (first | exact trivial | with_reducible refine And.intro ?_ ?_)); all_goals (repeat (first | (with_reducible refine ImpB.mk fun hb => ?_) | (with_reducible refine ImpK.mk fun hK => ?_) | (with_reducible refine ImpF.mk fun hF => ?_) | (with_reducible refine ImpQ.mk fun hp => ?_) | (with_reducible refine AllE.mk fun p => ?_) | (with_reducible refine AllR.mk fun rest => ?_) | (with_reducible refine AllK.mk fun K => ?_))))); repeat' (with_reducible refine And.intro ?_ ?_))
  any_goals ((try (refine w_seq fun K hK => ?_)); (try (refine w_block ?_)); refine w_loopS (A := Nat) (fun k => k ≤ xs.length ∧ ∀ i, i < k → p (xs.getD i 0) = false) (fun k => xs.length - k) (fun k => [(8, .int .i64 k)]) (0) (ws := ?ws4) (tk := ?tk4) ?hw4 ?ht4 ?hi ?h0 ?LH4; (case hw4 => simp only [go_sem, decide_true, decide_false, Int.reduceToNat, Nat.min_eq_left, Nat.min_eq_right, Int.reducePow, Nat.reducePow, Int.reduceLE, Int.reduceLT, Int.reduceMul, Int.reduceAdd, Int.reduceSub, Int.reduceNeg, Bool.not_true, Bool.not_false, Bool.not_not, ↓reduceIte, Nat.reduceAdd, Nat.reduceSub, Nat.reduceMul, Nat.reduceEqDiff, reduceCtorEq, Nat.reduceLT, Nat.reduceLeDiff, Nat.reduceGT]; exact rfl); (case ht4 => simp only [go_sem, decide_true, decide_false, Int.reduceToNat, Nat.min_eq_left, Nat.min_eq_right, Int.reducePow, Nat.reducePow, Int.reduceLE, Int.reduceLT, Int.reduceMul, Int.reduceAdd, Int.reduceSub, Int.reduceNeg, Bool.not_true, Bool.not_false, Bool.not_not, ↓reduceIte, Nat.reduceAdd, Nat.reduceSub, Nat.reduceMul, Nat.reduceEqDiff, reduceCtorEq, Nat.reduceLT, Nat.reduceLeDiff, Nat.reduceGT]; exact rfl); (case' LH4 => rintro k E t hx hE ht; simp only [go_sem] at ht; subst ht; simp only [go_sem]; try dsimp only at hx))
  case hi => exact ⟨Nat.zero_le _, fun i hi => absurd hi (by omega)⟩
  case h0 => (focus (simp only [go_sem]; (repeat' (first | exact sub_nil | refine sub_cons ?_ ?_)); (any_goals (first | exact .inl rfl | exact .inr rfl)); (try any_goals (refine .inr ?_)); (try any_goals (refine congrArg _ ?_))))
  case LH4 =>
    have hw : IntKind.i64.wrap ((k : Int) + 1) = ((k + 1 : Nat) : Int) := by rw [wrap_i64 _ (by omega) (by omega)]; omega
    by_cases hk : k < xs.length
    · have hkd : decide ((k : Int) < xs.length) = true := decide_eq_true (by omega)
      (have zx1 := @hkd; all_goals (try ((first | (with_reducible refine wp_id ?_) | (with_reducible refine does_id ?_) | (with_reducible refine ops_id ?_)); refine walk ?_; (repeat' (first | exact trivial | with_reducible refine And.intro ?_ ?_)); all_goals (repeat (first | (with_reducible refine ImpB.mk fun hb => ?_) | (with_reducible refine ImpK.mk fun hK => ?_) | (with_reducible refine ImpF.mk fun hF => ?_) | (with_reducible refine ImpQ.mk fun hp => ?_) | (with_reducible refine AllE.mk fun p => ?_) | (with_reducible refine AllR.mk fun rest => ?_) | (with_reducible refine AllK.mk fun K => ?_))))); repeat' (with_reducible refine And.intro ?_ ?_))
      all_goals first | exact Int.natCast_nonneg _ | exact Int.ofNat_lt.2 hk | rfl | skip
      · rw [fstG_at hk hx.2 hb, Nat.zero_add] at H
        exact H
      · refine ⟨k + 1, ⟨⟨by first | omega | (dsimp only; omega), fun i hi => ?_⟩, by first | omega | (dsimp only; omega)⟩, ?_, rfl⟩
        · by_cases e : i = k
          · rw [e]; exact hb
          · exact hx.2 i (by omega)
        (focus (simp only [go_sem]; (repeat' (first | exact sub_nil | refine sub_cons ?_ ?_)); (any_goals (first | exact .inl rfl | exact .inr rfl)); (try any_goals (refine .inr ?_)); (try any_goals (refine congrArg _ ?_))))
        exact hw.symm
    · have hkd : decide ((k : Int) < xs.length) = false := decide_eq_false (by omega)
      (have zx1 := @hkd; all_goals (try ((first | (with_reducible refine wp_id ?_) | (with_reducible refine does_id ?_) | (with_reducible refine ops_id ?_)); refine walk ?_; (repeat' (first | exact trivial | with_reducible refine And.intro ?_ ?_)); all_goals (repeat (first | (with_reducible refine ImpB.mk fun hb => ?_) | (with_reducible refine ImpK.mk fun hK => ?_) | (with_reducible refine ImpF.mk fun hF => ?_) | (with_reducible refine ImpQ.mk fun hp => ?_) | (with_reducible refine AllE.mk fun p => ?_) | (with_reducible refine AllR.mk fun rest => ?_) | (with_reducible refine AllK.mk fun K => ?_))))); repeat' (with_reducible refine And.intro ?_ ?_))
      rw [fstG_none fun x hx' => by
        obtain ⟨i, hi, rfl⟩ := List.getElem_of_mem hx'
        have := hx.2 i (by omega)
        simpa [List.getD_eq_getElem?_getD, List.getElem?_eq_getElem hi] using this] at H
      exact H
theorem k_ctInt {n0 : Nat} {h : List Ch} {K : KT} {xs : List Int} {f : FuncId} {caps : List AV} (p : Int → Bool) (hl : xs.length ≤ 9223372036854775806) (hp : ∀ x : Int, ∀ K' : KT, K' (.bool (p x)) h → Does Try.prog f ((.int .i64 x) :: caps) h K') (H : K (.bool (xs.any p)) h) : DoesK Try.prog n0 20 [.ro .int xs, .fn f caps] h K := by
  have inst : Ctr 0 36 (∀ {K' : KT} (_ : K' (.int .i64 (fstG p xs 0)) h), Does Try.prog 36 [.ro .int xs, .fn f caps] h K') := Ctr.mk (fun H => Does.of_K (k_ixInt p hl hp H))
  refine w_body (rs := [.tmp 4]) (tm := [.ro .int xs, .fn f caps, .any, .any, .any, .any, .any, .any, .any]) fn_20 rfl rfl rfl rfl fun R hR => ?_
  have hia := fstG_any (p := p) (l := xs) (k := 0)
  (have zx1 := @hia; all_goals (try ((first | (with_reducible refine wp_id ?_) | (with_reducible refine does_id ?_) | (with_reducible refine ops_id ?_)); refine walk ?_; (repeat' (first | exact trivial | with_reducible refine And.intro ?_ ?_)); all_goals (repeat (first | (with_reducible refine ImpB.mk fun hb => ?_) | (with_reducible refine ImpK.mk fun hK => ?_) | (with_reducible refine ImpF.mk fun hF => ?_) | (with_reducible refine ImpQ.mk fun hp => ?_) | (with_reducible refine AllE.mk fun p => ?_) | (with_reducible refine AllR.mk fun rest => ?_) | (with_reducible refine AllK.mk fun K => ?_))))); repeat' (with_reducible refine And.intro ?_ ?_))
  all_goals first | exact H | skip
/-- n lies in a range -/
def hasB (l : List Rng) (n : Int) : Bool := l.any fun r => decide (r.from_ ≤ n) && decide (n < r.to_)
theorem b_has1 (x : Rng) (n : Int) : DoesK Try.prog 1 39 [.agg [.int .i64 x.from_, .int .i64 x.to_], .ptr 0 0] [.cells [.int .i64 n]] (EndF 1 (.bool (decide (x.from_ ≤ n) && decide (n < x.to_))) ([.cells [.int .i64 n]] ++ [])) := by
  refine DoesK.close ?_
  refine w_body (rs := [.tmp 3]) (tm := [.agg [.int .i64 x.from_, .int .i64 x.to_], .ptr 0 0, .any, .any, .any, .any, .any, .any, .any, .any, .any, .any, .any, .any]) fn_39 rfl rfl rfl rfl fun R hR => ?_
  (all_goals (try ((first | (with_reducible refine wp_id ?_) | (with_reducible refine does_id ?_) | (with_reducible refine ops_id ?_)); refine walk ?_; (repeat' (first | exact trivial | with_reducible refine And.intro ?_ ?_)); all_goals (repeat (first | (with_reducible refine ImpB.mk fun hb => ?_) | (with_reducible refine ImpK.mk fun hK => ?_) | (with_reducible refine ImpF.mk fun hF => ?_) | (with_reducible refine ImpQ.mk fun hp => ?_) | (with_reducible refine AllE.mk fun p => ?_) | (with_reducible refine AllR.mk fun rest => ?_) | (with_reducible refine AllK.mk fun K => ?_))))); repeat' (with_reducible refine And.intro ?_ ?_))
  all_goals
    rw [hb]
    (focus (refine ⟨_, _, Gh.refl, [0], rfl, ?_⟩; (refine ⟨?_, ?_, ?_⟩ <;> simp only [go_sem, List.range, List.range.loop, List.nodup_cons, List.nodup_nil, List.mem_cons, List.not_mem_nil, or_false, or_self, decide_true, decide_false, Int.reduceToNat, Nat.min_eq_left, Nat.min_eq_right, Int.reducePow, Nat.reducePow, Int.reduceLE, Int.reduceLT, Int.reduceMul, Int.reduceAdd, Int.reduceSub, Int.reduceNeg, Bool.not_true, Bool.not_false, Bool.not_not, ↓reduceIte, Nat.reduceAdd, Nat.reduceSub, Nat.reduceMul, Nat.reduceEqDiff, reduceCtorEq, Nat.reduceLT, Nat.reduceLeDiff, Nat.reduceGT]); (try any_goals (refine ⟨?_, ?_⟩)); (try any_goals (with_reducible rfl))))
    all_goals simp
theorem fitC_int (n : Int) (σ : List Nat) : fitC σ (.cells [.int .i64 n]) (.cells [.int .i64 n]) := ⟨⟨rfl, rfl⟩, trivial⟩
theorem c_has1 {h : List Ch} {K : KT} {x : Rng} {t : Nat} {n : Int} (H : K (.bool (decide (x.from_ ≤ n) && decide (n < x.to_))) h) (o : hth h t = .cells [.int .i64 n]) : Does Try.prog 39 [.agg [.int .i64 x.from_, .int .i64 x.to_], .ptr t 0] h K :=
  frame_look (b_has1 x n) o (by simp) (fitC_int n) (br_cons (br_agg (br_cons br_int (br_cons br_int br_nil))) (br_cons (br_ptr rfl) br_nil)) (.inl rfl) (fun _ => rfl) rfl H
theorem c_containsHas {h : List Ch} {K : KT} {xs : List Rng} {t : Nat} {n : Int} (H : K (.bool (hasB xs n)) h) (o : hth h t = .cells [.int .i64 n]) (s1 : xs.length ≤ 9223372036854775806) : Does Try.prog 38 [.ro .rng xs, .fn 39 [.ptr t 0]] h K :=
  Does.of_K (k_ctRng _ s1 (fun x K' hK' => c_has1 hK' o) H)
abbrev i_containsHas := Ctr.mk (i := 0) (g := 38) @c_containsHas
attribute [instance] i_containsHas
theorem b_has (xs : List Rng) (n : Int) (hl : xs.length ≤ 9223372036854775806) : DoesK Try.prog 0 28 [.ro .rng xs, .int .i64 n] [] (EndF 0 (.bool (hasB xs n)) []) := by
  refine DoesK.close ?_
  refine w_body (rs := [.tmp 4]) (tm := [.ro .rng xs, .int .i64 n, .any, .any, .any, .any, .any, .any]) fn_28 rfl rfl rfl rfl fun R hR => ?_
  (all_goals (try ((first | (with_reducible refine wp_id ?_) | (with_reducible refine does_id ?_) | (with_reducible refine ops_id ?_)); refine walk ?_; (repeat' (first | exact trivial | with_reducible refine And.intro ?_ ?_)); all_goals (repeat (first | (with_reducible refine ImpB.mk fun hb => ?_) | (with_reducible refine ImpK.mk fun hK => ?_) | (with_reducible refine ImpF.mk fun hF => ?_) | (with_reducible refine ImpQ.mk fun hp => ?_) | (with_reducible refine AllE.mk fun p => ?_) | (with_reducible refine AllR.mk fun rest => ?_) | (with_reducible refine AllK.mk fun K => ?_))))); repeat' (with_reducible refine And.intro ?_ ?_))
  (focus (refine ⟨_, _, Gh.refl, [], rfl, ?_⟩; (refine ⟨?_, ?_, ?_⟩ <;> simp only [go_sem, List.range, List.range.loop, List.nodup_cons, List.nodup_nil, List.mem_cons, List.not_mem_nil, or_false, or_self, decide_true, decide_false, Int.reduceToNat, Nat.min_eq_left, Nat.min_eq_right, Int.reducePow, Nat.reducePow, Int.reduceLE, Int.reduceLT, Int.reduceMul, Int.reduceAdd, Int.reduceSub, Int.reduceNeg, Bool.not_true, Bool.not_false, Bool.not_not, ↓reduceIte, Nat.reduceAdd, Nat.reduceSub, Nat.reduceMul, Nat.reduceEqDiff, reduceCtorEq, Nat.reduceLT, Nat.reduceLeDiff, Nat.reduceGT]); (try any_goals (refine ⟨?_, ?_⟩)); (try any_goals (with_reducible rfl))))
theorem c_has {h : List Ch} {K : KT} {xs : List Rng} {n : Int} {a : AV} (H : K (.bool (hasB xs n)) h) (b1 : brA [] h (.ro .rng xs) a) (s1 : xs.length ≤ 9223372036854775806) : Does Try.prog 28 [a, .int .i64 n] h K :=
  frame_pure (b_has xs n s1) (br_cons b1 (br_cons br_int br_nil)) (.inr rfl) (fun _ => rfl) H
abbrev i_has := Ctr.mk (i := 0) (g := 28) @c_has
attribute [instance] i_has
def negInt (x : Int) : Bool := decide (x < 0)
theorem b_negInt (x : Int) : DoesK Try.prog 0 19 [.int .i64 x] [] (EndF 0 (.bool (negInt x)) []) := by
  refine DoesK.close ?_
  unfold negInt
  refine w_body (rs := [.tmp 2]) (tm := [.int .i64 x, .any, .any, .any, .any]) fn_19 rfl rfl rfl rfl fun R hR => ?_
  (all_goals (try ((first | (with_reducible refine wp_id ?_) | (with_reducible refine does_id ?_) | (with_reducible refine ops_id ?_)); refine walk ?_; (repeat' (first | exact trivial | with_reducible refine And.intro ?_ ?_)); all_goals (repeat (first | (with_reducible refine ImpB.mk fun hb => ?_) | (with_reducible refine ImpK.mk fun hK => ?_) | (with_reducible refine ImpF.mk fun hF => ?_) | (with_reducible refine ImpQ.mk fun hp => ?_) | (with_reducible refine AllE.mk fun p => ?_) | (with_reducible refine AllR.mk fun rest => ?_) | (with_reducible refine AllK.mk fun K => ?_))))); repeat' (with_reducible refine And.intro ?_ ?_))
  all_goals (try rw [hb])
  all_goals (focus (refine ⟨_, _, Gh.refl, [], rfl, ?_⟩; (refine ⟨?_, ?_, ?_⟩ <;> simp only [go_sem, List.range, List.range.loop, List.nodup_cons, List.nodup_nil, List.mem_cons, List.not_mem_nil, or_false, or_self, decide_true, decide_false, Int.reduceToNat, Nat.min_eq_left, Nat.min_eq_right, Int.reducePow, Nat.reducePow, Int.reduceLE, Int.reduceLT, Int.reduceMul, Int.reduceAdd, Int.reduceSub, Int.reduceNeg, Bool.not_true, Bool.not_false, Bool.not_not, ↓reduceIte, Nat.reduceAdd, Nat.reduceSub, Nat.reduceMul, Nat.reduceEqDiff, reduceCtorEq, Nat.reduceLT, Nat.reduceLeDiff, Nat.reduceGT]); (try any_goals (refine ⟨?_, ?_⟩)); (try any_goals (with_reducible rfl))))
  all_goals (first | rfl | simp)
theorem c_negInt {h : List Ch} {K : KT} {x : Int} (H : K (.bool (negInt x)) h) : Does Try.prog 19 [.int .i64 x] h K :=
  frame_pure (b_negInt x) (br_cons br_int br_nil) (.inl rfl) (fun _ => rfl) H
theorem c_anyInt {h : List Ch} {K : KT} {xs : List Int} (H : K (.bool (xs.any negInt)) h) (s1 : xs.length ≤ 9223372036854775806) : Does Try.prog 20 [.ro .int xs, .fn 19 []] h K :=
  Does.of_K (k_ctInt _ s1 (fun x K' hK' => c_negInt hK') H)
abbrev i_anyInt := Ctr.mk (i := 0) (g := 20) @c_anyInt
attribute [instance] i_anyInt
def negFlp (x : Flp) : Bool := decide (x.idx < 0) || decide (x.bit < 0)
theorem b_negFlp (x : Flp) : DoesK Try.prog 0 22 [.agg [.int .i64 x.idx, .int .i64 x.bit]] [] (EndF 0 (.bool (negFlp x)) []) := by
  refine DoesK.close ?_
  unfold negFlp
  refine w_body (rs := [.tmp 2]) (tm := [.agg [.int .i64 x.idx, .int .i64 x.bit], .any, .any, .any, .any, .any, .any, .any, .any, .any, .any]) fn_22 rfl rfl rfl rfl fun R hR => ?_
  (all_goals (try ((first | (with_reducible refine wp_id ?_) | (with_reducible refine does_id ?_) | (with_reducible refine ops_id ?_)); refine walk ?_; (repeat' (first | exact trivial | with_reducible refine And.intro ?_ ?_)); all_goals (repeat (first | (with_reducible refine ImpB.mk fun hb => ?_) | (with_reducible refine ImpK.mk fun hK => ?_) | (with_reducible refine ImpF.mk fun hF => ?_) | (with_reducible refine ImpQ.mk fun hp => ?_) | (with_reducible refine AllE.mk fun p => ?_) | (with_reducible refine AllR.mk fun rest => ?_) | (with_reducible refine AllK.mk fun K => ?_))))); repeat' (with_reducible refine And.intro ?_ ?_))
  all_goals (try rw [hb])
  all_goals (focus (refine ⟨_, _, Gh.refl, [], rfl, ?_⟩; (refine ⟨?_, ?_, ?_⟩ <;> simp only [go_sem, List.range, List.range.loop, List.nodup_cons, List.nodup_nil, List.mem_cons, List.not_mem_nil, or_false, or_self, decide_true, decide_false, Int.reduceToNat, Nat.min_eq_left, Nat.min_eq_right, Int.reducePow, Nat.reducePow, Int.reduceLE, Int.reduceLT, Int.reduceMul, Int.reduceAdd, Int.reduceSub, Int.reduceNeg, Bool.not_true, Bool.not_false, Bool.not_not, ↓reduceIte, Nat.reduceAdd, Nat.reduceSub, Nat.reduceMul, Nat.reduceEqDiff, reduceCtorEq, Nat.reduceLT, Nat.reduceLeDiff, Nat.reduceGT]); (try any_goals (refine ⟨?_, ?_⟩)); (try any_goals (with_reducible rfl))))
  all_goals (first | rfl | simp)
theorem c_negFlp {h : List Ch} {K : KT} {x : Flp} (H : K (.bool (negFlp x)) h) : Does Try.prog 22 [.agg [.int .i64 x.idx, .int .i64 x.bit]] h K :=
  frame_pure (b_negFlp x) (br_cons (br_Flp x) br_nil) (.inl rfl) (fun _ => rfl) H
theorem c_anyFlp {h : List Ch} {K : KT} {xs : List Flp} (H : K (.bool (xs.any negFlp)) h) (s1 : xs.length ≤ 9223372036854775806) : Does Try.prog 21 [.ro .flp xs, .fn 22 []] h K :=
  Does.of_K (k_ctFlp _ s1 (fun x K' hK' => c_negFlp hK') H)
abbrev i_anyFlp := Ctr.mk (i := 0) (g := 21) @c_anyFlp
attribute [instance] i_anyFlp
theorem b_clo_rng (xs : List Rng) (hl : xs.length ≤ 1099511627776) : DoesK Try.prog 0 23 [.ro .rng xs] [] (EndF 0 (.ro .rng xs) []) := by
  refine DoesK.close ?_
  refine w_body (rs := [.tmp 2]) (tm := [.ro .rng xs, .any, .any, .any, .any, .any, .any, .any]) fn_23 rfl rfl rfl rfl fun R hR => ?_
  (all_goals (try ((first | (with_reducible refine wp_id ?_) | (with_reducible refine does_id ?_) | (with_reducible refine ops_id ?_)); refine walk ?_; (repeat' (first | exact trivial | with_reducible refine And.intro ?_ ?_)); all_goals (repeat (first | (with_reducible refine ImpB.mk fun hb => ?_) | (with_reducible refine ImpK.mk fun hK => ?_) | (with_reducible refine ImpF.mk fun hF => ?_) | (with_reducible refine ImpQ.mk fun hp => ?_) | (with_reducible refine AllE.mk fun p => ?_) | (with_reducible refine AllR.mk fun rest => ?_) | (with_reducible refine AllK.mk fun K => ?_))))); repeat' (with_reducible refine And.intro ?_ ?_))
  (all_goals first | exact Int.natCast_nonneg _ | exact Int.ofNat_lt.2 (by assumption) | assumption | omega | exact Nat.le_refl _ | (exfalso; simp at hb; done) | (simp only [go_sem, decide_true, decide_false, Int.reduceToNat, Nat.min_eq_left, Nat.min_eq_right, Int.reducePow, Nat.reducePow, Int.reduceLE, Int.reduceLT, Int.reduceMul, Int.reduceAdd, Int.reduceSub, Int.reduceNeg, Bool.not_true, Bool.not_false, Bool.not_not, ↓reduceIte, Nat.reduceAdd, Nat.reduceSub, Nat.reduceMul, Nat.reduceEqDiff, reduceCtorEq, Nat.reduceLT, Nat.reduceLeDiff, Nat.reduceGT]; done) | (unfold capM; omega) | (simp only [List.length_drop, List.length_take, List.length_append, List.length_cons, List.length_nil]; omega) | skip)
  · exact ⟨_, rfl⟩
  · (focus (refine ⟨_, _, Gh.refl, [], rfl, ?_⟩; (refine ⟨?_, ?_, ?_⟩ <;> simp only [go_sem, List.range, List.range.loop, List.nodup_cons, List.nodup_nil, List.mem_cons, List.not_mem_nil, or_false, or_self, decide_true, decide_false, Int.reduceToNat, Nat.min_eq_left, Nat.min_eq_right, Int.reducePow, Nat.reducePow, Int.reduceLE, Int.reduceLT, Int.reduceMul, Int.reduceAdd, Int.reduceSub, Int.reduceNeg, Bool.not_true, Bool.not_false, Bool.not_not, ↓reduceIte, Nat.reduceAdd, Nat.reduceSub, Nat.reduceMul, Nat.reduceEqDiff, reduceCtorEq, Nat.reduceLT, Nat.reduceLeDiff, Nat.reduceGT]); (try any_goals (refine ⟨?_, ?_⟩)); (try any_goals (with_reducible rfl))))
    all_goals (try exact hb)
  · refine ⟨_, _, gh_frz (t := 1) (e := .rng) (xs := xs) rfl ?f1 ?f2, [], rfl, ?ft⟩
    case' ft => (refine ⟨?_, ?_, ?_⟩ <;> simp only [go_sem, List.range, List.range.loop, List.nodup_cons, List.nodup_nil, List.mem_cons, List.not_mem_nil, or_false, or_self, decide_true, decide_false, Int.reduceToNat, Nat.min_eq_left, Nat.min_eq_right, Int.reducePow, Nat.reducePow, Int.reduceLE, Int.reduceLT, Int.reduceMul, Int.reduceAdd, Int.reduceSub, Int.reduceNeg, Bool.not_true, Bool.not_false, Bool.not_not, ↓reduceIte, Nat.reduceAdd, Nat.reduceSub, Nat.reduceMul, Nat.reduceEqDiff, reduceCtorEq, Nat.reduceLT, Nat.reduceLeDiff, Nat.reduceGT])
    case' f1 => simp only [go_sem, decide_true, decide_false, Int.reduceToNat, Nat.min_eq_left, Nat.min_eq_right, Int.reducePow, Nat.reducePow, Int.reduceLE, Int.reduceLT, Int.reduceMul, Int.reduceAdd, Int.reduceSub, Int.reduceNeg, Bool.not_true, Bool.not_false, Bool.not_not, ↓reduceIte, Nat.reduceAdd, Nat.reduceSub, Nat.reduceMul, Nat.reduceEqDiff, reduceCtorEq, Nat.reduceLT, Nat.reduceLeDiff, Nat.reduceGT]
    case' f2 => simp only [go_sem, decide_true, decide_false, Int.reduceToNat, Nat.min_eq_left, Nat.min_eq_right, Int.reducePow, Nat.reducePow, Int.reduceLE, Int.reduceLT, Int.reduceMul, Int.reduceAdd, Int.reduceSub, Int.reduceNeg, Bool.not_true, Bool.not_false, Bool.not_not, ↓reduceIte, Nat.reduceAdd, Nat.reduceSub, Nat.reduceMul, Nat.reduceEqDiff, reduceCtorEq, Nat.reduceLT, Nat.reduceLeDiff, Nat.reduceGT]
    all_goals first | exact Nat.le_refl _ | simp
theorem c_clo_rng {h : List Ch} {K : KT} {xs : List Rng} {a : AV} (H : K (.ro .rng xs) h) (q1 : isRO .rng xs a) (s1 : xs.length ≤ 1099511627776) : Does Try.prog 23 [a] h K :=
  frame_pure (b_clo_rng xs s1) (br_cons q1.br br_nil) (.inl (by rw [brTL, q1.brT]; rfl)) (fun _ => rfl) H
abbrev i_clo_rng := Ctr.mk (i := 0) (g := 23) @c_clo_rng
attribute [instance] i_clo_rng
theorem b_clo_int (xs : List Int) (hl : xs.length ≤ 1099511627776) : DoesK Try.prog 0 24 [.ro .int xs] [] (EndF 0 (.ro .int xs) []) := by
  refine DoesK.close ?_
  refine w_body (rs := [.tmp 2]) (tm := [.ro .int xs, .any, .any, .any, .any, .any, .any, .any]) fn_24 rfl rfl rfl rfl fun R hR => ?_
  (all_goals (try ((first | (with_reducible refine wp_id ?_) | (with_reducible refine does_id ?_) | (with_reducible refine ops_id ?_)); refine walk ?_; (repeat' (first | exact trivial | with_reducible refine And.intro ?_ ?_)); all_goals (repeat (first | (with_reducible refine ImpB.mk fun hb => ?_) | (with_reducible refine ImpK.mk fun hK => ?_) | (with_reducible refine ImpF.mk fun hF => ?_) | (with_reducible refine ImpQ.mk fun hp => ?_) | (with_reducible refine AllE.mk fun p => ?_) | (with_reducible refine AllR.mk fun rest => ?_) | (with_reducible refine AllK.mk fun K => ?_))))); repeat' (with_reducible refine And.intro ?_ ?_))
  (all_goals first | exact Int.natCast_nonneg _ | exact Int.ofNat_lt.2 (by assumption) | assumption | omega | exact Nat.le_refl _ | (exfalso; simp at hb; done) | (simp only [go_sem, decide_true, decide_false, Int.reduceToNat, Nat.min_eq_left, Nat.min_eq_right, Int.reducePow, Nat.reducePow, Int.reduceLE, Int.reduceLT, Int.reduceMul, Int.reduceAdd, Int.reduceSub, Int.reduceNeg, Bool.not_true, Bool.not_false, Bool.not_not, ↓reduceIte, Nat.reduceAdd, Nat.reduceSub, Nat.reduceMul, Nat.reduceEqDiff, reduceCtorEq, Nat.reduceLT, Nat.reduceLeDiff, Nat.reduceGT]; done) | (unfold capM; omega) | (simp only [List.length_drop, List.length_take, List.length_append, List.length_cons, List.length_nil]; omega) | skip)
  · exact ⟨_, rfl⟩
  · (focus (refine ⟨_, _, Gh.refl, [], rfl, ?_⟩; (refine ⟨?_, ?_, ?_⟩ <;> simp only [go_sem, List.range, List.range.loop, List.nodup_cons, List.nodup_nil, List.mem_cons, List.not_mem_nil, or_false, or_self, decide_true, decide_false, Int.reduceToNat, Nat.min_eq_left, Nat.min_eq_right, Int.reducePow, Nat.reducePow, Int.reduceLE, Int.reduceLT, Int.reduceMul, Int.reduceAdd, Int.reduceSub, Int.reduceNeg, Bool.not_true, Bool.not_false, Bool.not_not, ↓reduceIte, Nat.reduceAdd, Nat.reduceSub, Nat.reduceMul, Nat.reduceEqDiff, reduceCtorEq, Nat.reduceLT, Nat.reduceLeDiff, Nat.reduceGT]); (try any_goals (refine ⟨?_, ?_⟩)); (try any_goals (with_reducible rfl))))
    all_goals (try exact hb)
  · refine ⟨_, _, gh_frz (t := 1) (e := .int) (xs := xs) rfl ?f1 ?f2, [], rfl, ?ft⟩
    case' ft => (refine ⟨?_, ?_, ?_⟩ <;> simp only [go_sem, List.range, List.range.loop, List.nodup_cons, List.nodup_nil, List.mem_cons, List.not_mem_nil, or_false, or_self, decide_true, decide_false, Int.reduceToNat, Nat.min_eq_left, Nat.min_eq_right, Int.reducePow, Nat.reducePow, Int.reduceLE, Int.reduceLT, Int.reduceMul, Int.reduceAdd, Int.reduceSub, Int.reduceNeg, Bool.not_true, Bool.not_false, Bool.not_not, ↓reduceIte, Nat.reduceAdd, Nat.reduceSub, Nat.reduceMul, Nat.reduceEqDiff, reduceCtorEq, Nat.reduceLT, Nat.reduceLeDiff, Nat.reduceGT])
    case' f1 => simp only [go_sem, decide_true, decide_false, Int.reduceToNat, Nat.min_eq_left, Nat.min_eq_right, Int.reducePow, Nat.reducePow, Int.reduceLE, Int.reduceLT, Int.reduceMul, Int.reduceAdd, Int.reduceSub, Int.reduceNeg, Bool.not_true, Bool.not_false, Bool.not_not, ↓reduceIte, Nat.reduceAdd, Nat.reduceSub, Nat.reduceMul, Nat.reduceEqDiff, reduceCtorEq, Nat.reduceLT, Nat.reduceLeDiff, Nat.reduceGT]
    case' f2 => simp only [go_sem, decide_true, decide_false, Int.reduceToNat, Nat.min_eq_left, Nat.min_eq_right, Int.reducePow, Nat.reducePow, Int.reduceLE, Int.reduceLT, Int.reduceMul, Int.reduceAdd, Int.reduceSub, Int.reduceNeg, Bool.not_true, Bool.not_false, Bool.not_not, ↓reduceIte, Nat.reduceAdd, Nat.reduceSub, Nat.reduceMul, Nat.reduceEqDiff, reduceCtorEq, Nat.reduceLT, Nat.reduceLeDiff, Nat.reduceGT]
    all_goals first | exact Nat.le_refl _ | simp
theorem c_clo_int {h : List Ch} {K : KT} {xs : List Int} {a : AV} (H : K (.ro .int xs) h) (q1 : isRO .int xs a) (s1 : xs.length ≤ 1099511627776) : Does Try.prog 24 [a] h K :=
  frame_pure (b_clo_int xs s1) (br_cons q1.br br_nil) (.inl (by rw [brTL, q1.brT]; rfl)) (fun _ => rfl) H
abbrev i_clo_int := Ctr.mk (i := 0) (g := 24) @c_clo_int
attribute [instance] i_clo_int
theorem b_clo_flp (xs : List Flp) (hl : xs.length ≤ 1099511627776) : DoesK Try.prog 0 25 [.ro .flp xs] [] (EndF 0 (.ro .flp xs) []) := by
  refine DoesK.close ?_
  refine w_body (rs := [.tmp 2]) (tm := [.ro .flp xs, .any, .any, .any, .any, .any, .any, .any]) fn_25 rfl rfl rfl rfl fun R hR => ?_
  (all_goals (try ((first | (with_reducible refine wp_id ?_) | (with_reducible refine does_id ?_) | (with_reducible refine ops_id ?_)); refine walk ?_; (repeat' (first | exact trivial | with_reducible refine And.intro ?_ ?_)); all_goals (repeat (first | (with_reducible refine ImpB.mk fun hb => ?_) | (with_reducible refine ImpK.mk fun hK => ?_) | (with_reducible refine ImpF.mk fun hF => ?_) | (with_reducible refine ImpQ.mk fun hp => ?_) | (with_reducible refine AllE.mk fun p => ?_) | (with_reducible refine AllR.mk fun rest => ?_) | (with_reducible refine AllK.mk fun K => ?_))))); repeat' (with_reducible refine And.intro ?_ ?_))
  (all_goals first | exact Int.natCast_nonneg _ | exact Int.ofNat_lt.2 (by assumption) | assumption | omega | exact Nat.le_refl _ | (exfalso; simp at hb; done) | (simp only [go_sem, decide_true, decide_false, Int.reduceToNat, Nat.min_eq_left, Nat.min_eq_right, Int.reducePow, Nat.reducePow, Int.reduceLE, Int.reduceLT, Int.reduceMul, Int.reduceAdd, Int.reduceSub, Int.reduceNeg, Bool.not_true, Bool.not_false, Bool.not_not, ↓reduceIte, Nat.reduceAdd, Nat.reduceSub, Nat.reduceMul, Nat.reduceEqDiff, reduceCtorEq, Nat.reduceLT, Nat.reduceLeDiff, Nat.reduceGT]; done) | (unfold capM; omega) | (simp only [List.length_drop, List.length_take, List.length_append, List.length_cons, List.length_nil]; omega) | skip)
  · exact ⟨_, rfl⟩
  · (focus (refine ⟨_, _, Gh.refl, [], rfl, ?_⟩; (refine ⟨?_, ?_, ?_⟩ <;> simp only [go_sem, List.range, List.range.loop, List.nodup_cons, List.nodup_nil, List.mem_cons, List.not_mem_nil, or_false, or_self, decide_true, decide_false, Int.reduceToNat, Nat.min_eq_left, Nat.min_eq_right, Int.reducePow, Nat.reducePow, Int.reduceLE, Int.reduceLT, Int.reduceMul, Int.reduceAdd, Int.reduceSub, Int.reduceNeg, Bool.not_true, Bool.not_false, Bool.not_not, ↓reduceIte, Nat.reduceAdd, Nat.reduceSub, Nat.reduceMul, Nat.reduceEqDiff, reduceCtorEq, Nat.reduceLT, Nat.reduceLeDiff, Nat.reduceGT]); (try any_goals (refine ⟨?_, ?_⟩)); (try any_goals (with_reducible rfl))))
    all_goals (try exact hb)
  · refine ⟨_, _, gh_frz (t := 1) (e := .flp) (xs := xs) rfl ?f1 ?f2, [], rfl, ?ft⟩
    case' ft => (refine ⟨?_, ?_, ?_⟩ <;> simp only [go_sem, List.range, List.range.loop, List.nodup_cons, List.nodup_nil, List.mem_cons, List.not_mem_nil, or_false, or_self, decide_true, decide_false, Int.reduceToNat, Nat.min_eq_left, Nat.min_eq_right, Int.reducePow, Nat.reducePow, Int.reduceLE, Int.reduceLT, Int.reduceMul, Int.reduceAdd, Int.reduceSub, Int.reduceNeg, Bool.not_true, Bool.not_false, Bool.not_not, ↓reduceIte, Nat.reduceAdd, Nat.reduceSub, Nat.reduceMul, Nat.reduceEqDiff, reduceCtorEq, Nat.reduceLT, Nat.reduceLeDiff, Nat.reduceGT])
    case' f1 => simp only [go_sem, decide_true, decide_false, Int.reduceToNat, Nat.min_eq_left, Nat.min_eq_right, Int.reducePow, Nat.reducePow, Int.reduceLE, Int.reduceLT, Int.reduceMul, Int.reduceAdd, Int.reduceSub, Int.reduceNeg, Bool.not_true, Bool.not_false, Bool.not_not, ↓reduceIte, Nat.reduceAdd, Nat.reduceSub, Nat.reduceMul, Nat.reduceEqDiff, reduceCtorEq, Nat.reduceLT, Nat.reduceLeDiff, Nat.reduceGT]
    case' f2 => simp only [go_sem, decide_true, decide_false, Int.reduceToNat, Nat.min_eq_left, Nat.min_eq_right, Int.reducePow, Nat.reducePow, Int.reduceLE, Int.reduceLT, Int.reduceMul, Int.reduceAdd, Int.reduceSub, Int.reduceNeg, Bool.not_true, Bool.not_false, Bool.not_not, ↓reduceIte, Nat.reduceAdd, Nat.reduceSub, Nat.reduceMul, Nat.reduceEqDiff, reduceCtorEq, Nat.reduceLT, Nat.reduceLeDiff, Nat.reduceGT]
    all_goals first | exact Nat.le_refl _ | simp
theorem c_clo_flp {h : List Ch} {K : KT} {xs : List Flp} {a : AV} (H : K (.ro .flp xs) h) (q1 : isRO .flp xs a) (s1 : xs.length ≤ 1099511627776) : Does Try.prog 25 [a] h K :=
  frame_pure (b_clo_flp xs s1) (br_cons q1.br br_nil) (.inl (by rw [brTL, q1.brT]; rfl)) (fun _ => rfl) H
abbrev i_clo_flp := Ctr.mk (i := 0) (g := 25) @c_clo_flp
attribute [instance] i_clo_flp
theorem b_ixI (xs : List Int) (n : Int) (hl : xs.length ≤ 9223372036854775806) : DoesK Try.prog 0 40 [.ro .int xs, .int .i64 n] [] (EndF 0 (.int .i64 (fstG (fun x => decide (x = n)) xs 0)) []) := by
  refine DoesK.close ?_
  refine w_body (rs := [.tmp 4]) (tm := [.ro .int xs, .int .i64 n, .any, .any, .any, .any, .any, .any, .any, .any, .any, .any, .any, .any, .any, .any, .any, .any, .any]) fn_40 rfl rfl rfl rfl fun R hR => ?_
  (all_goals (try ((first | (with_reducible refine wp_id ?_) | (with_reducible refine does_id ?_) | (with_reducible refine ops_id ?_)); refine walk ?_; (repeat' (first | exact trivial | with_reducible refine And.intro ?_ ?_)); all_goals (repeat (first | (with_reducible refine ImpB.mk fun hb => ?_) | (with_reducible refine ImpK.mk fun hK => ?_) | (with_reducible refine ImpF.mk fun hF => ?_) | (with_reducible refine ImpQ.mk fun hp => ?_) | (with_reducible refine AllE.mk fun p => ?_) | (with_reducible refine AllR.mk fun rest => ?_) | (with_reducible refine AllK.mk fun K => ?_))))); repeat' (with_reducible refine And.intro ?_ ?_))
  any_goals ((try (refine w_seq fun K hK => ?_)); (try (refine w_block ?_)); refine w_loop (A := Nat) (fun k => k ≤ xs.length ∧ ∀ i, i < k → decide (xs.getD i 0 = n) = false) (fun k => xs.length - k) (fun k => [(8, .int .i64 k)]) (fun _ => []) (0) (ws := ?ws1) (tk := ?tk1) ?hw1 ?ht1 ?hi ?h0 ?LH1; (case hw1 => simp only [go_sem, decide_true, decide_false, Int.reduceToNat, Nat.min_eq_left, Nat.min_eq_right, Int.reducePow, Nat.reducePow, Int.reduceLE, Int.reduceLT, Int.reduceMul, Int.reduceAdd, Int.reduceSub, Int.reduceNeg, Bool.not_true, Bool.not_false, Bool.not_not, ↓reduceIte, Nat.reduceAdd, Nat.reduceSub, Nat.reduceMul, Nat.reduceEqDiff, reduceCtorEq, Nat.reduceLT, Nat.reduceLeDiff, Nat.reduceGT]; exact rfl); (case ht1 => simp only [go_sem, decide_true, decide_false, Int.reduceToNat, Nat.min_eq_left, Nat.min_eq_right, Int.reducePow, Nat.reducePow, Int.reduceLE, Int.reduceLT, Int.reduceMul, Int.reduceAdd, Int.reduceSub, Int.reduceNeg, Bool.not_true, Bool.not_false, Bool.not_not, ↓reduceIte, Nat.reduceAdd, Nat.reduceSub, Nat.reduceMul, Nat.reduceEqDiff, reduceCtorEq, Nat.reduceLT, Nat.reduceLeDiff, Nat.reduceGT]; exact rfl); (case' LH1 => rintro k E t hx hE ht; simp only [go_sem] at ht; subst ht; simp only [go_sem]; try dsimp only at hx))
  case hi => exact ⟨Nat.zero_le _, fun i hi => absurd hi (by omega)⟩
  case h0 => (focus (refine ⟨_, _, Gh.refl, [], rfl, ?_⟩; (refine ⟨?_, ?_, ?_⟩ <;> simp only [go_sem, List.range, List.range.loop, List.nodup_cons, List.nodup_nil, List.mem_cons, List.not_mem_nil, or_false, or_self, decide_true, decide_false, Int.reduceToNat, Nat.min_eq_left, Nat.min_eq_right, Int.reducePow, Nat.reducePow, Int.reduceLE, Int.reduceLT, Int.reduceMul, Int.reduceAdd, Int.reduceSub, Int.reduceNeg, Bool.not_true, Bool.not_false, Bool.not_not, ↓reduceIte, Nat.reduceAdd, Nat.reduceSub, Nat.reduceMul, Nat.reduceEqDiff, reduceCtorEq, Nat.reduceLT, Nat.reduceLeDiff, Nat.reduceGT]); (try any_goals (refine ⟨?_, ?_⟩)); (try any_goals (with_reducible rfl))))
  case LH1 =>
    have hw : IntKind.i64.wrap ((k : Int) + 1) = ((k + 1 : Nat) : Int) := by rw [wrap_i64 _ (by omega) (by omega)]; omega
    by_cases hk : k < xs.length
    · have hkd : decide ((k : Int) < xs.length) = true := decide_eq_true (by omega)
      cases c : decide (xs.getD k 0 = n)
      · have c' : decide (n = xs.getD k 0) = false := by rw [← c]; exact decide_eq_decide.2 eq_comm
        (have zx1 := @hkd; have zx2 := @hw; have zx3 := @c; have zx4 := @c'; all_goals (try ((first | (with_reducible refine wp_id ?_) | (with_reducible refine does_id ?_) | (with_reducible refine ops_id ?_)); refine walk ?_; (repeat' (first | exact trivial | with_reducible refine And.intro ?_ ?_)); all_goals (repeat (first | (with_reducible refine ImpB.mk fun hb => ?_) | (with_reducible refine ImpK.mk fun hK => ?_) | (with_reducible refine ImpF.mk fun hF => ?_) | (with_reducible refine ImpQ.mk fun hp => ?_) | (with_reducible refine AllE.mk fun p => ?_) | (with_reducible refine AllR.mk fun rest => ?_) | (with_reducible refine AllK.mk fun K => ?_))))); repeat' (with_reducible refine And.intro ?_ ?_))
        all_goals first | exact Int.natCast_nonneg _ | omega | skip
        refine ⟨k + 1, ⟨⟨by first | omega | (dsimp only; omega), fun i hi => ?_⟩, by first | omega | (dsimp only; omega)⟩, ?_⟩
        · by_cases e : i = k
          · rw [e]; exact c
          · exact hx.2 i (by omega)
        (focus (refine ⟨_, _, Gh.refl, [], rfl, ?_⟩; (refine ⟨?_, ?_, ?_⟩ <;> simp only [go_sem, List.range, List.range.loop, List.nodup_cons, List.nodup_nil, List.mem_cons, List.not_mem_nil, or_false, or_self, decide_true, decide_false, Int.reduceToNat, Nat.min_eq_left, Nat.min_eq_right, Int.reducePow, Nat.reducePow, Int.reduceLE, Int.reduceLT, Int.reduceMul, Int.reduceAdd, Int.reduceSub, Int.reduceNeg, Bool.not_true, Bool.not_false, Bool.not_not, ↓reduceIte, Nat.reduceAdd, Nat.reduceSub, Nat.reduceMul, Nat.reduceEqDiff, reduceCtorEq, Nat.reduceLT, Nat.reduceLeDiff, Nat.reduceGT]); (try any_goals (refine ⟨?_, ?_⟩)); (try any_goals (with_reducible rfl))))
      · have c' : decide (n = xs.getD k 0) = true := by rw [← c]; exact decide_eq_decide.2 eq_comm
        (have zx1 := @hkd; have zx2 := @hw; have zx3 := @c; have zx4 := @c'; all_goals (try ((first | (with_reducible refine wp_id ?_) | (with_reducible refine does_id ?_) | (with_reducible refine ops_id ?_)); refine walk ?_; (repeat' (first | exact trivial | with_reducible refine And.intro ?_ ?_)); all_goals (repeat (first | (with_reducible refine ImpB.mk fun hb => ?_) | (with_reducible refine ImpK.mk fun hK => ?_) | (with_reducible refine ImpF.mk fun hF => ?_) | (with_reducible refine ImpQ.mk fun hp => ?_) | (with_reducible refine AllE.mk fun p => ?_) | (with_reducible refine AllR.mk fun rest => ?_) | (with_reducible refine AllK.mk fun K => ?_))))); repeat' (with_reducible refine And.intro ?_ ?_))
        all_goals first | exact Int.natCast_nonneg _ | omega | skip
        rw [fstG_at (p := fun x => decide (x = n)) hk hx.2 c, Nat.zero_add]
        (focus (refine ⟨_, _, Gh.refl, [], rfl, ?_⟩; (refine ⟨?_, ?_, ?_⟩ <;> simp only [go_sem, List.range, List.range.loop, List.nodup_cons, List.nodup_nil, List.mem_cons, List.not_mem_nil, or_false, or_self, decide_true, decide_false, Int.reduceToNat, Nat.min_eq_left, Nat.min_eq_right, Int.reducePow, Nat.reducePow, Int.reduceLE, Int.reduceLT, Int.reduceMul, Int.reduceAdd, Int.reduceSub, Int.reduceNeg, Bool.not_true, Bool.not_false, Bool.not_not, ↓reduceIte, Nat.reduceAdd, Nat.reduceSub, Nat.reduceMul, Nat.reduceEqDiff, reduceCtorEq, Nat.reduceLT, Nat.reduceLeDiff, Nat.reduceGT]); (try any_goals (refine ⟨?_, ?_⟩)); (try any_goals (with_reducible rfl))))
    · have hkd : decide ((k : Int) < xs.length) = false := decide_eq_false (by omega)
      (have zx1 := @hkd; all_goals (try ((first | (with_reducible refine wp_id ?_) | (with_reducible refine does_id ?_) | (with_reducible refine ops_id ?_)); refine walk ?_; (repeat' (first | exact trivial | with_reducible refine And.intro ?_ ?_)); all_goals (repeat (first | (with_reducible refine ImpB.mk fun hb => ?_) | (with_reducible refine ImpK.mk fun hK => ?_) | (with_reducible refine ImpF.mk fun hF => ?_) | (with_reducible refine ImpQ.mk fun hp => ?_) | (with_reducible refine AllE.mk fun p => ?_) | (with_reducible refine AllR.mk fun rest => ?_) | (with_reducible refine AllK.mk fun K => ?_))))); repeat' (with_reducible refine And.intro ?_ ?_))
      rw [fstG_none (p := fun x => decide (x = n)) fun x hx' => by
        obtain ⟨i, hi, rfl⟩ := List.getElem_of_mem hx'
        have := hx.2 i (by omega)
        simpa [List.getD_eq_getElem?_getD, List.getElem?_eq_getElem hi] using this]
      (focus (refine ⟨_, _, Gh.refl, [], rfl, ?_⟩; (refine ⟨?_, ?_, ?_⟩ <;> simp only [go_sem, List.range, List.range.loop, List.nodup_cons, List.nodup_nil, List.mem_cons, List.not_mem_nil, or_false, or_self, decide_true, decide_false, Int.reduceToNat, Nat.min_eq_left, Nat.min_eq_right, Int.reducePow, Nat.reducePow, Int.reduceLE, Int.reduceLT, Int.reduceMul, Int.reduceAdd, Int.reduceSub, Int.reduceNeg, Bool.not_true, Bool.not_false, Bool.not_not, ↓reduceIte, Nat.reduceAdd, Nat.reduceSub, Nat.reduceMul, Nat.reduceEqDiff, reduceCtorEq, Nat.reduceLT, Nat.reduceLeDiff, Nat.reduceGT]); (try any_goals (refine ⟨?_, ?_⟩)); (try any_goals (with_reducible rfl))))
theorem c_ixI {h : List Ch} {K : KT} {xs : List Int} {n : Int} {a : AV} (H : K (.int .i64 (fstG (fun x => decide (x = n)) xs 0)) h) (b1 : brA [] h (.ro .int xs) a) (s1 : xs.length ≤ 9223372036854775806) : Does Try.prog 40 [a, .int .i64 n] h K :=
  frame_pure (b_ixI xs n s1) (br_cons b1 (br_cons br_int br_nil)) (.inr rfl) (fun _ => rfl) H
abbrev i_ixI := Ctr.mk (i := 0) (g := 40) @c_ixI
attribute [instance] i_ixI
theorem b_contI (xs : List Int) (n : Int) (hl : xs.length ≤ 9223372036854775806) : DoesK Try.prog 0 29 [.ro .int xs, .int .i64 n] [] (EndF 0 (.bool (xs.contains n)) []) := by
  refine DoesK.close ?_
  have hia := fstG_any (p := fun x => decide (x = n)) (l := xs) (k := 0)
  have hc : (xs.any fun x => decide (x = n)) = xs.contains n := by
    rw [Bool.eq_iff_iff, List.any_eq_true, List.contains_iff_mem]
    exact ⟨fun ⟨x, h1, h2⟩ => of_decide_eq_true h2 ▸ h1, fun h => ⟨n, h, decide_eq_true rfl⟩⟩
  rw [hc] at hia
  refine w_body (rs := [.tmp 4]) (tm := [.ro .int xs, .int .i64 n, .any, .any, .any, .any, .any, .any, .any]) fn_29 rfl rfl rfl rfl fun R hR => ?_
  (have zx1 := @hia; all_goals (try ((first | (with_reducible refine wp_id ?_) | (with_reducible refine does_id ?_) | (with_reducible refine ops_id ?_)); refine walk ?_; (repeat' (first | exact trivial | with_reducible refine And.intro ?_ ?_)); all_goals (repeat (first | (with_reducible refine ImpB.mk fun hb => ?_) | (with_reducible refine ImpK.mk fun hK => ?_) | (with_reducible refine ImpF.mk fun hF => ?_) | (with_reducible refine ImpQ.mk fun hp => ?_) | (with_reducible refine AllE.mk fun p => ?_) | (with_reducible refine AllR.mk fun rest => ?_) | (with_reducible refine AllK.mk fun K => ?_))))); repeat' (with_reducible refine And.intro ?_ ?_))
  (focus (refine ⟨_, _, Gh.refl, [], rfl, ?_⟩; (refine ⟨?_, ?_, ?_⟩ <;> simp only [go_sem, List.range, List.range.loop, List.nodup_cons, List.nodup_nil, List.mem_cons, List.not_mem_nil, or_false, or_self, decide_true, decide_false, Int.reduceToNat, Nat.min_eq_left, Nat.min_eq_right, Int.reducePow, Nat.reducePow, Int.reduceLE, Int.reduceLT, Int.reduceMul, Int.reduceAdd, Int.reduceSub, Int.reduceNeg, Bool.not_true, Bool.not_false, Bool.not_not, ↓reduceIte, Nat.reduceAdd, Nat.reduceSub, Nat.reduceMul, Nat.reduceEqDiff, reduceCtorEq, Nat.reduceLT, Nat.reduceLeDiff, Nat.reduceGT]); (try any_goals (refine ⟨?_, ?_⟩)); (try any_goals (with_reducible rfl))))
theorem c_contI {h : List Ch} {K : KT} {xs : List Int} {n : Int} {a : AV} (H : K (.bool (xs.contains n)) h) (b1 : brA [] h (.ro .int xs) a) (s1 : xs.length ≤ 9223372036854775806) : Does Try.prog 29 [a, .int .i64 n] h K :=
  frame_pure (b_contI xs n s1) (br_cons b1 (br_cons br_int br_nil)) (.inr rfl) (fun _ => rfl) H
abbrev i_contI := Ctr.mk (i := 0) (g := 29) @c_contI
attribute [instance] i_contI
end Go.V

set_option maxRecDepth 100000
namespace Go.V
open Go.Proofs
/-- a link: its configuration, time, number of transmissions, and what is on its way, by their numbers -/
structure Lk where
  c : Cfg
  now : Int
  sent : Int
  P : List (Int × Arr)
/-- one bit turned -/
def flpB (xs : List UInt8) (bit : Int) : List UInt8 :=
  xs.set (bit.toNat % (8 * xs.length) / 8) (xs.getD (bit.toNat % (8 * xs.length) / 8) 0 ^^^ (128 >>> UInt8.ofNat (bit.toNat % (8 * xs.length) % 8)))
def flpS (F : List Flp) (n : Int) (xs : List UInt8) : List UInt8 := F.foldl (fun xs f => if f.idx = n then flpB xs f.bit else xs) xs
theorem flpB_nil (bit : Int) : flpB [] bit = [] := rfl
theorem flpB_len {xs : List UInt8} {bit : Int} : (flpB xs bit).length = xs.length := by unfold flpB; rw [List.length_set]
theorem flpS_len {n : Int} : ∀ {F : List Flp} {xs : List UInt8}, (flpS F n xs).length = xs.length
  | [], _ => rfl
  | f :: F, xs => by
    have := flpS_len (n := n) (F := F) (xs := if f.idx = n then flpB xs f.bit else xs)
    unfold flpS at this ⊢
    rw [List.foldl_cons, this]
    split
    · exact flpB_len
    · rfl
theorem flpS_next {F : List Flp} {n : Int} {xs : List UInt8} {k : Nat} (hk : k < F.length) : flpS (F.take (k + 1)) n xs = if (F.getD k Flp.zero).idx = n then flpB (flpS (F.take k) n xs) (F.getD k Flp.zero).bit else flpS (F.take k) n xs := by
  unfold flpS
  rw [List.take_succ_eq_append_getElem hk, List.foldl_append, List.getD_eq_getElem?_getD, List.getElem?_eq_getElem hk]
  rfl
def atL (now n : Int) : Int := if now < n ∧ n ≤ 1099511627776 then n else now
def lostB (c : Cfg) (now sent : Int) : Bool := hasB c.out now || c.lost.contains sent
def sendK (s : Lk) (n : Int) (b : List UInt8) : Lk :=
  ⟨s.c, atL s.now n, s.sent + 1, if lostB s.c (atL s.now n) s.sent then s.P else s.P ++ [(s.sent, ⟨atL s.now n + s.c.dl, flpS s.c.flips s.sent b⟩)]⟩
def due (now : Int) (p : Int × Arr) : Bool := decide (p.2.time ≤ now)
def recvK (s : Lk) (n : Int) : Lk := ⟨s.c, atL s.now n, s.sent, s.P.filter fun p => !due (atL s.now n) p⟩
def outK (s : Lk) (n : Int) : List (List UInt8) := (s.P.filter fun p => due (atL s.now n) p).map fun p => p.2.data
structure okL (s : Lk) : Prop where
  lo : s.c.out.length ≤ 1000000 ∧ s.c.lost.length ≤ 1000000 ∧ s.c.flips.length ≤ 1000000
  dl : 0 ≤ s.c.dl ∧ s.c.dl ≤ 1099511627776
  fl : ∀ f ∈ s.c.flips, 0 ≤ f.idx ∧ 0 ≤ f.bit
  nw : 0 ≤ s.now ∧ s.now ≤ 1099511627776
  se : 0 ≤ s.sent
  len : s.P.length ≤ s.sent
  asc : s.P.Pairwise fun a b => a.1 < b.1
  key : ∀ p ∈ s.P, 0 ≤ p.1 ∧ p.1 < s.sent
  tm : ∀ p ∈ s.P, 0 ≤ p.2.time ∧ p.2.time ≤ s.now + s.c.dl
  ord : s.P.Pairwise fun a b => a.2.time ≤ b.2.time
  ln : ∀ p ∈ s.P, p.2.data.length ≤ 1000000
theorem atL_ge {now n : Int} : now ≤ atL now n := by unfold atL; split <;> omega
theorem atL_bd {now n : Int} (h : 0 ≤ now ∧ now ≤ 1099511627776) : 0 ≤ atL now n ∧ atL now n ≤ 1099511627776 := by unfold atL; split <;> omega
theorem okL.send {s : Lk} (h : okL s) (n : Int) {b : List UInt8} (hb : b.length ≤ 1000000) : okL (sendK s n b) := by
  have h1 := atL_ge (now := s.now) (n := n)
  have h2 := atL_bd (n := n) h.nw
  have hd := h.dl
  have hse := h.se
  have hl := h.len
  refine ⟨h.lo, h.dl, h.fl, h2, by show 0 ≤ s.sent + 1; omega, ?_, ?_, ?_, ?_, ?_, ?_⟩
  all_goals
    show _
    unfold sendK
    dsimp only
    split
  · omega
  · rw [List.length_append]; simp only [List.length_cons, List.length_nil]; omega
  · exact h.asc
  · refine List.pairwise_append.2 ⟨h.asc, List.pairwise_singleton _ _, fun a ha b hb => ?_⟩
    rw [List.mem_singleton.1 hb]; exact (h.key a ha).2
  · exact fun p hp => ⟨(h.key p hp).1, by have := (h.key p hp).2; omega⟩
  · intro p hp
    rcases List.mem_append.1 hp with hp | hp
    · exact ⟨(h.key p hp).1, by have := (h.key p hp).2; omega⟩
    · rw [List.mem_singleton.1 hp]; dsimp only; omega
  · exact fun p hp => ⟨(h.tm p hp).1, by have := (h.tm p hp).2; omega⟩
  · intro p hp
    rcases List.mem_append.1 hp with hp | hp
    · exact ⟨(h.tm p hp).1, by have := (h.tm p hp).2; omega⟩
    · rw [List.mem_singleton.1 hp]; dsimp only; omega
  · exact h.ord
  · refine List.pairwise_append.2 ⟨h.ord, List.pairwise_singleton _ _, fun a ha b hb => ?_⟩
    rw [List.mem_singleton.1 hb]
    have := (h.tm a ha).2
    dsimp only; omega
  · exact h.ln
  · intro p hp
    rcases List.mem_append.1 hp with hp | hp
    · exact h.ln p hp
    · rw [List.mem_singleton.1 hp]; dsimp only; rw [flpS_len]; exact hb
theorem okL.recv {s : Lk} (h : okL s) (n : Int) : okL (recvK s n) := by
  have h1 := atL_ge (now := s.now) (n := n)
  have h2 := atL_bd (n := n) h.nw
  have hl := h.len
  have hsub : ∀ p ∈ (recvK s n).P, p ∈ s.P := fun p hp => (List.mem_filter.1 hp).1
  refine ⟨h.lo, h.dl, h.fl, h2, h.se, ?_, h.asc.sublist List.filter_sublist, fun p hp => h.key p (hsub p hp), fun p hp => ⟨(h.tm p (hsub p hp)).1, ?_⟩, h.ord.sublist List.filter_sublist, fun p hp => h.ln p (hsub p hp)⟩
  · have := List.length_filter_le (fun p => !due (atL s.now n) p) s.P
    show ((s.P.filter fun p => !due (atL s.now n) p).length : Int) ≤ s.sent
    omega
  · have := (h.tm p (hsub p hp)).2
    show p.2.time ≤ atL s.now n + s.c.dl
    omega
/-- the map's operations in the middle -/
theorem mget_mid {e : Ety} {k : Int} {v : e.T} {B : List (Int × e.T)} : ∀ {A : List (Int × e.T)}, (∀ p ∈ A, p.1 ≠ k) → mget (k := .int) (A ++ (k, v) :: B) k = some v
  | [], _ => by rw [List.nil_append, mget, if_pos rfl]
  | p :: A, h => by rw [List.cons_append, mget, if_neg (h p List.mem_cons_self), mget_mid fun q hq => h q (List.mem_cons_of_mem _ hq)]
theorem mdel_mid {e : Ety} {k : Int} {v : e.T} {B : List (Int × e.T)} : ∀ {A : List (Int × e.T)}, (∀ p ∈ A, p.1 ≠ k) → mdel (k := .int) (A ++ (k, v) :: B) k = A ++ B
  | [], _ => by rw [List.nil_append, mdel, if_pos rfl]; rfl
  | p :: A, h => by rw [List.cons_append, mdel, if_neg (h p List.mem_cons_self), mdel_mid fun q hq => h q (List.mem_cons_of_mem _ hq)]; rfl
theorem mset_end {e : Ety} {k : Int} {v : e.T} : ∀ {A : List (Int × e.T)}, (∀ p ∈ A, p.1 ≠ k) → mset (k := .int) A k v = A ++ [(k, v)]
  | [], _ => rfl
  | p :: A, h => by rw [mset, if_neg (h p List.mem_cons_self), mset_end fun q hq => h q (List.mem_cons_of_mem _ hq)]; rfl
/-- the keys lie in order -/
theorem sortZ_asc {l : List Int} (h : l.Pairwise fun a b => a < b) : sortZ l = l := by
  refine List.Perm.eq_of_pairwise (le := fun a b : Int => a ≤ b) (fun a b _ _ h1 h2 => by omega) ?_ (h.imp fun h => by omega) (sortZ_perm l)
  unfold sortZ
  have := List.pairwise_mergeSort (le := fun x y : Int => decide (x ≤ y)) (fun a b c h1 h2 => by simp only [decide_eq_true_eq] at *; omega) (fun a b => by simp only [Bool.or_eq_true, decide_eq_true_eq]; omega) l
  exact this.imp fun h => of_decide_eq_true h
theorem xor8' (x y : UInt8) : bitsI .xor .u8 (x.toNat : Int) (y.toNat : Int) = ((x ^^^ y).toNat : Int) := by
  have hx := x.toNat_lt
  have hy := y.toNat_lt
  rw [UInt8.toNat_xor]
  have e : ∀ z : Nat, z < 2 ^ 8 → (BitVec.ofInt 8 (z : Int)).toNat = z := fun z hz => by
    rw [BitVec.toNat_ofInt]
    have : ((z : Int) % (2 ^ 8 : Nat)) = z := Int.emod_eq_of_lt (by omega) (by omega)
    rw [this]; rfl
  show IntKind.u8.wrap ((BitVec.ofInt 8 (x.toNat : Int) ^^^ BitVec.ofInt 8 (y.toNat : Int)).toNat : Int) = _
  rw [BitVec.toNat_xor, e _ hx, e _ hy, wrap_u8]
  have := Nat.xor_lt_two_pow hx hy
  omega
theorem xor8 (x : UInt8) (j : Nat) (hj : j < 8) : bitsI .xor .u8 (x.toNat : Int) (Int.fdiv 128 (2 ^ min j 8)) = ((x ^^^ (128 >>> UInt8.ofNat j)).toNat : Int) := by
  have key : ∀ j : Fin 8, Int.fdiv 128 (2 ^ min j.val 8) = ((128 >>> UInt8.ofNat j.val : UInt8).toNat : Int) := by decide
  rw [key ⟨j, hj⟩]
  exact xor8' _ _
end Go.V
