/-
  Contacts and jobs: validity.
  Jobs and contacts: duration, place, fits.
  Jobs and contacts: which assignments fit.
-/
import Derived.Test.YtalpgifnkajkbaaPart11
set_option linter.unusedVariables false
set_option linter.unusedSimpArgs false
set_option maxRecDepth 100000
set_option maxHeartbeats 4000000
namespace Go.V
open Go.Proofs
def vldW (w : Win) : Bool := decide (0 ≤ w.st) && decide (w.st ≤ 65535) && decide (0 ≤ w.from_) && decide (w.from_ < w.to_) && decide (w.to_ ≤ 1099511627776) && decide (0 ≤ w.va) && decide (w.va ≤ 2147483648)
theorem vldW_iff (w : Win) : vldW w = true ↔ (0 ≤ w.st ∧ w.st ≤ 65535) ∧ 0 ≤ w.from_ ∧ w.from_ < w.to_ ∧ w.to_ ≤ 1099511627776 ∧ 0 ≤ w.va ∧ w.va ≤ 2147483648 := by
  unfold vldW; simp only [Bool.and_eq_true, decide_eq_true_eq]; omega
def vldJ (j : Job) : Bool := decide (1 ≤ j.size) && decide (j.size ≤ 2147483648) && decide (0 ≤ j.ear) && decide (j.ear ≤ 1099511627776) && decide (0 ≤ j.dl) && decide (j.dl ≤ 1099511627776) && decide (0 ≤ j.pri) && decide (j.pri ≤ 255)
theorem vldJ_iff (j : Job) : vldJ j = true ↔ (1 ≤ j.size ∧ j.size ≤ 2147483648) ∧ (0 ≤ j.ear ∧ j.ear ≤ 1099511627776) ∧ (0 ≤ j.dl ∧ j.dl ≤ 1099511627776) ∧ 0 ≤ j.pri ∧ j.pri ≤ 255 := by
  unfold vldJ; simp only [Bool.and_eq_true, decide_eq_true_eq]; omega
abbrev WinL (w : Win) : List AV := [.int .i64 w.st, .int .i64 w.from_, .int .i64 w.to_, .int .i64 w.va]
abbrev JobL (j : Job) : List AV := [.int .i64 j.id, .int .i64 j.size, .int .i64 j.ear, .int .i64 j.dl, .int .i64 j.pri]
abbrev SloL (x : Slo) : List AV := [.int .i64 x.job, .int .i64 x.win, .int .i64 x.st, .int .i64 x.en]
theorem br_Win {σ : List Nat} {h : List Ch} (w : Win) : brA σ h (.agg (WinL w)) (.agg (WinL w)) := br_agg (br_cons br_int (br_cons br_int (br_cons br_int (br_cons br_int br_nil))))
theorem br_Job {σ : List Nat} {h : List Ch} (w : Job) : brA σ h (.agg (JobL w)) (.agg (JobL w)) := br_agg (br_cons br_int (br_cons br_int (br_cons br_int (br_cons br_int (br_cons br_int br_nil)))))
theorem br_Slo {σ : List Nat} {h : List Ch} (w : Slo) : brA σ h (.agg (SloL w)) (.agg (SloL w)) := br_agg (br_cons br_int (br_cons br_int (br_cons br_int (br_cons br_int br_nil))))
theorem br_fn {σ : List Nat} {h : List Ch} {f : FuncId} : brA σ h (.fn f []) (.fn f []) := ⟨rfl, trivial⟩
theorem getT {α : Type} {l : List α} {k : Nat} {z : α} (h : k < l.length) : l.take (k + 1) = l.take k ++ [l.getD k z] := by
  rw [List.take_succ_eq_append_getElem h, List.getD_eq_getElem?_getD, List.getElem?_eq_getElem h]
  rfl
theorem getM {α : Type} {l : List α} {k : Nat} {z : α} (h : k < l.length) : l.getD k z ∈ l := by
  rw [List.getD_eq_getElem?_getD, List.getElem?_eq_getElem h]
  exact List.getElem_mem _
def fstG {α : Type} (p : α → Bool) : List α → Nat → Int
  | [], _ => -1
  | x :: l, k => if p x then k else fstG p l (k + 1)
theorem fstG_none {α : Type} {p : α → Bool} : ∀ {l : List α} {k : Nat}, (∀ x ∈ l, p x = false) → fstG p l k = -1
  | [], _, _ => rfl
  | x :: l, k, h => by rw [fstG, h x (by simp)]; exact fstG_none fun y hy => h y (by simp [hy])
theorem fstG_at {α : Type} {p : α → Bool} {z : α} : ∀ {l : List α} {j k : Nat}, j < l.length → (∀ i, i < j → p (l.getD i z) = false) → p (l.getD j z) = true → fstG p l k = ((k + j : Nat) : Int)
  | [], j, _, h, _, _ => by simp at h
  | x :: l, 0, k, _, _, h => by
    have : p x = true := h
    rw [fstG, if_pos this, Nat.add_zero]
  | x :: l, j + 1, k, hl, h0, h => by
    have h1 : p x = false := h0 0 (by omega)
    rw [fstG, h1]
    simp only [Bool.false_eq_true, if_false]
    rw [fstG_at (l := l) (j := j) (by simpa using hl) (fun i hi => h0 (i + 1) (by omega)) h]
    omega
theorem fstG_any {α : Type} {p : α → Bool} : ∀ {l : List α} {k : Nat}, decide (0 ≤ fstG p l k) = l.any p
  | [], _ => by simp [fstG]
  | x :: l, k => by
    rw [fstG, List.any_cons]
    cases h : p x
    · simp only [Bool.false_eq_true, if_false, Bool.false_or]
      exact fstG_any
    · simp
theorem b_wvalid (w : Win) : DoesK Try.prog 0 34 [.agg (WinL w)] [] (EndF 0 (.bool (vldW w)) []) := by
  refine DoesK.close ?_
  refine w_body (rs := [.tmp 2]) (tm := [.agg (WinL w), .any, .any, .any, .any, .any, .any, .any, .any, .any, .any, .any, .any, .any, .any, .any, .any, .any, .any, .any, .any, .any, .any, .any, .any, .any, .any, .any, .any, .any, .any, .any, .any, .any, .any, .any, .any, .any]) fn_34 rfl rfl rfl rfl fun R hR => ?_
  (all_goals (try ((first | (with_reducible refine wp_id ?_) | (with_reducible refine does_id ?_) | (with_reducible refine ops_id ?_)); refine walk ?_; (repeat' (first | exact trivial | with_reducible refine And.intro ?_ ?_)); all_goals (repeat (first | (with_reducible refine ImpB.mk fun hb => ?_) | (with_reducible refine ImpK.mk fun hK => ?_) | (with_reducible refine ImpF.mk fun hF => ?_) | (with_reducible refine ImpQ.mk fun hp => ?_) | (with_reducible refine AllE.mk fun p => ?_) | (with_reducible refine AllR.mk fun rest => ?_) | (with_reducible refine AllK.mk fun K => ?_))))); repeat' (with_reducible refine And.intro ?_ ?_))
  all_goals
    by_cases e : vldW w = true
    · have e2 := (vldW_iff w).1 e
      rw [e]
      first | (exfalso; (try simp only [decide_eq_true_eq, decide_eq_false_iff_not, Bool.not_eq_true', Bool.not_eq_false', Bool.not_eq_true, Bool.not_eq_false, decide_not, decide_true, decide_false, Bool.decide_and, Bool.and_eq_true, Bool.or_eq_true, Bool.and_eq_false_imp, Decidable.not_not] at *); omega) | ((focus (refine ⟨_, _, Gh.refl, [], rfl, ?_⟩; (refine ⟨?_, ?_, ?_⟩ <;> simp only [go_sem, List.range, List.range.loop, List.nodup_cons, List.nodup_nil, List.mem_cons, List.not_mem_nil, or_false, or_self, decide_true, decide_false, Int.reduceToNat, Nat.min_eq_left, Nat.min_eq_right, Int.reducePow, Nat.reducePow, Int.reduceLE, Int.reduceLT, Int.reduceMul, Int.reduceAdd, Int.reduceSub, Int.reduceNeg, Bool.not_true, Bool.not_false, Bool.not_not, ↓reduceIte, Nat.reduceAdd, Nat.reduceSub, Nat.reduceMul, Nat.reduceEqDiff, reduceCtorEq, Nat.reduceLT, Nat.reduceLeDiff, Nat.reduceGT]); (try any_goals (refine ⟨?_, ?_⟩)); (try any_goals (with_reducible rfl)))); done) | ((focus (refine ⟨_, _, Gh.refl, [], rfl, ?_⟩; (refine ⟨?_, ?_, ?_⟩ <;> simp only [go_sem, List.range, List.range.loop, List.nodup_cons, List.nodup_nil, List.mem_cons, List.not_mem_nil, or_false, or_self, decide_true, decide_false, Int.reduceToNat, Nat.min_eq_left, Nat.min_eq_right, Int.reducePow, Nat.reducePow, Int.reduceLE, Int.reduceLT, Int.reduceMul, Int.reduceAdd, Int.reduceSub, Int.reduceNeg, Bool.not_true, Bool.not_false, Bool.not_not, ↓reduceIte, Nat.reduceAdd, Nat.reduceSub, Nat.reduceMul, Nat.reduceEqDiff, reduceCtorEq, Nat.reduceLT, Nat.reduceLeDiff, Nat.reduceGT]); (try any_goals (refine ⟨?_, ?_⟩)); (try any_goals (with_reducible rfl)))); symm; (try simp only [decide_eq_true_eq, decide_eq_false_iff_not, Bool.not_eq_true', Bool.not_eq_false', Bool.not_eq_true, Bool.not_eq_false, decide_not, decide_true, decide_false, Bool.decide_and, Bool.and_eq_true, Bool.or_eq_true, Bool.and_eq_false_imp, Decidable.not_not] at *); omega) | skip
    · have e2 : ¬ _ := fun q => e ((vldW_iff w).2 q)
      rw [Bool.not_eq_true] at e
      rw [e]
      first | (exfalso; (try simp only [decide_eq_true_eq, decide_eq_false_iff_not, Bool.not_eq_true', Bool.not_eq_false', Bool.not_eq_true, Bool.not_eq_false, decide_not, decide_true, decide_false, Bool.decide_and, Bool.and_eq_true, Bool.or_eq_true, Bool.and_eq_false_imp, Decidable.not_not] at *); omega) | ((focus (refine ⟨_, _, Gh.refl, [], rfl, ?_⟩; (refine ⟨?_, ?_, ?_⟩ <;> simp only [go_sem, List.range, List.range.loop, List.nodup_cons, List.nodup_nil, List.mem_cons, List.not_mem_nil, or_false, or_self, decide_true, decide_false, Int.reduceToNat, Nat.min_eq_left, Nat.min_eq_right, Int.reducePow, Nat.reducePow, Int.reduceLE, Int.reduceLT, Int.reduceMul, Int.reduceAdd, Int.reduceSub, Int.reduceNeg, Bool.not_true, Bool.not_false, Bool.not_not, ↓reduceIte, Nat.reduceAdd, Nat.reduceSub, Nat.reduceMul, Nat.reduceEqDiff, reduceCtorEq, Nat.reduceLT, Nat.reduceLeDiff, Nat.reduceGT]); (try any_goals (refine ⟨?_, ?_⟩)); (try any_goals (with_reducible rfl)))); done) | ((focus (refine ⟨_, _, Gh.refl, [], rfl, ?_⟩; (refine ⟨?_, ?_, ?_⟩ <;> simp only [go_sem, List.range, List.range.loop, List.nodup_cons, List.nodup_nil, List.mem_cons, List.not_mem_nil, or_false, or_self, decide_true, decide_false, Int.reduceToNat, Nat.min_eq_left, Nat.min_eq_right, Int.reducePow, Nat.reducePow, Int.reduceLE, Int.reduceLT, Int.reduceMul, Int.reduceAdd, Int.reduceSub, Int.reduceNeg, Bool.not_true, Bool.not_false, Bool.not_not, ↓reduceIte, Nat.reduceAdd, Nat.reduceSub, Nat.reduceMul, Nat.reduceEqDiff, reduceCtorEq, Nat.reduceLT, Nat.reduceLeDiff, Nat.reduceGT]); (try any_goals (refine ⟨?_, ?_⟩)); (try any_goals (with_reducible rfl)))); symm; (try simp only [decide_eq_true_eq, decide_eq_false_iff_not, Bool.not_eq_true', Bool.not_eq_false', Bool.not_eq_true, Bool.not_eq_false, decide_not, decide_true, decide_false, Bool.decide_and, Bool.and_eq_true, Bool.or_eq_true, Bool.and_eq_false_imp, Decidable.not_not] at *); omega) | skip
theorem c_wvalid {h : List Ch} {K : KT} {w : Win} (H : K (.bool (vldW w)) h) : Does Try.prog 34 [.agg [.int .i64 w.st, .int .i64 w.from_, .int .i64 w.to_, .int .i64 w.va]] h K :=
  frame_pure (b_wvalid w) (br_cons (br_Win w) br_nil) (.inl rfl) (fun _ => rfl) H
abbrev i_wvalid := Ctr.mk (i := 0) (g := 34) @c_wvalid
attribute [instance] i_wvalid
theorem b_jvalid (w : Job) : DoesK Try.prog 0 37 [.agg (JobL w)] [] (EndF 0 (.bool (vldJ w)) []) := by
  refine DoesK.close ?_
  refine w_body (rs := [.tmp 2]) (tm := [.agg (JobL w), .any, .any, .any, .any, .any, .any, .any, .any, .any, .any, .any, .any, .any, .any, .any, .any, .any, .any, .any, .any, .any, .any, .any, .any, .any, .any, .any, .any, .any, .any, .any, .any, .any, .any, .any, .any, .any, .any, .any, .any]) fn_37 rfl rfl rfl rfl fun R hR => ?_
  (all_goals (try ((first | (with_reducible refine wp_id ?_) | (with_reducible refine does_id ?_) | (with_reducible refine ops_id ?_)); refine walk ?_; (repeat' (first | exact trivial | with_reducible refine And.intro ?_ ?_)); all_goals (repeat (first | (with_reducible refine ImpB.mk fun hb => ?_) | (with_reducible refine ImpK.mk fun hK => ?_) | (with_reducible refine ImpF.mk fun hF => ?_) | (with_reducible refine ImpQ.mk fun hp => ?_) | (with_reducible refine AllE.mk fun p => ?_) | (with_reducible refine AllR.mk fun rest => ?_) | (with_reducible refine AllK.mk fun K => ?_))))); repeat' (with_reducible refine And.intro ?_ ?_))
  all_goals
    by_cases e : vldJ w = true
    · have e2 := (vldJ_iff w).1 e
      rw [e]
      first | (exfalso; (try simp only [decide_eq_true_eq, decide_eq_false_iff_not, Bool.not_eq_true', Bool.not_eq_false', Bool.not_eq_true, Bool.not_eq_false, decide_not, decide_true, decide_false, Bool.decide_and, Bool.and_eq_true, Bool.or_eq_true, Bool.and_eq_false_imp, Decidable.not_not] at *); omega) | ((focus (refine ⟨_, _, Gh.refl, [], rfl, ?_⟩; (refine ⟨?_, ?_, ?_⟩ <;> simp only [go_sem, List.range, List.range.loop, List.nodup_cons, List.nodup_nil, List.mem_cons, List.not_mem_nil, or_false, or_self, decide_true, decide_false, Int.reduceToNat, Nat.min_eq_left, Nat.min_eq_right, Int.reducePow, Nat.reducePow, Int.reduceLE, Int.reduceLT, Int.reduceMul, Int.reduceAdd, Int.reduceSub, Int.reduceNeg, Bool.not_true, Bool.not_false, Bool.not_not, ↓reduceIte, Nat.reduceAdd, Nat.reduceSub, Nat.reduceMul, Nat.reduceEqDiff, reduceCtorEq, Nat.reduceLT, Nat.reduceLeDiff, Nat.reduceGT]); (try any_goals (refine ⟨?_, ?_⟩)); (try any_goals (with_reducible rfl)))); done) | ((focus (refine ⟨_, _, Gh.refl, [], rfl, ?_⟩; (refine ⟨?_, ?_, ?_⟩ <;> simp only [go_sem, List.range, List.range.loop, List.nodup_cons, List.nodup_nil, List.mem_cons, List.not_mem_nil, or_false, or_self, decide_true, decide_false, Int.reduceToNat, Nat.min_eq_left, Nat.min_eq_right, Int.reducePow, Nat.reducePow, Int.reduceLE, Int.reduceLT, Int.reduceMul, Int.reduceAdd, Int.reduceSub, Int.reduceNeg, Bool.not_true, Bool.not_false, Bool.not_not, ↓reduceIte, Nat.reduceAdd, Nat.reduceSub, Nat.reduceMul, Nat.reduceEqDiff, reduceCtorEq, Nat.reduceLT, Nat.reduceLeDiff, Nat.reduceGT]); (try any_goals (refine ⟨?_, ?_⟩)); (try any_goals (with_reducible rfl)))); symm; (try simp only [decide_eq_true_eq, decide_eq_false_iff_not, Bool.not_eq_true', Bool.not_eq_false', Bool.not_eq_true, Bool.not_eq_false, decide_not, decide_true, decide_false, Bool.decide_and, Bool.and_eq_true, Bool.or_eq_true, Bool.and_eq_false_imp, Decidable.not_not] at *); omega) | skip
    · have e2 : ¬ _ := fun q => e ((vldJ_iff w).2 q)
      rw [Bool.not_eq_true] at e
      rw [e]
      first | (exfalso; (try simp only [decide_eq_true_eq, decide_eq_false_iff_not, Bool.not_eq_true', Bool.not_eq_false', Bool.not_eq_true, Bool.not_eq_false, decide_not, decide_true, decide_false, Bool.decide_and, Bool.and_eq_true, Bool.or_eq_true, Bool.and_eq_false_imp, Decidable.not_not] at *); omega) | ((focus (refine ⟨_, _, Gh.refl, [], rfl, ?_⟩; (refine ⟨?_, ?_, ?_⟩ <;> simp only [go_sem, List.range, List.range.loop, List.nodup_cons, List.nodup_nil, List.mem_cons, List.not_mem_nil, or_false, or_self, decide_true, decide_false, Int.reduceToNat, Nat.min_eq_left, Nat.min_eq_right, Int.reducePow, Nat.reducePow, Int.reduceLE, Int.reduceLT, Int.reduceMul, Int.reduceAdd, Int.reduceSub, Int.reduceNeg, Bool.not_true, Bool.not_false, Bool.not_not, ↓reduceIte, Nat.reduceAdd, Nat.reduceSub, Nat.reduceMul, Nat.reduceEqDiff, reduceCtorEq, Nat.reduceLT, Nat.reduceLeDiff, Nat.reduceGT]); (try any_goals (refine ⟨?_, ?_⟩)); (try any_goals (with_reducible rfl)))); done) | ((focus (refine ⟨_, _, Gh.refl, [], rfl, ?_⟩; (refine ⟨?_, ?_, ?_⟩ <;> simp only [go_sem, List.range, List.range.loop, List.nodup_cons, List.nodup_nil, List.mem_cons, List.not_mem_nil, or_false, or_self, decide_true, decide_false, Int.reduceToNat, Nat.min_eq_left, Nat.min_eq_right, Int.reducePow, Nat.reducePow, Int.reduceLE, Int.reduceLT, Int.reduceMul, Int.reduceAdd, Int.reduceSub, Int.reduceNeg, Bool.not_true, Bool.not_false, Bool.not_not, ↓reduceIte, Nat.reduceAdd, Nat.reduceSub, Nat.reduceMul, Nat.reduceEqDiff, reduceCtorEq, Nat.reduceLT, Nat.reduceLeDiff, Nat.reduceGT]); (try any_goals (refine ⟨?_, ?_⟩)); (try any_goals (with_reducible rfl)))); symm; (try simp only [decide_eq_true_eq, decide_eq_false_iff_not, Bool.not_eq_true', Bool.not_eq_false', Bool.not_eq_true, Bool.not_eq_false, decide_not, decide_true, decide_false, Bool.decide_and, Bool.and_eq_true, Bool.or_eq_true, Bool.and_eq_false_imp, Decidable.not_not] at *); omega) | skip
theorem c_jvalid {h : List Ch} {K : KT} {w : Job} (H : K (.bool (vldJ w)) h) : Does Try.prog 37 [.agg [.int .i64 w.id, .int .i64 w.size, .int .i64 w.ear, .int .i64 w.dl, .int .i64 w.pri]] h K :=
  frame_pure (b_jvalid w) (br_cons (br_Job w) br_nil) (.inl rfl) (fun _ => rfl) H
abbrev i_jvalid := Ctr.mk (i := 0) (g := 37) @c_jvalid
attribute [instance] i_jvalid
theorem k_ixWin {n0 : Nat} {h : List Ch} {K : KT} {xs : List Win} {f : FuncId} {caps : List AV} (p : Win → Bool) (hl : xs.length ≤ 9223372036854775806) (hp : ∀ x : Win, ∀ K' : KT, K' (.bool (p x)) h → Does Try.prog f (.agg [.int .i64 x.st, .int .i64 x.from_, .int .i64 x.to_, .int .i64 x.va] :: caps) h K') (H : K (.int .i64 (fstG p xs 0)) h) : DoesK Try.prog n0 47 [.ro .win xs, .fn f caps] h K := by
  have inst : Ctr 0 f (∀ {h' : List Ch} {K' : KT} {x : Win} (_ : h' = h) (_ : K' (.bool (p x)) h), Does Try.prog f (.agg [.int .i64 x.st, .int .i64 x.from_, .int .i64 x.to_, .int .i64 x.va] :: caps) h' K') := Ctr.mk (by rintro h' K' x rfl H; exact hp x K' H)
  refine w_body (rs := [.tmp 4]) (tm := [.ro .win xs, .fn f caps, .any, .any, .any, .any, .any, .any, .any, .any, .any, .any, .any, .any, .any, .any, .any, .any, .any]) fn_47 rfl rfl rfl rfl fun R hR => ?_
  (all_goals (try ((first | (with_reducible refine wp_id ?_) | (with_reducible refine does_id ?_) | (with_reducible refine ops_id ?_)); refine walk ?_; (repeat' (first | exact trivial | with_reducible refine And.intro ?_ ?_)); all_goals (repeat (first | (with_reducible refine ImpB.mk fun hb => ?_) | (with_reducible refine ImpK.mk fun hK => ?_) | (with_reducible refine ImpF.mk fun hF => ?_) | (with_reducible refine ImpQ.mk fun hp => ?_) | (with_reducible refine AllE.mk fun p => ?_) | (with_reducible refine AllR.mk fun rest => ?_) | (with_reducible refine AllK.mk fun K => ?_))))); repeat' (with_reducible refine And.intro ?_ ?_))
  any_goals ((try (refine w_seq fun K hK => ?_)); (try (refine w_block ?_)); refine w_loopS (A := Nat) (fun k => k ≤ xs.length ∧ ∀ i, i < k → p (xs.getD i Win.zero) = false) (fun k => xs.length - k) (fun k => [(8, .int .i64 k)]) (0) (ws := ?ws3) (tk := ?tk3) ?hw3 ?ht3 ?hi ?h0 ?LH3; (case hw3 => simp only [go_sem, decide_true, decide_false, Int.reduceToNat, Nat.min_eq_left, Nat.min_eq_right, Int.reducePow, Nat.reducePow, Int.reduceLE, Int.reduceLT, Int.reduceMul, Int.reduceAdd, Int.reduceSub, Int.reduceNeg, Bool.not_true, Bool.not_false, Bool.not_not, ↓reduceIte, Nat.reduceAdd, Nat.reduceSub, Nat.reduceMul, Nat.reduceEqDiff, reduceCtorEq, Nat.reduceLT, Nat.reduceLeDiff, Nat.reduceGT]; exact rfl); (case ht3 => simp only [go_sem, decide_true, decide_false, Int.reduceToNat, Nat.min_eq_left, Nat.min_eq_right, Int.reducePow, Nat.reducePow, Int.reduceLE, Int.reduceLT, Int.reduceMul, Int.reduceAdd, Int.reduceSub, Int.reduceNeg, Bool.not_true, Bool.not_false, Bool.not_not, ↓reduceIte, Nat.reduceAdd, Nat.reduceSub, Nat.reduceMul, Nat.reduceEqDiff, reduceCtorEq, Nat.reduceLT, Nat.reduceLeDiff, Nat.reduceGT]; exact rfl); (case' LH3 => rintro k E t hx hE ht; simp only [go_sem] at ht; subst ht; simp only [go_sem]; try dsimp only at hx))
  case hi => exact ⟨Nat.zero_le _, fun i hi => absurd hi (by omega)⟩
  case h0 => (focus (simp only [go_sem]; (repeat' (first | exact sub_nil | refine sub_cons ?_ ?_)); (any_goals (first | exact .inl rfl | exact .inr rfl)); (try any_goals (refine .inr ?_)); (try any_goals (refine congrArg _ ?_))))
  case LH3 =>
    have hw : IntKind.i64.wrap ((k : Int) + 1) = ((k + 1 : Nat) : Int) := by rw [wrap_i64 _ (by omega) (by omega)]; omega
    by_cases hk : k < xs.length
    · have hkd : decide ((k : Int) < xs.length) = true := decide_eq_true (by omega)
      (have zx1 := @hkd; all_goals (try ((first | (with_reducible refine wp_id ?_) | (with_reducible refine does_id ?_) | (with_reducible refine ops_id ?_)); refine walk ?_; (repeat' (first | exact trivial | with_reducible refine And.intro ?_ ?_)); all_goals (repeat (first | (with_reducible refine ImpB.mk fun hb => ?_) | (with_reducible refine ImpK.mk fun hK => ?_) | (with_reducible refine ImpF.mk fun hF => ?_) | (with_reducible refine ImpQ.mk fun hp => ?_) | (with_reducible refine AllE.mk fun p => ?_) | (with_reducible refine AllR.mk fun rest => ?_) | (with_reducible refine AllK.mk fun K => ?_))))); repeat' (with_reducible refine And.intro ?_ ?_))
      all_goals first | exact Int.natCast_nonneg _ | exact Int.ofNat_lt.2 hk | rfl | skip
      · rw [fstG_at hk hx.2 hb, Nat.zero_add] at H
        exact H
      · refine ⟨k + 1, ⟨⟨by first | omega | (dsimp only; omega), fun i hi => ?_⟩, by first | omega | (dsimp only; omega)⟩, ?_, rfl⟩
        · by_cases e : i = k
          · rw [e]; exact hb
          · exact hx.2 i (by omega)
        (focus (simp only [go_sem]; (repeat' (first | exact sub_nil | refine sub_cons ?_ ?_)); (any_goals (first | exact .inl rfl | exact .inr rfl)); (try any_goals (refine .inr ?_)); (try any_goals (refine congrArg _ ?_))))
        exact hw.symm
    · have hkd : decide ((k : Int) < xs.length) = false := decide_eq_false (by omega)
      (have zx1 := @hkd; all_goals (try ((first | (with_reducible refine wp_id ?_) | (with_reducible refine does_id ?_) | (with_reducible refine ops_id ?_)); refine walk ?_; (repeat' (first | exact trivial | with_reducible refine And.intro ?_ ?_)); all_goals (repeat (first | (with_reducible refine ImpB.mk fun hb => ?_) | (with_reducible refine ImpK.mk fun hK => ?_) | (with_reducible refine ImpF.mk fun hF => ?_) | (with_reducible refine ImpQ.mk fun hp => ?_) | (with_reducible refine AllE.mk fun p => ?_) | (with_reducible refine AllR.mk fun rest => ?_) | (with_reducible refine AllK.mk fun K => ?_))))); repeat' (with_reducible refine And.intro ?_ ?_))
      rw [fstG_none fun x hx' => by
        obtain ⟨i, hi, rfl⟩ := List.getElem_of_mem hx'
        have := hx.2 i (by omega)
        simpa [List.getD_eq_getElem?_getD, List.getElem?_eq_getElem hi] using this] at H
      exact H
theorem k_ctWin {n0 : Nat} {h : List Ch} {K : KT} {xs : List Win} {f : FuncId} {caps : List AV} (p : Win → Bool) (hl : xs.length ≤ 9223372036854775806) (hp : ∀ x : Win, ∀ K' : KT, K' (.bool (p x)) h → Does Try.prog f (.agg [.int .i64 x.st, .int .i64 x.from_, .int .i64 x.to_, .int .i64 x.va] :: caps) h K') (H : K (.bool (xs.any p)) h) : DoesK Try.prog n0 32 [.ro .win xs, .fn f caps] h K := by
  have inst : Ctr 0 47 (∀ {K' : KT} (_ : K' (.int .i64 (fstG p xs 0)) h), Does Try.prog 47 [.ro .win xs, .fn f caps] h K') := Ctr.mk (fun H => Does.of_K (k_ixWin p hl hp H))
  refine w_body (rs := [.tmp 4]) (tm := [.ro .win xs, .fn f caps, .any, .any, .any, .any, .any, .any, .any]) fn_32 rfl rfl rfl rfl fun R hR => ?_
  have hia := fstG_any (p := p) (l := xs) (k := 0)
  (have zx1 := @hia; all_goals (try ((first | (with_reducible refine wp_id ?_) | (with_reducible refine does_id ?_) | (with_reducible refine ops_id ?_)); refine walk ?_; (repeat' (first | exact trivial | with_reducible refine And.intro ?_ ?_)); all_goals (repeat (first | (with_reducible refine ImpB.mk fun hb => ?_) | (with_reducible refine ImpK.mk fun hK => ?_) | (with_reducible refine ImpF.mk fun hF => ?_) | (with_reducible refine ImpQ.mk fun hp => ?_) | (with_reducible refine AllE.mk fun p => ?_) | (with_reducible refine AllR.mk fun rest => ?_) | (with_reducible refine AllK.mk fun K => ?_))))); repeat' (with_reducible refine And.intro ?_ ?_))
  all_goals first | exact H | skip
/-- not valid -/
def nvW (w : Win) : Bool := !vldW w
theorem b_nvW (x : Win) : DoesK Try.prog 0 33 [.agg [.int .i64 x.st, .int .i64 x.from_, .int .i64 x.to_, .int .i64 x.va]] [] (EndF 0 (.bool (nvW x)) []) := by
  refine DoesK.close ?_
  refine w_body (rs := [.tmp 2]) (tm := [.agg [.int .i64 x.st, .int .i64 x.from_, .int .i64 x.to_, .int .i64 x.va], .any, .any, .any, .any, .any]) fn_33 rfl rfl rfl rfl fun R hR => ?_
  (all_goals (try ((first | (with_reducible refine wp_id ?_) | (with_reducible refine does_id ?_) | (with_reducible refine ops_id ?_)); refine walk ?_; (repeat' (first | exact trivial | with_reducible refine And.intro ?_ ?_)); all_goals (repeat (first | (with_reducible refine ImpB.mk fun hb => ?_) | (with_reducible refine ImpK.mk fun hK => ?_) | (with_reducible refine ImpF.mk fun hF => ?_) | (with_reducible refine ImpQ.mk fun hp => ?_) | (with_reducible refine AllE.mk fun p => ?_) | (with_reducible refine AllR.mk fun rest => ?_) | (with_reducible refine AllK.mk fun K => ?_))))); repeat' (with_reducible refine And.intro ?_ ?_))
  (focus (refine ⟨_, _, Gh.refl, [], rfl, ?_⟩; (refine ⟨?_, ?_, ?_⟩ <;> simp only [go_sem, List.range, List.range.loop, List.nodup_cons, List.nodup_nil, List.mem_cons, List.not_mem_nil, or_false, or_self, decide_true, decide_false, Int.reduceToNat, Nat.min_eq_left, Nat.min_eq_right, Int.reducePow, Nat.reducePow, Int.reduceLE, Int.reduceLT, Int.reduceMul, Int.reduceAdd, Int.reduceSub, Int.reduceNeg, Bool.not_true, Bool.not_false, Bool.not_not, ↓reduceIte, Nat.reduceAdd, Nat.reduceSub, Nat.reduceMul, Nat.reduceEqDiff, reduceCtorEq, Nat.reduceLT, Nat.reduceLeDiff, Nat.reduceGT]); (try any_goals (refine ⟨?_, ?_⟩)); (try any_goals (with_reducible rfl))))
  all_goals rfl
theorem c_nvW {h : List Ch} {K : KT} {x : Win} (H : K (.bool (nvW x)) h) : Does Try.prog 33 [.agg [.int .i64 x.st, .int .i64 x.from_, .int .i64 x.to_, .int .i64 x.va]] h K :=
  frame_pure (b_nvW x) (br_cons (br_Win x) br_nil) (.inl rfl) (fun _ => rfl) H
theorem c_anyW {h : List Ch} {K : KT} {xs : List Win} (H : K (.bool (xs.any nvW)) h) (s1 : xs.length ≤ 9223372036854775806) : Does Try.prog 32 [.ro .win xs, .fn 33 []] h K :=
  Does.of_K (k_ctWin _ s1 (fun x K' hK' => c_nvW hK') H)
abbrev i_anyW := Ctr.mk (i := 0) (g := 32) @c_anyW
attribute [instance] i_anyW
theorem k_ixJob {n0 : Nat} {h : List Ch} {K : KT} {xs : List Job} {f : FuncId} {caps : List AV} (p : Job → Bool) (hl : xs.length ≤ 9223372036854775806) (hp : ∀ x : Job, ∀ K' : KT, K' (.bool (p x)) h → Does Try.prog f (.agg [.int .i64 x.id, .int .i64 x.size, .int .i64 x.ear, .int .i64 x.dl, .int .i64 x.pri] :: caps) h K') (H : K (.int .i64 (fstG p xs 0)) h) : DoesK Try.prog n0 48 [.ro .job xs, .fn f caps] h K := by
  have inst : Ctr 0 f (∀ {h' : List Ch} {K' : KT} {x : Job} (_ : h' = h) (_ : K' (.bool (p x)) h), Does Try.prog f (.agg [.int .i64 x.id, .int .i64 x.size, .int .i64 x.ear, .int .i64 x.dl, .int .i64 x.pri] :: caps) h' K') := Ctr.mk (by rintro h' K' x rfl H; exact hp x K' H)
  refine w_body (rs := [.tmp 4]) (tm := [.ro .job xs, .fn f caps, .any, .any, .any, .any, .any, .any, .any, .any, .any, .any, .any, .any, .any, .any, .any, .any, .any]) fn_48 rfl rfl rfl rfl fun R hR => ?_
  (all_goals (try ((first | (with_reducible refine wp_id ?_) | (with_reducible refine does_id ?_) | (with_reducible refine ops_id ?_)); refine walk ?_; (repeat' (first | exact trivial | with_reducible refine And.intro ?_ ?_)); all_goals (repeat (first | (with_reducible refine ImpB.mk fun hb => ?_) | (with_reducible refine ImpK.mk fun hK => ?_) | (with_reducible refine ImpF.mk fun hF => ?_) | (with_reducible refine ImpQ.mk fun hp => ?_) | (with_reducible refine AllE.mk fun p => ?_) | (with_reducible refine AllR.mk fun rest => ?_) | (with_reducible refine AllK.mk fun K => ?_))))); repeat' (with_reducible refine And.intro ?_ ?_))
  any_goals ((try (refine w_seq fun K hK => ?_)); (try (refine w_block ?_)); refine w_loopS (A := Nat) (fun k => k ≤ xs.length ∧ ∀ i, i < k → p (xs.getD i Job.zero) = false) (fun k => xs.length - k) (fun k => [(8, .int .i64 k)]) (0) (ws := ?ws4) (tk := ?tk4) ?hw4 ?ht4 ?hi ?h0 ?LH4; (case hw4 => simp only [go_sem, decide_true, decide_false, Int.reduceToNat, Nat.min_eq_left, Nat.min_eq_right, Int.reducePow, Nat.reducePow, Int.reduceLE, Int.reduceLT, Int.reduceMul, Int.reduceAdd, Int.reduceSub, Int.reduceNeg, Bool.not_true, Bool.not_false, Bool.not_not, ↓reduceIte, Nat.reduceAdd, Nat.reduceSub, Nat.reduceMul, Nat.reduceEqDiff, reduceCtorEq, Nat.reduceLT, Nat.reduceLeDiff, Nat.reduceGT]; exact rfl); (case ht4 => simp only [go_sem, decide_true, decide_false, Int.reduceToNat, Nat.min_eq_left, Nat.min_eq_right, Int.reducePow, Nat.reducePow, Int.reduceLE, Int.reduceLT, Int.reduceMul, Int.reduceAdd, Int.reduceSub, Int.reduceNeg, Bool.not_true, Bool.not_false, Bool.not_not, ↓reduceIte, Nat.reduceAdd, Nat.reduceSub, Nat.reduceMul, Nat.reduceEqDiff, reduceCtorEq, Nat.reduceLT, Nat.reduceLeDiff, Nat.reduceGT]; exact rfl); (case' LH4 => rintro k E t hx hE ht; simp only [go_sem] at ht; subst ht; simp only [go_sem]; try dsimp only at hx))
  case hi => exact ⟨Nat.zero_le _, fun i hi => absurd hi (by omega)⟩
  case h0 => (focus (simp only [go_sem]; (repeat' (first | exact sub_nil | refine sub_cons ?_ ?_)); (any_goals (first | exact .inl rfl | exact .inr rfl)); (try any_goals (refine .inr ?_)); (try any_goals (refine congrArg _ ?_))))
  case LH4 =>
    have hw : IntKind.i64.wrap ((k : Int) + 1) = ((k + 1 : Nat) : Int) := by rw [wrap_i64 _ (by omega) (by omega)]; omega
    by_cases hk : k < xs.length
    · have hkd : decide ((k : Int) < xs.length) = true := decide_eq_true (by omega)
      (have zx1 := @hkd; all_goals (try ((first | (with_reducible refine wp_id ?_) | (with_reducible refine does_id ?_) | (with_reducible refine ops_id ?_)); refine walk ?_; (repeat' (first | exact trivial | with_reducible refine And.intro ?_ ?_)); all_goals (repeat (first | (with_reducible refine ImpB.mk fun hb => ?_) | (with_reducible refine ImpK.mk fun hK => ?_) | (with_reducible refine ImpF.mk fun hF => ?_) | (with_reducible refine ImpQ.mk fun hp => ?_) | (with_reducible refine AllE.mk fun p => ?_) | (with_reducible refine AllR.mk fun rest => ?_) | (with_reducible refine AllK.mk fun K => ?_))))); repeat' (with_reducible refine And.intro ?_ ?_))
      all_goals first | exact Int.natCast_nonneg _ | exact Int.ofNat_lt.2 hk | rfl | skip
      · rw [fstG_at hk hx.2 hb, Nat.zero_add] at H
        exact H
      · refine ⟨k + 1, ⟨⟨by first | omega | (dsimp only; omega), fun i hi => ?_⟩, by first | omega | (dsimp only; omega)⟩, ?_, rfl⟩
        · by_cases e : i = k
          · rw [e]; exact hb
          · exact hx.2 i (by omega)
        (focus (simp only [go_sem]; (repeat' (first | exact sub_nil | refine sub_cons ?_ ?_)); (any_goals (first | exact .inl rfl | exact .inr rfl)); (try any_goals (refine .inr ?_)); (try any_goals (refine congrArg _ ?_))))
        exact hw.symm
    · have hkd : decide ((k : Int) < xs.length) = false := decide_eq_false (by omega)
      (have zx1 := @hkd; all_goals (try ((first | (with_reducible refine wp_id ?_) | (with_reducible refine does_id ?_) | (with_reducible refine ops_id ?_)); refine walk ?_; (repeat' (first | exact trivial | with_reducible refine And.intro ?_ ?_)); all_goals (repeat (first | (with_reducible refine ImpB.mk fun hb => ?_) | (with_reducible refine ImpK.mk fun hK => ?_) | (with_reducible refine ImpF.mk fun hF => ?_) | (with_reducible refine ImpQ.mk fun hp => ?_) | (with_reducible refine AllE.mk fun p => ?_) | (with_reducible refine AllR.mk fun rest => ?_) | (with_reducible refine AllK.mk fun K => ?_))))); repeat' (with_reducible refine And.intro ?_ ?_))
      rw [fstG_none fun x hx' => by
        obtain ⟨i, hi, rfl⟩ := List.getElem_of_mem hx'
        have := hx.2 i (by omega)
        simpa [List.getD_eq_getElem?_getD, List.getElem?_eq_getElem hi] using this] at H
      exact H
theorem k_ctJob {n0 : Nat} {h : List Ch} {K : KT} {xs : List Job} {f : FuncId} {caps : List AV} (p : Job → Bool) (hl : xs.length ≤ 9223372036854775806) (hp : ∀ x : Job, ∀ K' : KT, K' (.bool (p x)) h → Does Try.prog f (.agg [.int .i64 x.id, .int .i64 x.size, .int .i64 x.ear, .int .i64 x.dl, .int .i64 x.pri] :: caps) h K') (H : K (.bool (xs.any p)) h) : DoesK Try.prog n0 35 [.ro .job xs, .fn f caps] h K := by
  have inst : Ctr 0 48 (∀ {K' : KT} (_ : K' (.int .i64 (fstG p xs 0)) h), Does Try.prog 48 [.ro .job xs, .fn f caps] h K') := Ctr.mk (fun H => Does.of_K (k_ixJob p hl hp H))
  refine w_body (rs := [.tmp 4]) (tm := [.ro .job xs, .fn f caps, .any, .any, .any, .any, .any, .any, .any]) fn_35 rfl rfl rfl rfl fun R hR => ?_
  have hia := fstG_any (p := p) (l := xs) (k := 0)
  (have zx1 := @hia; all_goals (try ((first | (with_reducible refine wp_id ?_) | (with_reducible refine does_id ?_) | (with_reducible refine ops_id ?_)); refine walk ?_; (repeat' (first | exact trivial | with_reducible refine And.intro ?_ ?_)); all_goals (repeat (first | (with_reducible refine ImpB.mk fun hb => ?_) | (with_reducible refine ImpK.mk fun hK => ?_) | (with_reducible refine ImpF.mk fun hF => ?_) | (with_reducible refine ImpQ.mk fun hp => ?_) | (with_reducible refine AllE.mk fun p => ?_) | (with_reducible refine AllR.mk fun rest => ?_) | (with_reducible refine AllK.mk fun K => ?_))))); repeat' (with_reducible refine And.intro ?_ ?_))
  all_goals first | exact H | skip
/-- not valid -/
def nvJ (w : Job) : Bool := !vldJ w
theorem b_nvJ (x : Job) : DoesK Try.prog 0 36 [.agg [.int .i64 x.id, .int .i64 x.size, .int .i64 x.ear, .int .i64 x.dl, .int .i64 x.pri]] [] (EndF 0 (.bool (nvJ x)) []) := by
  refine DoesK.close ?_
  refine w_body (rs := [.tmp 2]) (tm := [.agg [.int .i64 x.id, .int .i64 x.size, .int .i64 x.ear, .int .i64 x.dl, .int .i64 x.pri], .any, .any, .any, .any, .any]) fn_36 rfl rfl rfl rfl fun R hR => ?_
  (all_goals (try ((first | (with_reducible refine wp_id ?_) | (with_reducible refine does_id ?_) | (with_reducible refine ops_id ?_)); refine walk ?_; (repeat' (first | exact trivial | with_reducible refine And.intro ?_ ?_)); all_goals (repeat (first | (with_reducible refine ImpB.mk fun hb => ?_) | (with_reducible refine ImpK.mk fun hK => ?_) | (with_reducible refine ImpF.mk fun hF => ?_) | (with_reducible refine ImpQ.mk fun hp => ?_) | (with_reducible refine AllE.mk fun p => ?_) | (with_reducible refine AllR.mk fun rest => ?_) | (with_reducible refine AllK.mk fun K => ?_))))); repeat' (with_reducible refine And.intro ?_ ?_))
  (focus (refine ⟨_, _, Gh.refl, [], rfl, ?_⟩; (refine ⟨?_, ?_, ?_⟩ <;> simp only [go_sem, List.range, List.range.loop, List.nodup_cons, List.nodup_nil, List.mem_cons, List.not_mem_nil, or_false, or_self, decide_true, decide_false, Int.reduceToNat, Nat.min_eq_left, Nat.min_eq_right, Int.reducePow, Nat.reducePow, Int.reduceLE, Int.reduceLT, Int.reduceMul, Int.reduceAdd, Int.reduceSub, Int.reduceNeg, Bool.not_true, Bool.not_false, Bool.not_not, ↓reduceIte, Nat.reduceAdd, Nat.reduceSub, Nat.reduceMul, Nat.reduceEqDiff, reduceCtorEq, Nat.reduceLT, Nat.reduceLeDiff, Nat.reduceGT]); (try any_goals (refine ⟨?_, ?_⟩)); (try any_goals (with_reducible rfl))))
  all_goals rfl
theorem c_nvJ {h : List Ch} {K : KT} {x : Job} (H : K (.bool (nvJ x)) h) : Does Try.prog 36 [.agg [.int .i64 x.id, .int .i64 x.size, .int .i64 x.ear, .int .i64 x.dl, .int .i64 x.pri]] h K :=
  frame_pure (b_nvJ x) (br_cons (br_Job x) br_nil) (.inl rfl) (fun _ => rfl) H
theorem c_anyJ {h : List Ch} {K : KT} {xs : List Job} (H : K (.bool (xs.any nvJ)) h) (s1 : xs.length ≤ 9223372036854775806) : Does Try.prog 35 [.ro .job xs, .fn 36 []] h K :=
  Does.of_K (k_ctJob _ s1 (fun x K' hK' => c_nvJ hK') H)
abbrev i_anyJ := Ctr.mk (i := 0) (g := 35) @c_anyJ
attribute [instance] i_anyJ
/-- contacts, jobs and rate are valid -/
def usB (w : List Win) (l : List Job) (rate : Int) : Bool := decide (1 ≤ rate) && decide (rate ≤ 2147483648) && decide (w.length ≤ 256) && decide (l.length ≤ 256) && w.all vldW && l.all vldJ
theorem usB_iff (w : List Win) (l : List Job) (rate : Int) : usB w l rate = true ↔ (1 ≤ rate ∧ rate ≤ 2147483648) ∧ w.length ≤ 256 ∧ l.length ≤ 256 ∧ w.all vldW = true ∧ l.all vldJ = true := by
  unfold usB; simp only [Bool.and_eq_true, decide_eq_true_eq]
  constructor
  · rintro ⟨⟨⟨⟨⟨a, b⟩, c⟩, d⟩, e⟩, f⟩; exact ⟨⟨a, b⟩, c, d, e, f⟩
  · rintro ⟨⟨a, b⟩, c, d, e, f⟩; exact ⟨⟨⟨⟨⟨a, b⟩, c⟩, d⟩, e⟩, f⟩
theorem us_no {w : List Win} {l : List Job} {rate : Int} (h : ¬ ((1 ≤ rate ∧ rate ≤ 2147483648) ∧ w.length ≤ 256 ∧ l.length ≤ 256)) : usB w l rate = false := by
  rw [Bool.eq_false_iff]
  intro q
  obtain ⟨a, b, c, d⟩ := (usB_iff w l rate).1 q
  exact h ⟨a, b, c⟩
theorem us_in {w : List Win} {l : List Job} {rate : Int} (h : (1 ≤ rate ∧ rate ≤ 2147483648) ∧ w.length ≤ 256 ∧ l.length ≤ 256) : usB w l rate = (w.all vldW && l.all vldJ) := by
  rw [Bool.eq_iff_iff, usB_iff, Bool.and_eq_true]
  exact ⟨fun q => q.2.2.2, fun q => ⟨h.1, h.2.1, h.2.2, q⟩⟩
theorem any_nvW (w : List Win) : (!w.any nvW) = w.all vldW := by
  induction w with
  | nil => rfl
  | cons x w ih => rw [List.any_cons, List.all_cons, ← ih]; unfold nvW; cases vldW x <;> simp
theorem any_nvJ (w : List Job) : (!w.any nvJ) = w.all vldJ := by
  induction w with
  | nil => rfl
  | cons x w ih => rw [List.any_cons, List.all_cons, ← ih]; unfold nvJ; cases vldJ x <;> simp
theorem b_right (w : List Win) (l : List Job) (rate : Int) (hw : w.length ≤ 9223372036854775807) (hl : l.length ≤ 9223372036854775807) : DoesK Try.prog 0 17 [.ro .win w, .ro .job l, .int .i64 rate] [] (EndF 0 (.bool (usB w l rate)) []) := by
  refine DoesK.close ?_
  by_cases c : (1 ≤ rate ∧ rate ≤ 2147483648) ∧ w.length ≤ 256 ∧ l.length ≤ 256
  · have d1 : decide (rate < 1) = false := decide_eq_false (by omega)
    have d2 : decide (2147483648 < rate) = false := decide_eq_false (by omega)
    have d3 : decide ((256 : Int) < (w.length : Int)) = false := decide_eq_false (by omega)
    have d4 : decide ((256 : Int) < (l.length : Int)) = false := decide_eq_false (by omega)
    have e1 := any_nvW w
    have e2 := any_nvJ l
    refine w_body (rs := [.tmp 6]) (tm := [.ro .win w, .ro .job l, .int .i64 rate, .any, .any, .any, .any, .any, .any, .any, .any, .any, .any, .any, .any, .any, .any, .any, .any, .any, .any, .any, .any, .any, .any, .any, .any, .any, .any, .any, .any]) fn_17 rfl rfl rfl rfl fun R hR => ?_
    (have zx1 := @d1; have zx2 := @d2; have zx3 := @d3; have zx4 := @d4; have zx5 := @e1; have zx6 := @e2; all_goals (try ((first | (with_reducible refine wp_id ?_) | (with_reducible refine does_id ?_) | (with_reducible refine ops_id ?_)); refine walk ?_; (repeat' (first | exact trivial | with_reducible refine And.intro ?_ ?_)); all_goals (repeat (first | (with_reducible refine ImpB.mk fun hb => ?_) | (with_reducible refine ImpK.mk fun hK => ?_) | (with_reducible refine ImpF.mk fun hF => ?_) | (with_reducible refine ImpQ.mk fun hp => ?_) | (with_reducible refine AllE.mk fun p => ?_) | (with_reducible refine AllR.mk fun rest => ?_) | (with_reducible refine AllK.mk fun K => ?_))))); repeat' (with_reducible refine And.intro ?_ ?_))
    · rw [us_in c, hb, Bool.true_and]
      (focus (refine ⟨_, _, Gh.refl, [], rfl, ?_⟩; (refine ⟨?_, ?_, ?_⟩ <;> simp only [go_sem, List.range, List.range.loop, List.nodup_cons, List.nodup_nil, List.mem_cons, List.not_mem_nil, or_false, or_self, decide_true, decide_false, Int.reduceToNat, Nat.min_eq_left, Nat.min_eq_right, Int.reducePow, Nat.reducePow, Int.reduceLE, Int.reduceLT, Int.reduceMul, Int.reduceAdd, Int.reduceSub, Int.reduceNeg, Bool.not_true, Bool.not_false, Bool.not_not, ↓reduceIte, Nat.reduceAdd, Nat.reduceSub, Nat.reduceMul, Nat.reduceEqDiff, reduceCtorEq, Nat.reduceLT, Nat.reduceLeDiff, Nat.reduceGT]); (try any_goals (refine ⟨?_, ?_⟩)); (try any_goals (with_reducible rfl))))
    · rw [us_in c, hb, Bool.false_and]
      (focus (refine ⟨_, _, Gh.refl, [], rfl, ?_⟩; (refine ⟨?_, ?_, ?_⟩ <;> simp only [go_sem, List.range, List.range.loop, List.nodup_cons, List.nodup_nil, List.mem_cons, List.not_mem_nil, or_false, or_self, decide_true, decide_false, Int.reduceToNat, Nat.min_eq_left, Nat.min_eq_right, Int.reducePow, Nat.reducePow, Int.reduceLE, Int.reduceLT, Int.reduceMul, Int.reduceAdd, Int.reduceSub, Int.reduceNeg, Bool.not_true, Bool.not_false, Bool.not_not, ↓reduceIte, Nat.reduceAdd, Nat.reduceSub, Nat.reduceMul, Nat.reduceEqDiff, reduceCtorEq, Nat.reduceLT, Nat.reduceLeDiff, Nat.reduceGT]); (try any_goals (refine ⟨?_, ?_⟩)); (try any_goals (with_reducible rfl))))
  · rw [us_no c]
    refine w_body (rs := [.tmp 6]) (tm := [.ro .win w, .ro .job l, .int .i64 rate, .any, .any, .any, .any, .any, .any, .any, .any, .any, .any, .any, .any, .any, .any, .any, .any, .any, .any, .any, .any, .any, .any, .any, .any, .any, .any, .any, .any]) fn_17 rfl rfl rfl rfl fun R hR => ?_
    (all_goals (try ((first | (with_reducible refine wp_id ?_) | (with_reducible refine does_id ?_) | (with_reducible refine ops_id ?_)); refine walk ?_; (repeat' (first | exact trivial | with_reducible refine And.intro ?_ ?_)); all_goals (repeat (first | (with_reducible refine ImpB.mk fun hb => ?_) | (with_reducible refine ImpK.mk fun hK => ?_) | (with_reducible refine ImpF.mk fun hF => ?_) | (with_reducible refine ImpQ.mk fun hp => ?_) | (with_reducible refine AllE.mk fun p => ?_) | (with_reducible refine AllR.mk fun rest => ?_) | (with_reducible refine AllK.mk fun K => ?_))))); repeat' (with_reducible refine And.intro ?_ ?_))
    all_goals first | ((focus (refine ⟨_, _, Gh.refl, [], rfl, ?_⟩; (refine ⟨?_, ?_, ?_⟩ <;> simp only [go_sem, List.range, List.range.loop, List.nodup_cons, List.nodup_nil, List.mem_cons, List.not_mem_nil, or_false, or_self, decide_true, decide_false, Int.reduceToNat, Nat.min_eq_left, Nat.min_eq_right, Int.reducePow, Nat.reducePow, Int.reduceLE, Int.reduceLT, Int.reduceMul, Int.reduceAdd, Int.reduceSub, Int.reduceNeg, Bool.not_true, Bool.not_false, Bool.not_not, ↓reduceIte, Nat.reduceAdd, Nat.reduceSub, Nat.reduceMul, Nat.reduceEqDiff, reduceCtorEq, Nat.reduceLT, Nat.reduceLeDiff, Nat.reduceGT]); (try any_goals (refine ⟨?_, ?_⟩)); (try any_goals (with_reducible rfl)))); done) | (exfalso; (try simp only [decide_eq_true_eq, decide_eq_false_iff_not, Bool.not_eq_true', Bool.not_eq_false', Bool.not_eq_true, Bool.not_eq_false, decide_not, decide_true, decide_false, Bool.decide_and, Bool.and_eq_true, Bool.or_eq_true, Bool.and_eq_false_imp, Decidable.not_not] at *); omega) | trace_state
theorem c_right {h : List Ch} {K : KT} {w : List Win} {l : List Job} {rate : Int} {x y : AV} (H : K (.bool (usB w l rate)) h) (b1 : brA [] h (.ro .win w) x) (b2 : brA [] h (.ro .job l) y) (s1 : w.length ≤ 9223372036854775807) (s2 : l.length ≤ 9223372036854775807) : Does Try.prog 17 [x, y, .int .i64 rate] h K :=
  frame_pure (b_right w l rate s1 s2) (br_cons b1 (br_cons b2 (br_cons br_int br_nil))) (.inr rfl) (fun _ => rfl) H
abbrev i_right := Ctr.mk (i := 0) (g := 17) @c_right
attribute [instance] i_right
end Go.V

set_option maxRecDepth 100000
set_option maxHeartbeats 8000000
namespace Go.V
open Go.Proofs
def durI (j : Job) (rate : Int) : Int := Int.tdiv (j.size + rate - 1) rate
theorem dur_bd {j : Job} {rate : Int} (h1 : 1 ≤ rate ∧ rate ≤ 2147483648) (h2 : 1 ≤ j.size ∧ j.size ≤ 2147483648) : 1 ≤ durI j rate ∧ durI j rate ≤ 2147483648 := by
  unfold durI
  obtain ⟨r, rfl⟩ : ∃ r : Nat, rate = r := ⟨rate.toNat, by omega⟩
  obtain ⟨s, hs⟩ : ∃ s : Nat, j.size = s := ⟨j.size.toNat, by omega⟩
  rw [hs]
  have e : (s : Int) + r - 1 = ((s + r - 1 : Nat) : Int) := by omega
  rw [e, ← Int.ofNat_tdiv]
  have hr : 0 < r := by omega
  have h3 : 1 ≤ (s + r - 1) / r := (Nat.le_div_iff_mul_le hr).2 (by omega)
  have h4 : (s + r - 1) / r ≤ s := by
    have q : s + r - 1 < (s + 1) * r := by
      have : s * 1 ≤ s * r := Nat.mul_le_mul_left s hr
      rw [Nat.add_mul]
      omega
    have := (Nat.div_lt_iff_lt_mul hr).2 q
    omega
  omega
theorem b_dur (j : Job) (rate : Int) (h1 : 1 ≤ rate ∧ rate ≤ 2147483648) (h2 : 1 ≤ j.size ∧ j.size ≤ 2147483648) : DoesK Try.prog 0 22 [.agg (JobL j), .int .i64 rate] [] (EndF 0 (.int .i64 (durI j rate)) []) := by
  refine DoesK.close ?_
  have hd := dur_bd h1 h2
  have w1 : IntKind.i64.wrap (j.size + rate) = j.size + rate := wrap_i64 _ (by omega) (by omega)
  have w2 : IntKind.i64.wrap (j.size + rate - 1) = j.size + rate - 1 := wrap_i64 _ (by omega) (by omega)
  have w3 : IntKind.i64.wrap (Int.tdiv (j.size + rate - 1) rate) = durI j rate := wrap_i64 _ (by unfold durI at hd; omega) (by unfold durI at hd; omega)
  refine w_body (rs := [.tmp 4]) (tm := [.agg (JobL j), .int .i64 rate, .any, .any, .any, .any, .any, .any, .any, .any, .any, .any]) fn_22 rfl rfl rfl rfl fun R hR => ?_
  (have zx1 := @w1; have zx2 := @w2; have zx3 := @w3; all_goals (try ((first | (with_reducible refine wp_id ?_) | (with_reducible refine does_id ?_) | (with_reducible refine ops_id ?_)); refine walk ?_; (repeat' (first | exact trivial | with_reducible refine And.intro ?_ ?_)); all_goals (repeat (first | (with_reducible refine ImpB.mk fun hb => ?_) | (with_reducible refine ImpK.mk fun hK => ?_) | (with_reducible refine ImpF.mk fun hF => ?_) | (with_reducible refine ImpQ.mk fun hp => ?_) | (with_reducible refine AllE.mk fun p => ?_) | (with_reducible refine AllR.mk fun rest => ?_) | (with_reducible refine AllK.mk fun K => ?_))))); repeat' (with_reducible refine And.intro ?_ ?_))
  all_goals first | omega | skip
  (focus (refine ⟨_, _, Gh.refl, [], rfl, ?_⟩; (refine ⟨?_, ?_, ?_⟩ <;> simp only [go_sem, List.range, List.range.loop, List.nodup_cons, List.nodup_nil, List.mem_cons, List.not_mem_nil, or_false, or_self, decide_true, decide_false, Int.reduceToNat, Nat.min_eq_left, Nat.min_eq_right, Int.reducePow, Nat.reducePow, Int.reduceLE, Int.reduceLT, Int.reduceMul, Int.reduceAdd, Int.reduceSub, Int.reduceNeg, Bool.not_true, Bool.not_false, Bool.not_not, ↓reduceIte, Nat.reduceAdd, Nat.reduceSub, Nat.reduceMul, Nat.reduceEqDiff, reduceCtorEq, Nat.reduceLT, Nat.reduceLeDiff, Nat.reduceGT]); (try any_goals (refine ⟨?_, ?_⟩)); (try any_goals (with_reducible rfl))))
theorem c_dur {h : List Ch} {K : KT} {j : Job} {rate : Int} (H : K (.int .i64 (durI j rate)) h) (s1 : 1 ≤ rate ∧ rate ≤ 2147483648) (s2 : 1 ≤ j.size ∧ j.size ≤ 2147483648) : Does Try.prog 22 [.agg [.int .i64 j.id, .int .i64 j.size, .int .i64 j.ear, .int .i64 j.dl, .int .i64 j.pri], .int .i64 rate] h K :=
  frame_pure (b_dur j rate s1 s2) (br_cons (br_Job j) (br_cons br_int br_nil)) (.inl rfl) (fun _ => rfl) H
abbrev i_dur := Ctr.mk (i := 0) (g := 22) @c_dur
attribute [instance] i_dur
/-- one assignment pushes a start behind it -/
def plS (d t : Int) (s : Slo) : Int := if s.st < t + d ∧ t < s.en then s.en else t
def plI (w : Win) (j : Job) (d : Int) (m : List Slo) : Int := m.foldl (plS d) (max w.from_ j.ear)
def plB (w : Win) (j : Job) (d : Int) (m : List Slo) : Bool := decide (plI w j d m + d ≤ min w.to_ j.dl)
/-- bounds of assignments -/
def bdS (m : List Slo) : Prop := ∀ s ∈ m, (0 ≤ s.st ∧ s.st ≤ 1099511627776) ∧ 0 ≤ s.en ∧ s.en ≤ 1099511627776
theorem pl_next {w : Win} {j : Job} {d : Int} {m : List Slo} {k : Nat} (h : k < m.length) : plI w j d (m.take (k + 1)) = plS d (plI w j d (m.take k)) (m.getD k Slo.zero) := by
  unfold plI
  rw [getT (z := Slo.zero) h, List.foldl_append]
  rfl
theorem pl_bd {w : Win} {j : Job} {d : Int} {m : List Slo} (hw : vldW w = true) (hj : vldJ j = true) (hm : bdS m) : 0 ≤ plI w j d m ∧ plI w j d m ≤ 1099511627776 := by
  have a1 := (vldW_iff w).1 hw
  have a2 := (vldJ_iff j).1 hj
  have key : ∀ (m : List Slo) (t : Int), bdS m → (0 ≤ t ∧ t ≤ 1099511627776) → 0 ≤ m.foldl (plS d) t ∧ m.foldl (plS d) t ≤ 1099511627776 := by
    intro m
    induction m with
    | nil => intro t _ h; exact h
    | cons s m ih =>
      intro t hb0 h
      refine ih _ (fun x hx => hb0 x (by simp [hx])) ?_
      have := hb0 s (by simp)
      unfold plS
      split <;> omega
  exact key m _ hm (by omega)
theorem bdS_take {m : List Slo} (h : bdS m) (k : Nat) : bdS (m.take k) := fun s hs => h s (List.take_subset _ _ hs)
theorem b_place (w : Win) (j : Job) (d : Int) (m : List Slo) (hw : vldW w = true) (hj : vldJ j = true) (hm : bdS m) (hd : 1 ≤ d ∧ d ≤ 2147483648) (hl : m.length ≤ 1099511627776) : DoesK Try.prog 0 40 [.agg (WinL w), .agg (JobL j), .int .i64 d, .ro .slo m] [] (EndF 0 (.tup [.int .i64 (plI w j d m), .bool (plB w j d m)]) []) := by
  refine DoesK.close ?_
  have a1 := (vldW_iff w).1 hw
  have a2 := (vldJ_iff j).1 hj
  refine w_body (rs := [.tmp 8, .tmp 9]) (tm := [.agg (WinL w), .agg (JobL j), .int .i64 d, .ro .slo m, .any, .any, .any, .any, .any, .any, .any, .any, .any, .any, .any, .any, .any, .any, .any, .any, .any, .any, .any, .any, .any, .any, .any, .any, .any, .any, .any, .any, .any, .any, .any, .any, .any, .any, .any, .any, .any, .any, .any, .any, .any, .any, .any, .any, .any]) fn_40 rfl rfl rfl rfl fun R hR => ?_
  (all_goals (try ((first | (with_reducible refine wp_id ?_) | (with_reducible refine does_id ?_) | (with_reducible refine ops_id ?_)); refine walk ?_; (repeat' (first | exact trivial | with_reducible refine And.intro ?_ ?_)); all_goals (repeat (first | (with_reducible refine ImpB.mk fun hb => ?_) | (with_reducible refine ImpK.mk fun hK => ?_) | (with_reducible refine ImpF.mk fun hF => ?_) | (with_reducible refine ImpQ.mk fun hp => ?_) | (with_reducible refine AllE.mk fun p => ?_) | (with_reducible refine AllR.mk fun rest => ?_) | (with_reducible refine AllK.mk fun K => ?_))))); repeat' (with_reducible refine And.intro ?_ ?_))
  any_goals ((try (refine w_seq fun K hK => ?_)); (try (refine w_block ?_)); refine w_loop (A := Nat) (fun k => k ≤ m.length) (fun k => m.length - k) (fun k => [(20, .int .i64 k), (10, .int .i64 (plI w j d (m.take k)))]) (fun _ => []) (0) (ws := ?ws1) (tk := ?tk1) ?hw1 ?ht1 ?hi ?h0 ?LH1; (case hw1 => simp only [go_sem, decide_true, decide_false, Int.reduceToNat, Nat.min_eq_left, Nat.min_eq_right, Int.reducePow, Nat.reducePow, Int.reduceLE, Int.reduceLT, Int.reduceMul, Int.reduceAdd, Int.reduceSub, Int.reduceNeg, Bool.not_true, Bool.not_false, Bool.not_not, ↓reduceIte, Nat.reduceAdd, Nat.reduceSub, Nat.reduceMul, Nat.reduceEqDiff, reduceCtorEq, Nat.reduceLT, Nat.reduceLeDiff, Nat.reduceGT]; exact rfl); (case ht1 => simp only [go_sem, decide_true, decide_false, Int.reduceToNat, Nat.min_eq_left, Nat.min_eq_right, Int.reducePow, Nat.reducePow, Int.reduceLE, Int.reduceLT, Int.reduceMul, Int.reduceAdd, Int.reduceSub, Int.reduceNeg, Bool.not_true, Bool.not_false, Bool.not_not, ↓reduceIte, Nat.reduceAdd, Nat.reduceSub, Nat.reduceMul, Nat.reduceEqDiff, reduceCtorEq, Nat.reduceLT, Nat.reduceLeDiff, Nat.reduceGT]; exact rfl); (case' LH1 => rintro k E t hx hE ht; simp only [go_sem] at ht; subst ht; simp only [go_sem]; try dsimp only at hx))
  case hi => exact Nat.zero_le _
  case h0 =>
    (focus (refine ⟨_, _, Gh.refl, [0, 1], rfl, ?_⟩; (refine ⟨?_, ?_, ?_⟩ <;> simp only [go_sem, List.range, List.range.loop, List.nodup_cons, List.nodup_nil, List.mem_cons, List.not_mem_nil, or_false, or_self, decide_true, decide_false, Int.reduceToNat, Nat.min_eq_left, Nat.min_eq_right, Int.reducePow, Nat.reducePow, Int.reduceLE, Int.reduceLT, Int.reduceMul, Int.reduceAdd, Int.reduceSub, Int.reduceNeg, Bool.not_true, Bool.not_false, Bool.not_not, ↓reduceIte, Nat.reduceAdd, Nat.reduceSub, Nat.reduceMul, Nat.reduceEqDiff, reduceCtorEq, Nat.reduceLT, Nat.reduceLeDiff, Nat.reduceGT]); (try any_goals (refine ⟨?_, ?_⟩)); (try any_goals (with_reducible rfl))))
    all_goals rfl
  case LH1 =>
    have hk0 : k ≤ m.length := hx
    have hw1 : IntKind.i64.wrap ((k : Int) + 1) = ((k + 1 : Nat) : Int) := by rw [wrap_i64 _ (by omega) (by omega)]; omega
    have hp := pl_bd (d := d) hw hj (bdS_take hm k)
    have hw2 : IntKind.i64.wrap (plI w j d (m.take k) + d) = plI w j d (m.take k) + d := wrap_i64 _ (by omega) (by omega)
    by_cases hk : k < m.length
    · have hkd : decide ((k : Int) < (m.length : Int)) = true := decide_eq_true (by omega)
      have hn := pl_next (w := w) (j := j) (d := d) hk
      by_cases c1 : (m.getD k Slo.zero).st < plI w j d (m.take k) + d
      · have d1 : decide ((m.getD k Slo.zero).st < plI w j d (m.take k) + d) = true := decide_eq_true c1
        by_cases c2 : plI w j d (m.take k) < (m.getD k Slo.zero).en
        · have d2 : decide (plI w j d (m.take k) < (m.getD k Slo.zero).en) = true := decide_eq_true c2
          have hs : plS d (plI w j d (m.take k)) (m.getD k Slo.zero) = (m.getD k Slo.zero).en := if_pos ⟨c1, c2⟩
          (have zx1 := @hkd; have zx2 := @hw1; have zx3 := @hw2; have zx4 := @d1; have zx5 := @d2; all_goals (try ((first | (with_reducible refine wp_id ?_) | (with_reducible refine does_id ?_) | (with_reducible refine ops_id ?_)); refine walk ?_; (repeat' (first | exact trivial | with_reducible refine And.intro ?_ ?_)); all_goals (repeat (first | (with_reducible refine ImpB.mk fun hb => ?_) | (with_reducible refine ImpK.mk fun hK => ?_) | (with_reducible refine ImpF.mk fun hF => ?_) | (with_reducible refine ImpQ.mk fun hp => ?_) | (with_reducible refine AllE.mk fun p => ?_) | (with_reducible refine AllR.mk fun rest => ?_) | (with_reducible refine AllK.mk fun K => ?_))))); repeat' (with_reducible refine And.intro ?_ ?_))
          (all_goals first | exact Int.natCast_nonneg _ | exact Int.ofNat_lt.2 (by assumption) | assumption | omega | exact Nat.le_refl _ | (exfalso; simp at hb; done) | (simp only [go_sem, decide_true, decide_false, Int.reduceToNat, Nat.min_eq_left, Nat.min_eq_right, Int.reducePow, Nat.reducePow, Int.reduceLE, Int.reduceLT, Int.reduceMul, Int.reduceAdd, Int.reduceSub, Int.reduceNeg, Bool.not_true, Bool.not_false, Bool.not_not, ↓reduceIte, Nat.reduceAdd, Nat.reduceSub, Nat.reduceMul, Nat.reduceEqDiff, reduceCtorEq, Nat.reduceLT, Nat.reduceLeDiff, Nat.reduceGT]; done) | (unfold capM; omega) | (simp only [List.length_drop, List.length_take, List.length_append, List.length_cons, List.length_nil]; omega) | skip)
          refine ⟨k + 1, ⟨by first | omega | (dsimp only; omega), by first | omega | (dsimp only; omega)⟩, ?_⟩
          (focus (refine ⟨_, _, Gh.refl, [0, 1], rfl, ?_⟩; (refine ⟨?_, ?_, ?_⟩ <;> simp only [go_sem, List.range, List.range.loop, List.nodup_cons, List.nodup_nil, List.mem_cons, List.not_mem_nil, or_false, or_self, decide_true, decide_false, Int.reduceToNat, Nat.min_eq_left, Nat.min_eq_right, Int.reducePow, Nat.reducePow, Int.reduceLE, Int.reduceLT, Int.reduceMul, Int.reduceAdd, Int.reduceSub, Int.reduceNeg, Bool.not_true, Bool.not_false, Bool.not_not, ↓reduceIte, Nat.reduceAdd, Nat.reduceSub, Nat.reduceMul, Nat.reduceEqDiff, reduceCtorEq, Nat.reduceLT, Nat.reduceLeDiff, Nat.reduceGT]); (try any_goals (refine ⟨?_, ?_⟩)); (try any_goals (with_reducible rfl))))
          all_goals first | rfl | exact hn.trans hs | exact (hn.trans hs).symm
        · have d2 : decide (plI w j d (m.take k) < (m.getD k Slo.zero).en) = false := decide_eq_false c2
          have hs : plS d (plI w j d (m.take k)) (m.getD k Slo.zero) = plI w j d (m.take k) := if_neg (fun q => c2 q.2)
          (have zx1 := @hkd; have zx2 := @hw1; have zx3 := @hw2; have zx4 := @d1; have zx5 := @d2; all_goals (try ((first | (with_reducible refine wp_id ?_) | (with_reducible refine does_id ?_) | (with_reducible refine ops_id ?_)); refine walk ?_; (repeat' (first | exact trivial | with_reducible refine And.intro ?_ ?_)); all_goals (repeat (first | (with_reducible refine ImpB.mk fun hb => ?_) | (with_reducible refine ImpK.mk fun hK => ?_) | (with_reducible refine ImpF.mk fun hF => ?_) | (with_reducible refine ImpQ.mk fun hp => ?_) | (with_reducible refine AllE.mk fun p => ?_) | (with_reducible refine AllR.mk fun rest => ?_) | (with_reducible refine AllK.mk fun K => ?_))))); repeat' (with_reducible refine And.intro ?_ ?_))
          (all_goals first | exact Int.natCast_nonneg _ | exact Int.ofNat_lt.2 (by assumption) | assumption | omega | exact Nat.le_refl _ | (exfalso; simp at hb; done) | (simp only [go_sem, decide_true, decide_false, Int.reduceToNat, Nat.min_eq_left, Nat.min_eq_right, Int.reducePow, Nat.reducePow, Int.reduceLE, Int.reduceLT, Int.reduceMul, Int.reduceAdd, Int.reduceSub, Int.reduceNeg, Bool.not_true, Bool.not_false, Bool.not_not, ↓reduceIte, Nat.reduceAdd, Nat.reduceSub, Nat.reduceMul, Nat.reduceEqDiff, reduceCtorEq, Nat.reduceLT, Nat.reduceLeDiff, Nat.reduceGT]; done) | (unfold capM; omega) | (simp only [List.length_drop, List.length_take, List.length_append, List.length_cons, List.length_nil]; omega) | skip)
          refine ⟨k + 1, ⟨by first | omega | (dsimp only; omega), by first | omega | (dsimp only; omega)⟩, ?_⟩
          (focus (refine ⟨_, _, Gh.refl, [0, 1], rfl, ?_⟩; (refine ⟨?_, ?_, ?_⟩ <;> simp only [go_sem, List.range, List.range.loop, List.nodup_cons, List.nodup_nil, List.mem_cons, List.not_mem_nil, or_false, or_self, decide_true, decide_false, Int.reduceToNat, Nat.min_eq_left, Nat.min_eq_right, Int.reducePow, Nat.reducePow, Int.reduceLE, Int.reduceLT, Int.reduceMul, Int.reduceAdd, Int.reduceSub, Int.reduceNeg, Bool.not_true, Bool.not_false, Bool.not_not, ↓reduceIte, Nat.reduceAdd, Nat.reduceSub, Nat.reduceMul, Nat.reduceEqDiff, reduceCtorEq, Nat.reduceLT, Nat.reduceLeDiff, Nat.reduceGT]); (try any_goals (refine ⟨?_, ?_⟩)); (try any_goals (with_reducible rfl))))
          all_goals first | rfl | exact hn.trans hs | exact (hn.trans hs).symm
      · have d1 : decide ((m.getD k Slo.zero).st < plI w j d (m.take k) + d) = false := decide_eq_false c1
        have hs : plS d (plI w j d (m.take k)) (m.getD k Slo.zero) = plI w j d (m.take k) := if_neg (fun q => c1 q.1)
        (have zx1 := @hkd; have zx2 := @hw1; have zx3 := @hw2; have zx4 := @d1; all_goals (try ((first | (with_reducible refine wp_id ?_) | (with_reducible refine does_id ?_) | (with_reducible refine ops_id ?_)); refine walk ?_; (repeat' (first | exact trivial | with_reducible refine And.intro ?_ ?_)); all_goals (repeat (first | (with_reducible refine ImpB.mk fun hb => ?_) | (with_reducible refine ImpK.mk fun hK => ?_) | (with_reducible refine ImpF.mk fun hF => ?_) | (with_reducible refine ImpQ.mk fun hp => ?_) | (with_reducible refine AllE.mk fun p => ?_) | (with_reducible refine AllR.mk fun rest => ?_) | (with_reducible refine AllK.mk fun K => ?_))))); repeat' (with_reducible refine And.intro ?_ ?_))
        (all_goals first | exact Int.natCast_nonneg _ | exact Int.ofNat_lt.2 (by assumption) | assumption | omega | exact Nat.le_refl _ | (exfalso; simp at hb; done) | (simp only [go_sem, decide_true, decide_false, Int.reduceToNat, Nat.min_eq_left, Nat.min_eq_right, Int.reducePow, Nat.reducePow, Int.reduceLE, Int.reduceLT, Int.reduceMul, Int.reduceAdd, Int.reduceSub, Int.reduceNeg, Bool.not_true, Bool.not_false, Bool.not_not, ↓reduceIte, Nat.reduceAdd, Nat.reduceSub, Nat.reduceMul, Nat.reduceEqDiff, reduceCtorEq, Nat.reduceLT, Nat.reduceLeDiff, Nat.reduceGT]; done) | (unfold capM; omega) | (simp only [List.length_drop, List.length_take, List.length_append, List.length_cons, List.length_nil]; omega) | skip)
        all_goals (refine ⟨k + 1, ⟨by first | omega | (dsimp only; omega), by first | omega | (dsimp only; omega)⟩, ?_⟩)
        all_goals (focus (refine ⟨_, _, Gh.refl, [0, 1], rfl, ?_⟩; (refine ⟨?_, ?_, ?_⟩ <;> simp only [go_sem, List.range, List.range.loop, List.nodup_cons, List.nodup_nil, List.mem_cons, List.not_mem_nil, or_false, or_self, decide_true, decide_false, Int.reduceToNat, Nat.min_eq_left, Nat.min_eq_right, Int.reducePow, Nat.reducePow, Int.reduceLE, Int.reduceLT, Int.reduceMul, Int.reduceAdd, Int.reduceSub, Int.reduceNeg, Bool.not_true, Bool.not_false, Bool.not_not, ↓reduceIte, Nat.reduceAdd, Nat.reduceSub, Nat.reduceMul, Nat.reduceEqDiff, reduceCtorEq, Nat.reduceLT, Nat.reduceLeDiff, Nat.reduceGT]); (try any_goals (refine ⟨?_, ?_⟩)); (try any_goals (with_reducible rfl))))
        all_goals first | rfl | exact hn.trans hs | exact (hn.trans hs).symm
    · have hkd : decide ((k : Int) < (m.length : Int)) = false := decide_eq_false (by omega)
      rw [List.take_of_length_le (by omega)] at hw2 hp ⊢
      (have zx1 := @hkd; have zx2 := @hw2; all_goals (try ((first | (with_reducible refine wp_id ?_) | (with_reducible refine does_id ?_) | (with_reducible refine ops_id ?_)); refine walk ?_; (repeat' (first | exact trivial | with_reducible refine And.intro ?_ ?_)); all_goals (repeat (first | (with_reducible refine ImpB.mk fun hb => ?_) | (with_reducible refine ImpK.mk fun hK => ?_) | (with_reducible refine ImpF.mk fun hF => ?_) | (with_reducible refine ImpQ.mk fun hp => ?_) | (with_reducible refine AllE.mk fun p => ?_) | (with_reducible refine AllR.mk fun rest => ?_) | (with_reducible refine AllK.mk fun K => ?_))))); repeat' (with_reducible refine And.intro ?_ ?_))
      all_goals ((focus (refine ⟨_, _, Gh.refl, [], rfl, ?_⟩; (refine ⟨?_, ?_, ?_⟩ <;> simp only [go_sem, List.range, List.range.loop, List.nodup_cons, List.nodup_nil, List.mem_cons, List.not_mem_nil, or_false, or_self, decide_true, decide_false, Int.reduceToNat, Nat.min_eq_left, Nat.min_eq_right, Int.reducePow, Nat.reducePow, Int.reduceLE, Int.reduceLT, Int.reduceMul, Int.reduceAdd, Int.reduceSub, Int.reduceNeg, Bool.not_true, Bool.not_false, Bool.not_not, ↓reduceIte, Nat.reduceAdd, Nat.reduceSub, Nat.reduceMul, Nat.reduceEqDiff, reduceCtorEq, Nat.reduceLT, Nat.reduceLeDiff, Nat.reduceGT]); (try any_goals (refine ⟨?_, ?_⟩)); (try any_goals (with_reducible rfl)))))
      all_goals first | rfl | (unfold plB; rw [decide_eq_true_eq] at hb; exact decide_eq_decide.2 (by omega)) | (unfold plB; (try simp only [decide_eq_true_eq, decide_eq_false_iff_not, Bool.not_eq_true', Bool.not_eq_false', Bool.not_eq_true, Bool.not_eq_false, decide_not, decide_true, decide_false, Bool.decide_and, Bool.and_eq_true, Bool.or_eq_true, Bool.and_eq_false_imp, Decidable.not_not] at *); first | omega | (symm; rw [decide_eq_true_eq]; omega) | (symm; rw [decide_eq_false_iff_not]; omega)) | skip
theorem c_place {h : List Ch} {K : KT} {w : Win} {j : Job} {d : Int} {m : List Slo} {x : AV} (H : K (.tup [.int .i64 (plI w j d m), .bool (plB w j d m)]) h) (b1 : brA [] h (.ro .slo m) x) (s1 : vldW w = true) (s2 : vldJ j = true) (s3 : bdS m) (s4 : 1 ≤ d ∧ d ≤ 2147483648) (s5 : m.length ≤ 1099511627776) : Does Try.prog 40 [.agg [.int .i64 w.st, .int .i64 w.from_, .int .i64 w.to_, .int .i64 w.va], .agg [.int .i64 j.id, .int .i64 j.size, .int .i64 j.ear, .int .i64 j.dl, .int .i64 j.pri], .int .i64 d, x] h K :=
  frame_pure (b_place w j d m s1 s2 s3 s4 s5) (br_cons (br_Win w) (br_cons (br_Job j) (br_cons br_int (br_cons b1 br_nil)))) (.inr rfl) (fun _ => rfl) H
abbrev i_place := Ctr.mk (i := 0) (g := 40) @c_place
attribute [instance] i_place
end Go.V

set_option maxRecDepth 100000
set_option maxHeartbeats 8000000
namespace Go.V
open Go.Proofs
def inB (w : List Win) (l : List Job) (x : Slo) : Prop := (0 ≤ x.job ∧ x.job < l.length) ∧ 0 ≤ x.win ∧ x.win < w.length
instance (w : List Win) (l : List Job) (x : Slo) : Decidable (inB w l x) := by unfold inB; exact inferInstance
def jAt (l : List Job) (x : Slo) : Job := l.getD x.job.toNat Job.zero
def cAt (w : List Win) (x : Slo) : Win := w.getD x.win.toNat Win.zero
def tmB (c : Win) (j : Job) (rate : Int) (x : Slo) : Prop := (c.from_ ≤ x.st ∧ j.ear ≤ x.st) ∧ (x.en ≤ c.to_ ∧ x.en ≤ j.dl) ∧ x.en - x.st = durI j rate
instance (c : Win) (j : Job) (rate : Int) (x : Slo) : Decidable (tmB c j rate x) := by unfold tmB; exact inferInstance
/-- an assignment fits its job and its contact -/
def fitB (w : List Win) (l : List Job) (rate : Int) (x : Slo) : Bool := decide (inB w l x ∧ tmB (cAt w x) (jAt l x) rate x)
theorem us_all {w : List Win} {l : List Job} {rate : Int} {x : Slo} (h : usB w l rate = true) (hi : inB w l x) : (1 ≤ rate ∧ rate ≤ 2147483648) ∧ vldW (cAt w x) = true ∧ vldJ (jAt l x) = true := by
  obtain ⟨h1, h2, h3, h4, h5⟩ := (usB_iff w l rate).1 h
  obtain ⟨⟨a, b⟩, c, d⟩ := hi
  exact ⟨h1, List.all_eq_true.1 h4 _ (getM (by omega)), List.all_eq_true.1 h5 _ (getM (by omega))⟩
theorem b_fits (w : List Win) (l : List Job) (rate : Int) (x : Slo) (hu : usB w l rate = true) (hx1 : IntKind.i64.has x.st) (hx2 : IntKind.i64.has x.en) : DoesK Try.prog 0 31 [.ro .win w, .ro .job l, .int .i64 rate, .agg (SloL x)] [] (EndF 0 (.bool (fitB w l rate x)) []) := by
  refine DoesK.close ?_
  have hsw : SwapAt 3 10 := ⟨⟩
  by_cases hin : inB w l x
  · obtain ⟨hr, hc, hj⟩ := us_all hu hin
    obtain ⟨⟨i1, i2⟩, i3, i4⟩ := id hin
    have d1 : decide (x.job < 0) = false := decide_eq_false (by omega)
    have d2 : decide ((l.length : Int) ≤ x.job) = false := decide_eq_false (by omega)
    have d3 : decide (x.win < 0) = false := decide_eq_false (by omega)
    have d4 : decide ((w.length : Int) ≤ x.win) = false := decide_eq_false (by omega)
    have dd := And.intro d1 (And.intro d2 (And.intro d3 d4))
    have hfe : fitB w l rate x = decide (tmB (cAt w x) (jAt l x) rate x) := decide_eq_decide.2 ⟨fun q => q.2, fun q => ⟨hin, q⟩⟩
    obtain ⟨j, hje⟩ : ∃ j, l.getD x.job.toNat Job.zero = j := ⟨_, rfl⟩
    obtain ⟨c, hce⟩ : ∃ c, w.getD x.win.toNat Win.zero = c := ⟨_, rfl⟩
    have hj' : jAt l x = j := hje
    have hc' : cAt w x = c := hce
    rw [hj'] at hj
    rw [hc'] at hc
    rw [hfe, hj', hc']
    have a1 := (vldW_iff c).1 hc
    have a2 := (vldJ_iff j).1 hj
    have hdb := dur_bd hr a2.1
    refine w_body (rs := [.tmp 8]) (tm := [.ro .win w, .ro .job l, .int .i64 rate, .agg (SloL x), .any, .any, .any, .any, .any, .any, .any, .any, .any, .any, .any, .any, .any, .any, .any, .any, .any, .any, .any, .any, .any, .any, .any, .any, .any, .any, .any, .any, .any, .any, .any, .any, .any, .any, .any, .any, .any, .any, .any, .any, .any, .any, .any, .any, .any, .any, .any, .any, .any, .any, .any, .any, .any, .any, .any, .any, .any, .any, .any, .any, .any, .any, .any, .any, .any, .any, .any, .any, .any, .any, .any, .any, .any, .any, .any]) fn_31 rfl rfl rfl rfl fun R hR => ?_
    (have zx1 := @dd; have zx2 := @hje; have zx3 := @hce; all_goals (try ((first | (with_reducible refine wp_id ?_) | (with_reducible refine does_id ?_) | (with_reducible refine ops_id ?_)); refine walk ?_; (repeat' (first | exact trivial | with_reducible refine And.intro ?_ ?_)); all_goals (repeat (first | (with_reducible refine ImpB.mk fun hb => ?_) | (with_reducible refine ImpK.mk fun hK => ?_) | (with_reducible refine ImpF.mk fun hF => ?_) | (with_reducible refine ImpQ.mk fun hp => ?_) | (with_reducible refine AllE.mk fun p => ?_) | (with_reducible refine AllR.mk fun rest => ?_) | (with_reducible refine AllK.mk fun K => ?_))))); repeat' (with_reducible refine And.intro ?_ ?_))
    all_goals first | exact i1 | exact i2 | exact i3 | exact i4 | skip
    all_goals (try simp only [decide_eq_true_eq, decide_eq_false_iff_not, Bool.not_eq_true', Bool.not_eq_false', Bool.not_eq_true, Bool.not_eq_false, decide_not, decide_true, decide_false, Bool.decide_and, Bool.and_eq_true, Bool.or_eq_true, Bool.and_eq_false_imp, Decidable.not_not] at *)
    all_goals (focus (refine ⟨_, _, Gh.refl, [], rfl, ?_⟩; (refine ⟨?_, ?_, ?_⟩ <;> simp only [go_sem, List.range, List.range.loop, List.nodup_cons, List.nodup_nil, List.mem_cons, List.not_mem_nil, or_false, or_self, decide_true, decide_false, Int.reduceToNat, Nat.min_eq_left, Nat.min_eq_right, Int.reducePow, Nat.reducePow, Int.reduceLE, Int.reduceLT, Int.reduceMul, Int.reduceAdd, Int.reduceSub, Int.reduceNeg, Bool.not_true, Bool.not_false, Bool.not_not, ↓reduceIte, Nat.reduceAdd, Nat.reduceSub, Nat.reduceMul, Nat.reduceEqDiff, reduceCtorEq, Nat.reduceLT, Nat.reduceLeDiff, Nat.reduceGT]); (try any_goals (refine ⟨?_, ?_⟩)); (try any_goals (with_reducible rfl))))
    all_goals first | (refine decide_eq_false ?_; unfold tmB; omega) | (rw [wrap_i64 _ (by omega) (by omega)]; refine decide_eq_decide.2 ?_; unfold tmB; omega) | skip
  · have hf : fitB w l rate x = false := decide_eq_false (fun q => hin q.1)
    rw [hf]
    refine w_body (rs := [.tmp 8]) (tm := [.ro .win w, .ro .job l, .int .i64 rate, .agg (SloL x), .any, .any, .any, .any, .any, .any, .any, .any, .any, .any, .any, .any, .any, .any, .any, .any, .any, .any, .any, .any, .any, .any, .any, .any, .any, .any, .any, .any, .any, .any, .any, .any, .any, .any, .any, .any, .any, .any, .any, .any, .any, .any, .any, .any, .any, .any, .any, .any, .any, .any, .any, .any, .any, .any, .any, .any, .any, .any, .any, .any, .any, .any, .any, .any, .any, .any, .any, .any, .any, .any, .any, .any, .any, .any, .any]) fn_31 rfl rfl rfl rfl fun R hR => ?_
    (all_goals (try ((first | (with_reducible refine wp_id ?_) | (with_reducible refine does_id ?_) | (with_reducible refine ops_id ?_)); refine walk ?_; (repeat' (first | exact trivial | with_reducible refine And.intro ?_ ?_)); all_goals (repeat (first | (with_reducible refine ImpB.mk fun hb => ?_) | (with_reducible refine ImpK.mk fun hK => ?_) | (with_reducible refine ImpF.mk fun hF => ?_) | (with_reducible refine ImpQ.mk fun hp => ?_) | (with_reducible refine AllE.mk fun p => ?_) | (with_reducible refine AllR.mk fun rest => ?_) | (with_reducible refine AllK.mk fun K => ?_))))); repeat' (with_reducible refine And.intro ?_ ?_))
    all_goals first | ((focus (refine ⟨_, _, Gh.refl, [], rfl, ?_⟩; (refine ⟨?_, ?_, ?_⟩ <;> simp only [go_sem, List.range, List.range.loop, List.nodup_cons, List.nodup_nil, List.mem_cons, List.not_mem_nil, or_false, or_self, decide_true, decide_false, Int.reduceToNat, Nat.min_eq_left, Nat.min_eq_right, Int.reducePow, Nat.reducePow, Int.reduceLE, Int.reduceLT, Int.reduceMul, Int.reduceAdd, Int.reduceSub, Int.reduceNeg, Bool.not_true, Bool.not_false, Bool.not_not, ↓reduceIte, Nat.reduceAdd, Nat.reduceSub, Nat.reduceMul, Nat.reduceEqDiff, reduceCtorEq, Nat.reduceLT, Nat.reduceLeDiff, Nat.reduceGT]); (try any_goals (refine ⟨?_, ?_⟩)); (try any_goals (with_reducible rfl)))); done) | (exfalso; unfold inB at hin; (try simp only [decide_eq_true_eq, decide_eq_false_iff_not, Bool.not_eq_true', Bool.not_eq_false', Bool.not_eq_true, Bool.not_eq_false, decide_not, decide_true, decide_false, Bool.decide_and, Bool.and_eq_true, Bool.or_eq_true, Bool.and_eq_false_imp, Decidable.not_not] at *); omega) | skip
theorem c_fits {h : List Ch} {K : KT} {w : List Win} {l : List Job} {rate : Int} {x : Slo} {a b : AV} (H : K (.bool (fitB w l rate x)) h) (b1 : brA [] h (.ro .win w) a) (b2 : brA [] h (.ro .job l) b) (s1 : usB w l rate = true) (s2 : IntKind.i64.has x.st) (s3 : IntKind.i64.has x.en) : Does Try.prog 31 [a, b, .int .i64 rate, .agg [.int .i64 x.job, .int .i64 x.win, .int .i64 x.st, .int .i64 x.en]] h K :=
  frame_pure (b_fits w l rate x s1 s2 s3) (br_cons b1 (br_cons b2 (br_cons br_int (br_cons (br_Slo x) br_nil)))) (.inr rfl) (fun _ => rfl) H
abbrev i_fits := Ctr.mk (i := 0) (g := 31) @c_fits
attribute [instance] i_fits
/-- two assignments get in each other's way -/
def ovB (a b : Slo) : Prop := a.job = b.job ∨ (a.st < b.en ∧ b.st < a.en)
instance (a b : Slo) : Decidable (ovB a b) := by unfold ovB; exact inferInstance
/-- assignments respect contacts, jobs and rate: those ahead of k -/
def chkU (w : List Win) (l : List Job) (rate : Int) (s : List Slo) (k : Nat) : Prop := ∀ i, i < k → fitB w l rate (s.getD i Slo.zero) = true ∧ ∀ j, j < i → ¬ ovB (s.getD i Slo.zero) (s.getD j Slo.zero)
instance (w : List Win) (l : List Job) (rate : Int) (s : List Slo) (k : Nat) : Decidable (chkU w l rate s k) := by unfold chkU; exact inferInstance
def chkB (w : List Win) (l : List Job) (rate : Int) (s : List Slo) : Bool := usB w l rate && decide (chkU w l rate s s.length)
end Go.V
