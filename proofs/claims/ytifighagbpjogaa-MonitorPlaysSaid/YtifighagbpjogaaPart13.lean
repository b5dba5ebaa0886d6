/-
  params: BinarySearch, def, Get, Set, inRange.
-/
import Derived.Test.YtifighagbpjogaaPart12
set_option linter.unusedVariables false
set_option linter.unusedSimpArgs false
set_option maxRecDepth 100000
set_option maxHeartbeats 8000000
namespace Go.V
open Go.Proofs
theorem b_isNaN (x : Int) : DoesK Try.prog 0 50 [.int .i64 x] [] (EndF 0 (.bool false) []) := by
  refine DoesK.close ?_
  refine w_body (rs := [.tmp 2]) (tm := [.int .i64 x, .any, .any, .any, .any, .any]) fn_50 rfl rfl rfl rfl fun R hR => ?_
  (all_goals (try ((with_reducible first | refine wp_id ?_ | refine does_id ?_ | refine ops_id ?_); refine walk ?_; (repeat' (first | exact trivial | with_reducible refine And.intro ?_ ?_)); all_goals (repeat with_reducible first | refine ImpB.mk fun hb => ?_ | refine ImpK.mk fun hK => ?_ | refine ImpF.mk fun hF => ?_ | refine ImpQ.mk fun hp => ?_ | refine AllE.mk fun p => ?_ | refine AllR.mk fun rest => ?_ | refine AllK.mk fun K => ?_))); repeat' (with_reducible refine And.intro ?_ ?_))
  all_goals try (exfalso; simp at hb; done)
  (focus (refine ⟨_, _, Gh.refl, [], rfl, ?_⟩; (refine fitq ?_ ?_ ?_ <;> try exact trivial); (try any_goals (refine ⟨?_, ?_⟩)); (try any_goals (with_reducible rfl))))
theorem c_isNaN {h : List Ch} {K : KT} {x : Int} (H : K (.bool false) h) : Does Try.prog 50 [.int .i64 x] h K :=
  frame_pure (b_isNaN x) (br_cons br_int br_nil) (.inr rfl) (fun _ => rfl) H
abbrev i_isNaN := Ctr.mk (i := 0) (g := 50) @c_isNaN
attribute [instance] i_isNaN
theorem b_isNaN2 (x : Int) : DoesK Try.prog 0 49 [.int .i64 x] [] (EndF 0 (.bool false) []) := by
  refine DoesK.close ?_
  refine w_body (rs := [.tmp 2]) (tm := [.int .i64 x, .any, .any, .any, .any, .any]) fn_49 rfl rfl rfl rfl fun R hR => ?_
  (all_goals (try ((with_reducible first | refine wp_id ?_ | refine does_id ?_ | refine ops_id ?_); refine walk ?_; (repeat' (first | exact trivial | with_reducible refine And.intro ?_ ?_)); all_goals (repeat with_reducible first | refine ImpB.mk fun hb => ?_ | refine ImpK.mk fun hK => ?_ | refine ImpF.mk fun hF => ?_ | refine ImpQ.mk fun hp => ?_ | refine AllE.mk fun p => ?_ | refine AllR.mk fun rest => ?_ | refine AllK.mk fun K => ?_))); repeat' (with_reducible refine And.intro ?_ ?_))
  all_goals try (exfalso; simp at hb; done)
  (focus (refine ⟨_, _, Gh.refl, [], rfl, ?_⟩; (refine fitq ?_ ?_ ?_ <;> try exact trivial); (try any_goals (refine ⟨?_, ?_⟩)); (try any_goals (with_reducible rfl))))
theorem c_isNaN2 {h : List Ch} {K : KT} {x : Int} (H : K (.bool false) h) : Does Try.prog 49 [.int .i64 x] h K :=
  frame_pure (b_isNaN2 x) (br_cons br_int br_nil) (.inr rfl) (fun _ => rfl) H
abbrev i_isNaN2 := Ctr.mk (i := 0) (g := 49) @c_isNaN2
attribute [instance] i_isNaN2
theorem b_less (x y : Int) : DoesK Try.prog 0 48 [.int .i64 x, .int .i64 y] [] (EndF 0 (.bool (decide (x < y))) []) := by
  refine DoesK.close ?_
  refine w_body (rs := [.tmp 4]) (tm := [.int .i64 x, .int .i64 y, .any, .any, .any, .any, .any, .any, .any, .any, .any, .any, .any, .any, .any, .any, .any]) fn_48 rfl rfl rfl rfl fun R hR => ?_
  (all_goals (try ((with_reducible first | refine wp_id ?_ | refine does_id ?_ | refine ops_id ?_); refine walk ?_; (repeat' (first | exact trivial | with_reducible refine And.intro ?_ ?_)); all_goals (repeat with_reducible first | refine ImpB.mk fun hb => ?_ | refine ImpK.mk fun hK => ?_ | refine ImpF.mk fun hF => ?_ | refine ImpQ.mk fun hp => ?_ | refine AllE.mk fun p => ?_ | refine AllR.mk fun rest => ?_ | refine AllK.mk fun K => ?_))); repeat' (with_reducible refine And.intro ?_ ?_))
  (focus (refine ⟨_, _, Gh.refl, [], rfl, ?_⟩; (refine fitq ?_ ?_ ?_ <;> try exact trivial); (try any_goals (refine ⟨?_, ?_⟩)); (try any_goals (with_reducible rfl))))
theorem c_less {h : List Ch} {K : KT} {x y : Int} (H : K (.bool (decide (x < y))) h) : Does Try.prog 48 [.int .i64 x, .int .i64 y] h K :=
  frame_pure (b_less x y) (br_cons br_int (br_cons br_int br_nil)) (.inr rfl) (fun _ => rfl) H
abbrev i_less := Ctr.mk (i := 0) (g := 48) @c_less
attribute [instance] i_less
/-- where a number belongs -/
def bnI (l : List Int) (t : Int) : Nat := (l.takeWhile fun x => decide (x < t)).length
def bnB (l : List Int) (t : Int) : Bool := decide (bnI l t < l.length) && decide (l.getD (bnI l t) 0 = t)
theorem tw_at {α : Type} {p : α → Bool} {z : α} : ∀ {l : List α} {k : Nat}, k ≤ l.length → (∀ i, i < k → p (l.getD i z) = true) → (k < l.length → p (l.getD k z) = false) → (l.takeWhile p).length = k
  | [], k, h, _, _ => by simp at h; subst h; rfl
  | x :: l, 0, _, _, h => by
    have : p x = false := h (Nat.succ_pos _)
    rw [List.takeWhile_cons, this]; rfl
  | x :: l, k + 1, h, h1, h2 => by
    have e : p x = true := h1 0 (Nat.succ_pos _)
    rw [List.takeWhile_cons, e, if_pos rfl, List.length_cons, tw_at (k := k) (by simpa using h) (fun i hi => h1 (i + 1) (by omega)) (fun hk => h2 (by simpa using hk))]
theorem getEq {α : Type} {l : List α} {k : Nat} {z : α} (h : k < l.length) : l.getD k z = l[k] := by rw [List.getD_eq_getElem?_getD, List.getElem?_eq_getElem h]; rfl
theorem srt_at {l : List Int} (h : l.Pairwise (· < ·)) {i j : Nat} (hij : i ≤ j) (hj : j < l.length) : l.getD i 0 ≤ l.getD j 0 := by
  rcases Nat.lt_or_eq_of_le hij with q | rfl
  · have := List.pairwise_iff_getElem.1 h i j (by omega) hj q
    rw [getEq hj, getEq (by omega)]
    omega
  · exact Int.le_refl _
theorem bnI_at {xs : List Int} {t : Int} {i : Nat} (hi : i ≤ xs.length) (h1 : ∀ k, k < i → xs.getD k 0 < t) (h2 : ∀ k, i ≤ k → k < xs.length → t ≤ xs.getD k 0) : bnI xs t = i :=
  tw_at (z := 0) hi (fun k hk => decide_eq_true (h1 k hk)) (fun h => decide_eq_false (by have := h2 i (Nat.le_refl _) h; omega))
theorem b_bs (xs : List Int) (t : Int) (hl : xs.length ≤ 1000000) (hs : xs.Pairwise (· < ·)) : DoesK Try.prog 0 47 [.ro .int xs, .int .i64 t] [] (EndF 0 (.tup [.int .i64 (bnI xs t), .bool (bnB xs t)]) []) := by
  refine DoesK.close ?_
  refine w_body (rs := [.tmp 4, .tmp 5]) (tm := [.ro .int xs, .int .i64 t, .any, .any, .any, .any, .any, .any, .any, .any, .any, .any, .any, .any, .any, .any, .any, .any, .any, .any, .any, .any, .any, .any, .any, .any, .any, .any, .any, .any, .any, .any, .any, .any, .any, .any, .any, .any, .any, .any, .any, .any, .any, .any, .any, .any, .any, .any, .any, .any, .any, .any, .any, .any]) fn_47 rfl rfl rfl rfl fun R hR => ?_
  (all_goals (try ((with_reducible first | refine wp_id ?_ | refine does_id ?_ | refine ops_id ?_); refine walk ?_; (repeat' (first | exact trivial | with_reducible refine And.intro ?_ ?_)); all_goals (repeat with_reducible first | refine ImpB.mk fun hb => ?_ | refine ImpK.mk fun hK => ?_ | refine ImpF.mk fun hF => ?_ | refine ImpQ.mk fun hp => ?_ | refine AllE.mk fun p => ?_ | refine AllR.mk fun rest => ?_ | refine AllK.mk fun K => ?_))); repeat' (with_reducible refine And.intro ?_ ?_))
  any_goals ((try (refine w_seq fun K hK => ?_)); (try (refine w_block ?_)); refine w_loop (A := Nat × Nat) (fun p => p.1 ≤ p.2 ∧ p.2 ≤ xs.length ∧ (∀ k, k < p.1 → xs.getD k 0 < t) ∧ ∀ k, p.2 ≤ k → k < xs.length → t ≤ xs.getD k 0) (fun p => p.2 - p.1) (fun p => [(7, .int .i64 p.1), (8, .int .i64 p.2)]) (fun p => []) ((0, xs.length)) (ws := ?ws1) (tk := ?tk1) ?hw1 ?ht1 ?hi ?h0 ?LH1; (case hw1 => simp only [go_sem, decide_true, decide_false, Int.reduceToNat, Nat.min_eq_left, Nat.min_eq_right, Int.reducePow, Nat.reducePow, Int.reduceLE, Int.reduceLT, Int.reduceMul, Int.reduceAdd, Int.reduceSub, Int.reduceNeg, Bool.not_true, Bool.not_false, Bool.not_not, ↓reduceIte, Nat.reduceAdd, Nat.reduceSub, Nat.reduceMul, Nat.reduceEqDiff, reduceCtorEq, Nat.reduceLT, Nat.reduceLeDiff, Nat.reduceGT]; exact rfl); (case ht1 => simp only [go_sem, decide_true, decide_false, Int.reduceToNat, Nat.min_eq_left, Nat.min_eq_right, Int.reducePow, Nat.reducePow, Int.reduceLE, Int.reduceLT, Int.reduceMul, Int.reduceAdd, Int.reduceSub, Int.reduceNeg, Bool.not_true, Bool.not_false, Bool.not_not, ↓reduceIte, Nat.reduceAdd, Nat.reduceSub, Nat.reduceMul, Nat.reduceEqDiff, reduceCtorEq, Nat.reduceLT, Nat.reduceLeDiff, Nat.reduceGT]; exact rfl); (case' LH1 => rintro ⟨i, j⟩ E t hx hE ht; simp only [go_sem] at ht; subst ht; simp only [go_sem]; try dsimp only at hx))
  case hi => exact ⟨Nat.zero_le _, Nat.le_refl _, fun k hk => absurd hk (Nat.not_lt_zero k), fun k h1 h2 => by dsimp only at h1; omega⟩
  case h0 =>
    (focus (refine ⟨_, _, Gh.refl, [], rfl, ?_⟩; (refine fitq ?_ ?_ ?_ <;> try exact trivial); (try any_goals (refine ⟨?_, ?_⟩)); (try any_goals (with_reducible rfl))))
    all_goals rfl
  case LH1 =>
    obtain ⟨h1, h2, h3, h4⟩ := hx
    have h1' : i ≤ j := h1
    have h2' : j ≤ xs.length := h2
    by_cases hij : i < j
    · have d1 : decide ((i : Int) < (j : Int)) = true := decide_eq_true (by omega)
      obtain ⟨m, hm⟩ : ∃ m : Nat, (i + j) / 2 = m := ⟨_, rfl⟩
      have w1 : IntKind.i64.wrap ((i : Int) + (j : Int)) = ((i + j : Nat) : Int) := by rw [wrap_i64 _ (by omega) (by omega)]; omega
      have w2 : IntKind.u64.wrap ((i + j : Nat) : Int) = ((i + j : Nat) : Int) := by rw [wrap_u64]; omega
      have w3 : Int.fdiv ((i + j : Nat) : Int) 2 = (m : Int) := by rw [Int.fdiv_eq_ediv_of_nonneg _ (by omega)]; omega
      have w4 : IntKind.i64.wrap (m : Int) = (m : Int) := wrap_i64 _ (by omega) (by omega)
      have w5 : IntKind.i64.wrap ((m : Int) + 1) = ((m + 1 : Nat) : Int) := by rw [wrap_i64 _ (by omega) (by omega)]; omega
      by_cases c2 : xs.getD m 0 < t
      · have d2 : decide (xs.getD m 0 < t) = true := decide_eq_true c2
        (have zx1 := @d1; have zx2 := @w1; have zx3 := @w2; have zx4 := @w3; have zx5 := @w4; have zx6 := @w5; have zx7 := @d2; all_goals (try ((with_reducible first | refine wp_id ?_ | refine does_id ?_ | refine ops_id ?_); refine walk ?_; (repeat' (first | exact trivial | with_reducible refine And.intro ?_ ?_)); all_goals (repeat with_reducible first | refine ImpB.mk fun hb => ?_ | refine ImpK.mk fun hK => ?_ | refine ImpF.mk fun hF => ?_ | refine ImpQ.mk fun hp => ?_ | refine AllE.mk fun p => ?_ | refine AllR.mk fun rest => ?_ | refine AllK.mk fun K => ?_))); repeat' (with_reducible refine And.intro ?_ ?_))
        all_goals (try (exfalso; rw [d2] at hb; cases hb; done))
        all_goals first | (show _ ≤ (_ : Int); omega) | (show _ < (_ : Int); omega) | skip
        refine ⟨(m + 1, j), ⟨⟨by dsimp only; omega, h2', fun k hk => ?_, h4⟩, by dsimp only; omega⟩, ?_⟩
        · have hk' : k < m + 1 := hk
          have := srt_at hs (i := k) (j := m) (by omega) (by omega)
          omega
        · (focus (refine ⟨_, _, Gh.refl, [], rfl, ?_⟩; (refine fitq ?_ ?_ ?_ <;> try exact trivial); (try any_goals (refine ⟨?_, ?_⟩)); (try any_goals (with_reducible rfl))))
      · have d2 : decide (xs.getD m 0 < t) = false := decide_eq_false c2
        (have zx1 := @d1; have zx2 := @w1; have zx3 := @w2; have zx4 := @w3; have zx5 := @w4; have zx6 := @w5; have zx7 := @d2; all_goals (try ((with_reducible first | refine wp_id ?_ | refine does_id ?_ | refine ops_id ?_); refine walk ?_; (repeat' (first | exact trivial | with_reducible refine And.intro ?_ ?_)); all_goals (repeat with_reducible first | refine ImpB.mk fun hb => ?_ | refine ImpK.mk fun hK => ?_ | refine ImpF.mk fun hF => ?_ | refine ImpQ.mk fun hp => ?_ | refine AllE.mk fun p => ?_ | refine AllR.mk fun rest => ?_ | refine AllK.mk fun K => ?_))); repeat' (with_reducible refine And.intro ?_ ?_))
        all_goals (try (exfalso; rw [d2] at hb; cases hb; done))
        all_goals first | (show _ ≤ (_ : Int); omega) | (show _ < (_ : Int); omega) | skip
        refine ⟨(i, m), ⟨⟨by dsimp only; omega, by dsimp only; omega, h3, fun k hk1 hk2 => ?_⟩, by dsimp only; omega⟩, ?_⟩
        · have hk' : m ≤ k := hk1
          have := srt_at hs (i := m) (j := k) hk' hk2
          omega
        · (focus (refine ⟨_, _, Gh.refl, [], rfl, ?_⟩; (refine fitq ?_ ?_ ?_ <;> try exact trivial); (try any_goals (refine ⟨?_, ?_⟩)); (try any_goals (with_reducible rfl))))
    · have d1 : decide ((i : Int) < (j : Int)) = false := decide_eq_false (by omega)
      obtain rfl : i = j := by omega
      have hb1 := bnI_at h2' h3 h4
      have hq : bnB xs t = (decide (i < xs.length) && decide (xs.getD i 0 = t)) := by unfold bnB; rw [hb1]
      by_cases c3 : i < xs.length
      · have d3 : decide ((i : Int) < (xs.length : Int)) = true := decide_eq_true (by omega)
        rw [decide_eq_true c3, Bool.true_and] at hq
        by_cases c4 : xs.getD i 0 = t
        · have d4 : decide (xs.getD i 0 = t) = true := decide_eq_true c4
          rw [d4] at hq
          (have zx1 := @d1; have zx2 := @d3; have zx3 := @d4; all_goals (try ((with_reducible first | refine wp_id ?_ | refine does_id ?_ | refine ops_id ?_); refine walk ?_; (repeat' (first | exact trivial | with_reducible refine And.intro ?_ ?_)); all_goals (repeat with_reducible first | refine ImpB.mk fun hb => ?_ | refine ImpK.mk fun hK => ?_ | refine ImpF.mk fun hF => ?_ | refine ImpQ.mk fun hp => ?_ | refine AllE.mk fun p => ?_ | refine AllR.mk fun rest => ?_ | refine AllK.mk fun K => ?_))); repeat' (with_reducible refine And.intro ?_ ?_))
          all_goals first | (show _ ≤ (_ : Int); omega) | (show _ < (_ : Int); omega) | skip
          rw [hb1, hq]
          (focus (refine ⟨_, _, Gh.refl, [], rfl, ?_⟩; (refine fitq ?_ ?_ ?_ <;> try exact trivial); (try any_goals (refine ⟨?_, ?_⟩)); (try any_goals (with_reducible rfl))))
        · have d4 : decide (xs.getD i 0 = t) = false := decide_eq_false c4
          rw [d4] at hq
          (have zx1 := @d1; have zx2 := @d3; have zx3 := @d4; all_goals (try ((with_reducible first | refine wp_id ?_ | refine does_id ?_ | refine ops_id ?_); refine walk ?_; (repeat' (first | exact trivial | with_reducible refine And.intro ?_ ?_)); all_goals (repeat with_reducible first | refine ImpB.mk fun hb => ?_ | refine ImpK.mk fun hK => ?_ | refine ImpF.mk fun hF => ?_ | refine ImpQ.mk fun hp => ?_ | refine AllE.mk fun p => ?_ | refine AllR.mk fun rest => ?_ | refine AllK.mk fun K => ?_))); repeat' (with_reducible refine And.intro ?_ ?_))
          all_goals first | (show _ ≤ (_ : Int); omega) | (show _ < (_ : Int); omega) | skip
          rw [hb1, hq]
          (focus (refine ⟨_, _, Gh.refl, [], rfl, ?_⟩; (refine fitq ?_ ?_ ?_ <;> try exact trivial); (try any_goals (refine ⟨?_, ?_⟩)); (try any_goals (with_reducible rfl))))
      · have d3 : decide ((i : Int) < (xs.length : Int)) = false := decide_eq_false (by omega)
        rw [decide_eq_false c3, Bool.false_and] at hq
        (have zx1 := @d1; have zx2 := @d3; all_goals (try ((with_reducible first | refine wp_id ?_ | refine does_id ?_ | refine ops_id ?_); refine walk ?_; (repeat' (first | exact trivial | with_reducible refine And.intro ?_ ?_)); all_goals (repeat with_reducible first | refine ImpB.mk fun hb => ?_ | refine ImpK.mk fun hK => ?_ | refine ImpF.mk fun hF => ?_ | refine ImpQ.mk fun hp => ?_ | refine AllE.mk fun p => ?_ | refine AllR.mk fun rest => ?_ | refine AllK.mk fun K => ?_))); repeat' (with_reducible refine And.intro ?_ ?_))
        rw [hb1, hq]
        (focus (refine ⟨_, _, Gh.refl, [], rfl, ?_⟩; (refine fitq ?_ ?_ ?_ <;> try exact trivial); (try any_goals (refine ⟨?_, ?_⟩)); (try any_goals (with_reducible rfl))))
theorem c_bs {h : List Ch} {K : KT} {xs : List Int} {t : Int} {a : AV} (H : K (.tup [.int .i64 (bnI xs t), .bool (bnB xs t)]) h) (b1 : brA [] h (.ro .int xs) a) (s1 : xs.length ≤ 1000000) (s2 : xs.Pairwise (· < ·)) : Does Try.prog 47 [a, .int .i64 t] h K := -- nocall
  frame_pure (b_bs xs t s1 s2) (br_cons b1 (br_cons br_int br_nil)) (.inr rfl) (fun _ => rfl) H
/-- in own rows, with what it finds -/
theorem c_bs_s {h : List Ch} {K : KT} {xs : List Int} {t : Int} {u n : Nat} {i : Nat} {b : Bool} (H : K (.tup [.int .i64 i, .bool b]) h) (o : hth h u = .rows .int xs) (e : (bnI xs t, bnB xs t) = (i, b)) (s1 : n = xs.length) (s2 : xs.length ≤ 1000000) (s3 : xs.Pairwise (· < ·)) : Does Try.prog 47 [.sl u .int 0 n, .int .i64 t] h K := by
  simp only [Prod.mk.injEq] at e
  refine c_bs ?_ (br_full o s1 (by simp)) s2 s3
  rw [e.1, e.2]
  exact H
abbrev i_bs_s := Ctr.mk (i := 0) (g := 47) @c_bs_s
attribute [instance] i_bs_s
/-- a pool, open -/
theorem k_tfind {n0 : Nat} {h : List Ch} {K : KT} {u a b n n2 : Nat} {xs : List Int} {t : Int} {i : Nat} {w : Bool} (o : hth h u = .cells [.bool true, .sl a .int 0 n, .sl b .pdf 0 n2]) (o1 : hth h a = .rows .int xs) (e : (bnI xs t, bnB xs t) = (i, w)) (s1 : n = xs.length) (s2 : xs.length ≤ 1000000) (s3 : xs.Pairwise (· < ·)) (H : K (.tup [.int .i64 i, .bool w]) h) : DoesK Try.prog n0 42 [.ptr u 1, .int .i64 t] h K := by
  refine w_body (rs := [.tmp 4, .tmp 5]) (tm := [.ptr u 1, .int .i64 t, .any, .any, .any, .any, .any, .any, .any, .any, .any, .any, .any, .any]) fn_42 rfl rfl rfl rfl fun R hR => ?_
  (have zx1 := @o; have zx2 := @o1; all_goals (try ((with_reducible first | refine wp_id ?_ | refine does_id ?_ | refine ops_id ?_); refine walk ?_; (repeat' (first | exact trivial | with_reducible refine And.intro ?_ ?_)); all_goals (repeat with_reducible first | refine ImpB.mk fun hb => ?_ | refine ImpK.mk fun hK => ?_ | refine ImpF.mk fun hF => ?_ | refine ImpQ.mk fun hp => ?_ | refine AllE.mk fun p => ?_ | refine AllR.mk fun rest => ?_ | refine AllK.mk fun K => ?_))); repeat' (with_reducible refine And.intro ?_ ?_))
  exact H
theorem c_tfind {h : List Ch} {K : KT} {u a b n n2 : Nat} {xs : List Int} {t : Int} {i : Nat} {w : Bool} (H : K (.tup [.int .i64 i, .bool w]) h) (o : hth h u = .cells [.bool true, .sl a .int 0 n, .sl b .pdf 0 n2]) (o1 : hth h a = .rows .int xs) (e : (bnI xs t, bnB xs t) = (i, w)) (s1 : n = xs.length) (s2 : xs.length ≤ 1000000) (s3 : xs.Pairwise (· < ·)) : Does Try.prog 42 [.ptr u 1, .int .i64 t] h K :=
  Does.of_K (k_tfind o o1 e s1 s2 s3 H)
abbrev i_tfind := Ctr.mk (i := 0) (g := 42) @c_tfind
attribute [instance] i_tfind
theorem b_usable {n0 : Nat} {h : List Ch} {K : KT} {u a b n n2 : Nat} (o : hth h u = .cells [.bool true, .sl a .int 0 n, .sl b .pdf 0 n2]) (H : K (.bool true) h) : DoesK Try.prog n0 41 [.ptr u 0] h K := by
  refine w_body (rs := [.tmp 2]) (tm := [.ptr u 0, .any, .any, .any, .any, .any, .any, .any, .any, .any, .any]) fn_41 rfl rfl rfl rfl fun R hR => ?_
  (have zx1 := @o; all_goals (try ((with_reducible first | refine wp_id ?_ | refine does_id ?_ | refine ops_id ?_); refine walk ?_; (repeat' (first | exact trivial | with_reducible refine And.intro ?_ ?_)); all_goals (repeat with_reducible first | refine ImpB.mk fun hb => ?_ | refine ImpK.mk fun hK => ?_ | refine ImpF.mk fun hF => ?_ | refine ImpQ.mk fun hp => ?_ | refine AllE.mk fun p => ?_ | refine AllR.mk fun rest => ?_ | refine AllK.mk fun K => ?_))); repeat' (with_reducible refine And.intro ?_ ?_))
  exact H
theorem c_usable {h : List Ch} {K : KT} {u a b n n2 : Nat} (H : K (.bool true) h) (o : hth h u = .cells [.bool true, .sl a .int 0 n, .sl b .pdf 0 n2]) : Does Try.prog 41 [.ptr u 0] h K := Does.of_K (b_usable o H)
abbrev i_usable := Ctr.mk (i := 0) (g := 41) @c_usable
attribute [instance] i_usable
theorem k_def {n0 : Nat} {h : List Ch} {K : KT} {u a b n n2 : Nat} {xs : List Int} {vs : List Pdf} {t : Int} {i : Nat} (o : hth h u = .cells [.bool true, .sl a .int 0 n, .sl b .pdf 0 n2]) (o1 : hth h a = .rows .int xs) (o2 : hth h b = .rows .pdf vs) (e : (bnI xs t, bnB xs t) = (i, true)) (s1 : n = xs.length) (s2 : xs.length ≤ 1000000) (s3 : xs.Pairwise (· < ·)) (s4 : n2 = vs.length) (s5 : i < vs.length) (H : K (.tup [.ep b .pdf i 0, .int .i64 0]) h) : DoesK Try.prog n0 27 [.ptr u 0, .int .i64 t] h K := by
  have hi : (i : Int) < n2 := by omega
  refine w_body (rs := [.tmp 4, .tmp 5]) (tm := [.ptr u 0, .int .i64 t, .any, .any, .any, .any, .any, .any, .any, .any, .any, .any, .any, .any, .any, .any, .any, .any, .any, .any, .any, .any, .any, .any, .any, .any, .any, .any]) fn_27 rfl rfl rfl rfl fun R hR => ?_
  (have zx1 := @o; have zx2 := @o1; all_goals (try ((with_reducible first | refine wp_id ?_ | refine does_id ?_ | refine ops_id ?_); refine walk ?_; (repeat' (first | exact trivial | with_reducible refine And.intro ?_ ?_)); all_goals (repeat with_reducible first | refine ImpB.mk fun hb => ?_ | refine ImpK.mk fun hK => ?_ | refine ImpF.mk fun hF => ?_ | refine ImpQ.mk fun hp => ?_ | refine AllE.mk fun p => ?_ | refine AllR.mk fun rest => ?_ | refine AllK.mk fun K => ?_))); repeat' (with_reducible refine And.intro ?_ ?_))
  · exact Int.natCast_nonneg _
  · exact hi
  · exact H
theorem c_def {h : List Ch} {K : KT} {u a b n n2 : Nat} {xs : List Int} {vs : List Pdf} {t : Int} {i : Nat} (H : K (.tup [.ep b .pdf i 0, .int .i64 0]) h) (o : hth h u = .cells [.bool true, .sl a .int 0 n, .sl b .pdf 0 n2]) (o1 : hth h a = .rows .int xs) (o2 : hth h b = .rows .pdf vs) (e : (bnI xs t, bnB xs t) = (i, true)) (s1 : n = xs.length) (s2 : xs.length ≤ 1000000) (s3 : xs.Pairwise (· < ·)) (s4 : n2 = vs.length) (s5 : i < vs.length) : Does Try.prog 27 [.ptr u 0, .int .i64 t] h K :=
  Does.of_K (k_def o o1 o2 e s1 s2 s3 s4 s5 H)
abbrev i_def := Ctr.mk (i := 0) (g := 27) @c_def
attribute [instance] i_def
/-- a pool as it lies -/
def PL (ids : List Int) (vs : List Pdf) : List Ch := [.cells [.bool true, .sl 1 .int 0 ids.length, .sl 2 .pdf 0 vs.length], .rows .int ids, .rows .pdf vs]
attribute [go_sem] PL
abbrev pdL (x : Pdf) : List AV := [.int .i64 x.id, .int .i64 x.width, .bool x.signed, .int .i64 x.value]
def inS (v : Int) : Bool := decide (-2147483648 ≤ v) && decide (v < 2147483648)
theorem b_inS (i w v : Int) : DoesK Try.prog 0 28 [.agg [.int .i64 i, .int .i64 32, .bool true, .int .i64 w], .int .i64 v] [] (EndF 0 (.bool (inS v)) []) := by
  refine DoesK.close ?_
  unfold inS
  have w1 : IntKind.i64.wrap 31 = 31 := by decide
  have w2 : IntKind.i64.wrap 2147483648 = 2147483648 := by decide
  have w3 : IntKind.i64.wrap (-2147483648) = -2147483648 := by decide
  refine w_body (rs := [.tmp 4]) (tm := [.agg [.int .i64 i, .int .i64 32, .bool true, .int .i64 w], .int .i64 v, .any, .any, .any, .any, .any, .any, .any, .any, .any, .any, .any, .any, .any, .any, .any, .any, .any, .any, .any, .any, .any, .any, .any, .any, .any, .any, .any, .any]) fn_28 rfl rfl rfl rfl fun R hR => ?_
  (have zx1 := @w1; have zx2 := @w2; have zx3 := @w3; all_goals (try ((with_reducible first | refine wp_id ?_ | refine does_id ?_ | refine ops_id ?_); refine walk ?_; (repeat' (first | exact trivial | with_reducible refine And.intro ?_ ?_)); all_goals (repeat with_reducible first | refine ImpB.mk fun hb => ?_ | refine ImpK.mk fun hK => ?_ | refine ImpF.mk fun hF => ?_ | refine ImpQ.mk fun hp => ?_ | refine AllE.mk fun p => ?_ | refine AllR.mk fun rest => ?_ | refine AllK.mk fun K => ?_))); repeat' (with_reducible refine And.intro ?_ ?_))
  all_goals
    (focus (refine ⟨_, _, Gh.refl, [], rfl, ?_⟩; (refine fitq ?_ ?_ ?_ <;> try exact trivial); (try any_goals (refine ⟨?_, ?_⟩)); (try any_goals (with_reducible rfl))))
    simp [*]
theorem c_inS {h : List Ch} {K : KT} {i w v : Int} (H : K (.bool (inS v)) h) : Does Try.prog 28 [.agg [.int .i64 i, .int .i64 32, .bool true, .int .i64 w], .int .i64 v] h K :=
  frame_pure (b_inS i w v) (br_cons (br_agg (br_cons br_int (br_cons br_int (br_cons br_bool (br_cons br_int br_nil))))) (br_cons br_int br_nil)) (.inr rfl) (fun _ => rfl) H
abbrev i_inS := Ctr.mk (i := 0) (g := 28) @c_inS
attribute [instance] i_inS
theorem b_inU32 (i : Int) : DoesK Try.prog 0 28 [.agg [.int .i64 i, .int .i64 32, .bool false, .int .i64 0], .int .i64 0] [] (EndF 0 (.bool true) []) := by
  refine DoesK.close ?_
  have hw : decide ((0 : Int) < IntKind.i64.wrap 4294967296) = true := by decide
  refine w_body (rs := [.tmp 4]) (tm := [.agg [.int .i64 i, .int .i64 32, .bool false, .int .i64 0], .int .i64 0, .any, .any, .any, .any, .any, .any, .any, .any, .any, .any, .any, .any, .any, .any, .any, .any, .any, .any, .any, .any, .any, .any, .any, .any, .any, .any, .any, .any]) fn_28 rfl rfl rfl rfl fun R hR => ?_
  (have zx1 := @hw; all_goals (try ((with_reducible first | refine wp_id ?_ | refine does_id ?_ | refine ops_id ?_); refine walk ?_; (repeat' (first | exact trivial | with_reducible refine And.intro ?_ ?_)); all_goals (repeat with_reducible first | refine ImpB.mk fun hb => ?_ | refine ImpK.mk fun hK => ?_ | refine ImpF.mk fun hF => ?_ | refine ImpQ.mk fun hp => ?_ | refine AllE.mk fun p => ?_ | refine AllR.mk fun rest => ?_ | refine AllK.mk fun K => ?_))); repeat' (with_reducible refine And.intro ?_ ?_))
  (focus (refine ⟨_, _, Gh.refl, [], rfl, ?_⟩; (refine fitq ?_ ?_ ?_ <;> try exact trivial); (try any_goals (refine ⟨?_, ?_⟩)); (try any_goals (with_reducible rfl))))
theorem c_inU32 {h : List Ch} {K : KT} {i : Int} (H : K (.bool true) h) : Does Try.prog 28 [.agg [.int .i64 i, .int .i64 32, .bool false, .int .i64 0], .int .i64 0] h K :=
  frame_pure (b_inU32 i) (br_cons (br_agg (br_cons br_int (br_cons br_int (br_cons br_bool (br_cons br_int br_nil))))) (br_cons br_int br_nil)) (.inr rfl) (fun _ => rfl) H
abbrev i_inU32 := Ctr.mk (i := 1) (g := 28) @c_inU32
attribute [instance] i_inU32
theorem b_inU8 (i : Int) : DoesK Try.prog 0 28 [.agg [.int .i64 i, .int .i64 8, .bool false, .int .i64 0], .int .i64 0] [] (EndF 0 (.bool true) []) := by
  refine DoesK.close ?_
  have hw : decide ((0 : Int) < IntKind.i64.wrap 256) = true := by decide
  refine w_body (rs := [.tmp 4]) (tm := [.agg [.int .i64 i, .int .i64 8, .bool false, .int .i64 0], .int .i64 0, .any, .any, .any, .any, .any, .any, .any, .any, .any, .any, .any, .any, .any, .any, .any, .any, .any, .any, .any, .any, .any, .any, .any, .any, .any, .any, .any, .any]) fn_28 rfl rfl rfl rfl fun R hR => ?_
  (have zx1 := @hw; all_goals (try ((with_reducible first | refine wp_id ?_ | refine does_id ?_ | refine ops_id ?_); refine walk ?_; (repeat' (first | exact trivial | with_reducible refine And.intro ?_ ?_)); all_goals (repeat with_reducible first | refine ImpB.mk fun hb => ?_ | refine ImpK.mk fun hK => ?_ | refine ImpF.mk fun hF => ?_ | refine ImpQ.mk fun hp => ?_ | refine AllE.mk fun p => ?_ | refine AllR.mk fun rest => ?_ | refine AllK.mk fun K => ?_))); repeat' (with_reducible refine And.intro ?_ ?_))
  (focus (refine ⟨_, _, Gh.refl, [], rfl, ?_⟩; (refine fitq ?_ ?_ ?_ <;> try exact trivial); (try any_goals (refine ⟨?_, ?_⟩)); (try any_goals (with_reducible rfl))))
theorem c_inU8 {h : List Ch} {K : KT} {i : Int} (H : K (.bool true) h) : Does Try.prog 28 [.agg [.int .i64 i, .int .i64 8, .bool false, .int .i64 0], .int .i64 0] h K :=
  frame_pure (b_inU8 i) (br_cons (br_agg (br_cons br_int (br_cons br_int (br_cons br_bool (br_cons br_int br_nil))))) (br_cons br_int br_nil)) (.inr rfl) (fun _ => rfl) H
abbrev i_inU8 := Ctr.mk (i := 2) (g := 28) @c_inU8
attribute [instance] i_inU8
theorem b_get (xs : List Int) (vs : List Pdf) (t : Int) (i : Nat) (e : (bnI xs t, bnB xs t) = (i, true)) (s2 : xs.length ≤ 1000000) (s3 : xs.Pairwise (· < ·)) (s5 : i < vs.length) : DoesK Try.prog 1 29 [.ptr 0 0, .int .i64 t] [.pack (PL xs vs)] (EndF 1 (.tup [.int .i64 (vs.getD i Pdf.zero).value, .int .i64 0]) ([.pack (PL xs vs)] ++ [])) := by
  refine DoesK.close ?_
  have hz : decide (¬ (0 : Int) = 0) = false := by decide
  refine w_body (rs := [.tmp 4, .tmp 5]) (tm := [.ptr 0 0, .int .i64 t, .any, .any, .any, .any, .any, .any, .any, .any, .any, .any, .any, .any, .any, .any, .any, .any, .any, .any, .any]) fn_29 rfl rfl rfl rfl fun R hR => ?_
  refine w_open 0 rfl rfl ?_
  simp only [go_sem, decide_true, decide_false, Int.reduceToNat, Nat.min_eq_left, Nat.min_eq_right, Int.reducePow, Nat.reducePow, Int.reduceLE, Int.reduceLT, Int.reduceMul, Int.reduceAdd, Int.reduceSub, Int.reduceNeg, Bool.not_true, Bool.not_false, Bool.not_not, ↓reduceIte, Nat.reduceAdd, Nat.reduceSub, Nat.reduceMul, Nat.reduceEqDiff, reduceCtorEq, Nat.reduceLT, Nat.reduceLeDiff, Nat.reduceGT]
  (have zx1 := @hz; all_goals (try ((with_reducible first | refine wp_id ?_ | refine does_id ?_ | refine ops_id ?_); refine walk ?_; (repeat' (first | exact trivial | with_reducible refine And.intro ?_ ?_)); all_goals (repeat with_reducible first | refine ImpB.mk fun hb => ?_ | refine ImpK.mk fun hK => ?_ | refine ImpF.mk fun hF => ?_ | refine ImpQ.mk fun hp => ?_ | refine AllE.mk fun p => ?_ | refine AllR.mk fun rest => ?_ | refine AllK.mk fun K => ?_))); repeat' (with_reducible refine And.intro ?_ ?_))
  · exact s5
  · (focus (refine ⟨_, _, gh_close (t := 0) (ts := [1, 2]) (l := PL xs vs) ⟨⟨_, _, rfl⟩, ?_, by simp⟩, [0], rfl, ?_⟩; all_goals (refine fitq ?_ ?_ ?_ <;> try exact trivial); (try any_goals (refine ⟨?_, ?_⟩)); (try any_goals (with_reducible rfl))))
    all_goals (repeat' (first | (refine And.intro ?_ ?_) | rfl))
theorem b_set (xs : List Int) (vs : List Pdf) (t v : Int) (i : Nat) (x1 x4 : Int) (e : (bnI xs t, bnB xs t) = (i, true)) (s2 : xs.length ≤ 1000000) (s3 : xs.Pairwise (· < ·)) (s5 : i < vs.length) (hx : vs.getD i Pdf.zero = ⟨x1, 32, true, x4⟩) (hv : inS v = true) : DoesK Try.prog 1 11 [.ptr 0 0, .int .i64 t, .int .i64 v] [.pack (PL xs vs)] (EndF 1 (.int .i64 0) ([.pack (PL xs (vs.set i ⟨x1, 32, true, v⟩))] ++ [])) := by
  refine DoesK.close ?_
  have hz : decide (¬ (0 : Int) = 0) = false := by decide
  refine w_body (rs := [.tmp 6]) (tm := [.ptr 0 0, .int .i64 t, .int .i64 v, .any, .any, .any, .any, .any, .any, .any, .any, .any, .any, .any, .any, .any, .any, .any, .any, .any, .any, .any, .any, .any, .any, .any, .any, .any]) fn_11 rfl rfl rfl rfl fun R hR => ?_
  refine w_open 0 rfl rfl ?_
  simp only [go_sem, decide_true, decide_false, Int.reduceToNat, Nat.min_eq_left, Nat.min_eq_right, Int.reducePow, Nat.reducePow, Int.reduceLE, Int.reduceLT, Int.reduceMul, Int.reduceAdd, Int.reduceSub, Int.reduceNeg, Bool.not_true, Bool.not_false, Bool.not_not, ↓reduceIte, Nat.reduceAdd, Nat.reduceSub, Nat.reduceMul, Nat.reduceEqDiff, reduceCtorEq, Nat.reduceLT, Nat.reduceLeDiff, Nat.reduceGT]
  (have zx1 := @hz; have zx2 := @hx; have zx3 := @hv; all_goals (try ((with_reducible first | refine wp_id ?_ | refine does_id ?_ | refine ops_id ?_); refine walk ?_; (repeat' (first | exact trivial | with_reducible refine And.intro ?_ ?_)); all_goals (repeat with_reducible first | refine ImpB.mk fun hb => ?_ | refine ImpK.mk fun hK => ?_ | refine ImpF.mk fun hF => ?_ | refine ImpQ.mk fun hp => ?_ | refine AllE.mk fun p => ?_ | refine AllR.mk fun rest => ?_ | refine AllK.mk fun K => ?_))); repeat' (with_reducible refine And.intro ?_ ?_))
  · exact s5
  · (focus (refine ⟨_, _, gh_close (t := 0) (ts := [1, 2]) (l := PL xs (vs.set i ⟨x1, 32, true, v⟩)) ⟨⟨_, _, rfl⟩, ?_, by simp⟩, [0], rfl, ?_⟩; all_goals (refine fitq ?_ ?_ ?_ <;> try exact trivial); (try any_goals (refine ⟨?_, ?_⟩)); (try any_goals (with_reducible rfl))))
    all_goals (repeat' (first | (refine And.intro ?_ ?_) | rfl | (rw [List.length_set])))
/-- the pool of the laws -/
def pvP (a b : Int) : List Pdf := [⟨0, 32, true, a⟩, ⟨1, 32, true, b⟩, ⟨2, 32, false, 0⟩, ⟨3, 8, false, 0⟩]
def idP : List Int := [0, 1, 2, 3]
theorem idP_srt : idP.Pairwise (· < ·) := by decide
def PO (a b : Int) : List Ch := PL idP (pvP a b)
theorem c_get1 {h : List Ch} {K : KT} {u : Nat} {a b : Int} (H : K (.tup [.int .i64 b, .int .i64 0]) h) (o : hth h u = .pack (PO a b)) : Does Try.prog 29 [.ptr u 0, .int .i64 1] h K :=
  frame_look (b_get idP (pvP a b) 1 1 rfl (by decide) idP_srt (by show 1 < 4; omega)) o (by simp) (fitC_pack _) (br_cons (br_ptr rfl) (br_cons br_int br_nil)) (.inl rfl) (fun _ => rfl) rfl H
abbrev i_get1 := Ctr.mk (i := 0) (g := 29) @c_get1
attribute [instance] i_get1
theorem c_set1 {h : List Ch} {K : KT} {u : Nat} {a b v : Int} (H : K (.int .i64 0) (h.set u (.pack (PO a v)))) (o : hth h u = .pack (PO a b)) (e : inS v = true) : Does Try.prog 11 [.ptr u 0, .int .i64 1, .int .i64 v] h K :=
  frame_obj0 (b_set idP (pvP a b) 1 v 1 1 b rfl (by decide) idP_srt (by show 1 < 4; omega) rfl e) o (by simp) (fitC_pack _) (br_cons (br_ptr rfl) (br_cons br_int (br_cons br_int br_nil))) (.inl rfl) (fun _ => rfl) rfl H
abbrev i_set1 := Ctr.mk (i := 0) (g := 11) @c_set1
attribute [instance] i_set1
end Go.V
