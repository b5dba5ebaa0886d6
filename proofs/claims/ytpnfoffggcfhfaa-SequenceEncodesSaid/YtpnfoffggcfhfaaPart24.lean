/-
  ints, small, Same, same.
  The pool of three parameters; ping.
  The engine, folded; what holds of the examples.
-/
import Derived.Test.YtpnfoffggcfhfaaPart23
set_option linter.unusedVariables false
set_option linter.unusedSimpArgs false
set_option maxRecDepth 100000
set_option maxHeartbeats 8000000
namespace Go.V
open Go.Proofs
theorem getM2 {α : Type} {l : List α} {k : Nat} {z : α} (h : k < l.length) : l.getD k z ∈ l := by
  rw [List.getD_eq_getElem?_getD, List.getElem?_eq_getElem h]; exact List.getElem_mem h
theorem int_ext {a b : List Int} (hl : a.length = b.length) (h : ∀ j, j < a.length → a.getD j 0 = b.getD j 0) : a = b := by
  apply List.ext_getElem hl
  intro j h1 h2
  have := h j h1
  rw [List.getD_eq_getElem?_getD, List.getD_eq_getElem?_getD, List.getElem?_eq_getElem h1, List.getElem?_eq_getElem h2] at this
  exact this
theorem b_ints (a b : List Int) (ha : a.length ≤ 9223372036854775807) (hb : b.length ≤ 9223372036854775807) : DoesK Try.prog 0 15 [.ro .int a, .ro .int b] [] (EndF 0 (.bool (decide (a = b))) []) := by
  refine DoesK.close ?_
  by_cases hl : a.length = b.length
  · have d0 : decide ((a.length : Int) = b.length) = true := decide_eq_true (by omega)
    have d1 : decide (¬ (a.length : Int) = b.length) = false := decide_eq_false (by omega)
    refine w_body (rs := [.tmp 4]) (tm := [.ro .int a, .ro .int b, .any, .any, .any, .any, .any, .any, .any, .any, .any, .any, .any, .any, .any, .any, .any, .any, .any, .any, .any, .any, .any, .any, .any, .any]) fn_15 rfl rfl rfl rfl fun R hR => ?_
    (have zx1 := @d0; have zx2 := @d1; all_goals (try ((first | (with_reducible refine wp_id ?_) | (with_reducible refine does_id ?_) | (with_reducible refine ops_id ?_)); refine walk ?_; (repeat' (first | exact trivial | with_reducible refine And.intro ?_ ?_)); all_goals (repeat (first | (with_reducible refine ImpB.mk fun hb => ?_) | (with_reducible refine ImpK.mk fun hK => ?_) | (with_reducible refine ImpF.mk fun hF => ?_) | (with_reducible refine ImpQ.mk fun hp => ?_) | (with_reducible refine AllE.mk fun p => ?_) | (with_reducible refine AllR.mk fun rest => ?_) | (with_reducible refine AllK.mk fun K => ?_))))); repeat' (with_reducible refine And.intro ?_ ?_))
    any_goals ((try (refine w_seq fun K hK => ?_)); (try (refine w_block ?_)); refine w_loop (A := Nat) (fun k => k ≤ a.length ∧ (∀ j, j < k → a.getD j 0 = b.getD j 0)) (fun k => a.length - k) (fun k => [(5, .int .i64 k)]) (fun _ => []) (0) (ws := ?ws1) (tk := ?tk1) ?hw1 ?ht1 ?hi ?h0 ?LH1; (case hw1 => simp only [go_sem, decide_true, decide_false, Int.reduceToNat, Nat.min_eq_left, Nat.min_eq_right, Int.reducePow, Nat.reducePow, Int.reduceLE, Int.reduceLT, Int.reduceMul, Int.reduceAdd, Int.reduceSub, Int.reduceNeg, Bool.not_true, Bool.not_false, Bool.not_not, ↓reduceIte, Nat.reduceAdd, Nat.reduceSub, Nat.reduceMul, Nat.reduceEqDiff, reduceCtorEq, Nat.reduceLT, Nat.reduceLeDiff, Nat.reduceGT]; exact rfl); (case ht1 => simp only [go_sem, decide_true, decide_false, Int.reduceToNat, Nat.min_eq_left, Nat.min_eq_right, Int.reducePow, Nat.reducePow, Int.reduceLE, Int.reduceLT, Int.reduceMul, Int.reduceAdd, Int.reduceSub, Int.reduceNeg, Bool.not_true, Bool.not_false, Bool.not_not, ↓reduceIte, Nat.reduceAdd, Nat.reduceSub, Nat.reduceMul, Nat.reduceEqDiff, reduceCtorEq, Nat.reduceLT, Nat.reduceLeDiff, Nat.reduceGT]; exact rfl); (case' LH1 => rintro k E t hx hE ht; simp only [go_sem] at ht; subst ht; simp only [go_sem]; try dsimp only at hx))
    case hi => exact ⟨Nat.zero_le _, fun j hj => by omega⟩
    case h0 => (focus (refine ⟨_, _, Gh.refl, [], rfl, ?_⟩; (refine fitq ?_ ?_ ?_ <;> try exact trivial); (try any_goals (refine ⟨?_, ?_⟩)); (try any_goals (with_reducible rfl))))
    case LH1 =>
      obtain ⟨hk0, hal⟩ := hx
      by_cases hk : k < a.length
      · have hkd : decide ((k : Int) < a.length) = true := decide_eq_true (by omega)
        have hw : IntKind.i64.wrap ((k : Int) + 1) = ((k + 1 : Nat) : Int) := by rw [wrap_i64 _ (by omega) (by omega)]; omega
        have hkb : (k : Int) < b.length := by omega
        by_cases he : a.getD k 0 = b.getD k 0
        · have hed : decide (¬ a.getD k 0 = b.getD k 0) = false := decide_eq_false (fun q => q he)
          (have zx1 := @hkd; have zx2 := @hw; have zx3 := @hed; all_goals (try ((first | (with_reducible refine wp_id ?_) | (with_reducible refine does_id ?_) | (with_reducible refine ops_id ?_)); refine walk ?_; (repeat' (first | exact trivial | with_reducible refine And.intro ?_ ?_)); all_goals (repeat (first | (with_reducible refine ImpB.mk fun hb => ?_) | (with_reducible refine ImpK.mk fun hK => ?_) | (with_reducible refine ImpF.mk fun hF => ?_) | (with_reducible refine ImpQ.mk fun hp => ?_) | (with_reducible refine AllE.mk fun p => ?_) | (with_reducible refine AllR.mk fun rest => ?_) | (with_reducible refine AllK.mk fun K => ?_))))); repeat' (with_reducible refine And.intro ?_ ?_))
          all_goals first | (show _ ≤ (_ : Int); omega) | (show _ < (_ : Int); omega) | skip
          refine ⟨k + 1, ⟨⟨by first | omega | (dsimp only; omega), fun j hj => ?_⟩, by first | omega | (dsimp only; omega)⟩, ?_⟩
          · by_cases hjk : j < k
            · exact hal j hjk
            · obtain rfl : j = k := by omega
              exact he
          (focus (refine ⟨_, _, Gh.refl, [], rfl, ?_⟩; (refine fitq ?_ ?_ ?_ <;> try exact trivial); (try any_goals (refine ⟨?_, ?_⟩)); (try any_goals (with_reducible rfl))))
          all_goals (repeat' (first | (refine And.intro ?_ ?_) | rfl))
        · have hed : decide (¬ a.getD k 0 = b.getD k 0) = true := decide_eq_true he
          (have zx1 := @hkd; have zx2 := @hw; have zx3 := @hed; all_goals (try ((first | (with_reducible refine wp_id ?_) | (with_reducible refine does_id ?_) | (with_reducible refine ops_id ?_)); refine walk ?_; (repeat' (first | exact trivial | with_reducible refine And.intro ?_ ?_)); all_goals (repeat (first | (with_reducible refine ImpB.mk fun hb => ?_) | (with_reducible refine ImpK.mk fun hK => ?_) | (with_reducible refine ImpF.mk fun hF => ?_) | (with_reducible refine ImpQ.mk fun hp => ?_) | (with_reducible refine AllE.mk fun p => ?_) | (with_reducible refine AllR.mk fun rest => ?_) | (with_reducible refine AllK.mk fun K => ?_))))); repeat' (with_reducible refine And.intro ?_ ?_))
          all_goals first | (show _ ≤ (_ : Int); omega) | (show _ < (_ : Int); omega) | skip
          rw [decide_eq_false (p := a = b) (fun q => he (by rw [q]))]
          (focus (refine ⟨_, _, Gh.refl, [], rfl, ?_⟩; (refine fitq ?_ ?_ ?_ <;> try exact trivial); (try any_goals (refine ⟨?_, ?_⟩)); (try any_goals (with_reducible rfl))))
      · have hkd : decide ((k : Int) < a.length) = false := decide_eq_false (by omega)
        (have zx1 := @hkd; all_goals (try ((first | (with_reducible refine wp_id ?_) | (with_reducible refine does_id ?_) | (with_reducible refine ops_id ?_)); refine walk ?_; (repeat' (first | exact trivial | with_reducible refine And.intro ?_ ?_)); all_goals (repeat (first | (with_reducible refine ImpB.mk fun hb => ?_) | (with_reducible refine ImpK.mk fun hK => ?_) | (with_reducible refine ImpF.mk fun hF => ?_) | (with_reducible refine ImpQ.mk fun hp => ?_) | (with_reducible refine AllE.mk fun p => ?_) | (with_reducible refine AllR.mk fun rest => ?_) | (with_reducible refine AllK.mk fun K => ?_))))); repeat' (with_reducible refine And.intro ?_ ?_))
        rw [decide_eq_true (int_ext hl fun j hj => hal j (by omega))]
        (focus (refine ⟨_, _, Gh.refl, [], rfl, ?_⟩; (refine fitq ?_ ?_ ?_ <;> try exact trivial); (try any_goals (refine ⟨?_, ?_⟩)); (try any_goals (with_reducible rfl))))
  · have d0 : decide ((a.length : Int) = b.length) = false := decide_eq_false (by omega)
    have d1 : decide (¬ (a.length : Int) = b.length) = true := decide_eq_true (by omega)
    refine w_body (rs := [.tmp 4]) (tm := [.ro .int a, .ro .int b, .any, .any, .any, .any, .any, .any, .any, .any, .any, .any, .any, .any, .any, .any, .any, .any, .any, .any, .any, .any, .any, .any, .any, .any]) fn_15 rfl rfl rfl rfl fun R hR => ?_
    (have zx1 := @d0; have zx2 := @d1; all_goals (try ((first | (with_reducible refine wp_id ?_) | (with_reducible refine does_id ?_) | (with_reducible refine ops_id ?_)); refine walk ?_; (repeat' (first | exact trivial | with_reducible refine And.intro ?_ ?_)); all_goals (repeat (first | (with_reducible refine ImpB.mk fun hb => ?_) | (with_reducible refine ImpK.mk fun hK => ?_) | (with_reducible refine ImpF.mk fun hF => ?_) | (with_reducible refine ImpQ.mk fun hp => ?_) | (with_reducible refine AllE.mk fun p => ?_) | (with_reducible refine AllR.mk fun rest => ?_) | (with_reducible refine AllK.mk fun K => ?_))))); repeat' (with_reducible refine And.intro ?_ ?_))
    rw [decide_eq_false (p := a = b) (fun q => hl (by rw [q]))]
    (focus (refine ⟨_, _, Gh.refl, [], rfl, ?_⟩; (refine fitq ?_ ?_ ?_ <;> try exact trivial); (try any_goals (refine ⟨?_, ?_⟩)); (try any_goals (with_reducible rfl))))
theorem c_ints {h : List Ch} {K : KT} {a b : List Int} {x y : AV} (H : K (.bool (decide (a = b))) h) (b1 : brA [] h (.ro .int a) x) (b2 : brA [] h (.ro .int b) y) (s1 : a.length ≤ 9223372036854775807) (s2 : b.length ≤ 9223372036854775807) : Does Try.prog 15 [x, y] h K :=
  frame_pure (b_ints a b s1 s2) (br_cons b1 (br_cons b2 br_nil)) (.inr rfl) (fun _ => rfl) H
abbrev i_ints := Ctr.mk (i := 0) (g := 15) @c_ints
attribute [instance] i_ints
/-- no great steps -/
def lightB (x : Stp) : Bool := decide (x.c.args.length ≤ 10) && decide (x.c.data.length ≤ 600)
def lightQ (l : List Stp) : Bool := decide (l.length ≤ 300) && l.all lightB
theorem b_small (l : List Stp) (hl : l.length ≤ 9223372036854775807) : DoesK Try.prog 0 19 [.ro .stp l] [] (EndF 0 (.bool (lightQ l)) []) := by
  refine DoesK.close ?_
  by_cases h3 : l.length ≤ 300
  · have d0 : decide ((300 : Int) < l.length) = false := decide_eq_false (by omega)
    refine w_body (rs := [.tmp 2]) (tm := [.ro .stp l, .any, .any, .any, .any, .any, .any, .any, .any, .any, .any, .any, .any, .any, .any, .any, .any, .any, .any, .any, .any, .any, .any, .any, .any, .any, .any, .any, .any, .any, .any]) fn_19 rfl rfl rfl rfl fun R hR => ?_
    (have zx1 := @d0; all_goals (try ((first | (with_reducible refine wp_id ?_) | (with_reducible refine does_id ?_) | (with_reducible refine ops_id ?_)); refine walk ?_; (repeat' (first | exact trivial | with_reducible refine And.intro ?_ ?_)); all_goals (repeat (first | (with_reducible refine ImpB.mk fun hb => ?_) | (with_reducible refine ImpK.mk fun hK => ?_) | (with_reducible refine ImpF.mk fun hF => ?_) | (with_reducible refine ImpQ.mk fun hp => ?_) | (with_reducible refine AllE.mk fun p => ?_) | (with_reducible refine AllR.mk fun rest => ?_) | (with_reducible refine AllK.mk fun K => ?_))))); repeat' (with_reducible refine And.intro ?_ ?_))
    any_goals ((try (refine w_seq fun K hK => ?_)); (try (refine w_block ?_)); refine w_loop (A := Nat) (fun k => k ≤ l.length ∧ (l.take k).all lightB = true) (fun k => l.length - k) (fun k => [(3, .int .i64 k)]) (fun _ => []) (0) (ws := ?ws2) (tk := ?tk2) ?hw2 ?ht2 ?hi ?h0 ?LH2; (case hw2 => simp only [go_sem, decide_true, decide_false, Int.reduceToNat, Nat.min_eq_left, Nat.min_eq_right, Int.reducePow, Nat.reducePow, Int.reduceLE, Int.reduceLT, Int.reduceMul, Int.reduceAdd, Int.reduceSub, Int.reduceNeg, Bool.not_true, Bool.not_false, Bool.not_not, ↓reduceIte, Nat.reduceAdd, Nat.reduceSub, Nat.reduceMul, Nat.reduceEqDiff, reduceCtorEq, Nat.reduceLT, Nat.reduceLeDiff, Nat.reduceGT]; exact rfl); (case ht2 => simp only [go_sem, decide_true, decide_false, Int.reduceToNat, Nat.min_eq_left, Nat.min_eq_right, Int.reducePow, Nat.reducePow, Int.reduceLE, Int.reduceLT, Int.reduceMul, Int.reduceAdd, Int.reduceSub, Int.reduceNeg, Bool.not_true, Bool.not_false, Bool.not_not, ↓reduceIte, Nat.reduceAdd, Nat.reduceSub, Nat.reduceMul, Nat.reduceEqDiff, reduceCtorEq, Nat.reduceLT, Nat.reduceLeDiff, Nat.reduceGT]; exact rfl); (case' LH2 => rintro k E t hx hE ht; simp only [go_sem] at ht; subst ht; simp only [go_sem]; try dsimp only at hx))
    case hi => exact ⟨Nat.zero_le _, rfl⟩
    case h0 => (focus (refine ⟨_, _, Gh.refl, [], rfl, ?_⟩; (refine fitq ?_ ?_ ?_ <;> try exact trivial); (try any_goals (refine ⟨?_, ?_⟩)); (try any_goals (with_reducible rfl))))
    case LH2 =>
      obtain ⟨hk0, hal⟩ := hx
      by_cases hk : k < l.length
      · have hkd : decide ((k : Int) < l.length) = true := decide_eq_true (by omega)
        have hw : IntKind.i64.wrap ((k : Int) + 1) = ((k + 1 : Nat) : Int) := by rw [wrap_i64 _ (by omega) (by omega)]; omega
        have hno : lightB (l.getD k Stp.zero) = false → lightQ l = false := fun q => by
          unfold lightQ
          rw [Bool.and_eq_false_iff]; right
          rw [Bool.eq_false_iff]; intro w
          rw [List.all_eq_true] at w
          have := w _ (getM2 (z := Stp.zero) hk)
          rw [q] at this; cases this
        have hyes : lightB (l.getD k Stp.zero) = true → (l.take (k + 1)).all lightB = true := fun q => by
          rw [stp_take hk, List.all_append, hal, List.all_cons, List.all_nil, q]; rfl
        obtain ⟨x, hxe⟩ : ∃ x, l.getD k Stp.zero = x := ⟨_, rfl⟩
        rw [hxe] at hno hyes
        by_cases e1 : x.c.args.length ≤ 10
        · have d1 : decide ((10 : Int) < x.c.args.length) = false := decide_eq_false (by omega)
          by_cases e2 : x.c.data.length ≤ 600
          · have d2 : decide ((600 : Int) < x.c.data.length) = false := decide_eq_false (by omega)
            (have zx1 := @hkd; have zx2 := @hw; have zx3 := @hxe; have zx4 := @d1; have zx5 := @d2; all_goals (try ((first | (with_reducible refine wp_id ?_) | (with_reducible refine does_id ?_) | (with_reducible refine ops_id ?_)); refine walk ?_; (repeat' (first | exact trivial | with_reducible refine And.intro ?_ ?_)); all_goals (repeat (first | (with_reducible refine ImpB.mk fun hb => ?_) | (with_reducible refine ImpK.mk fun hK => ?_) | (with_reducible refine ImpF.mk fun hF => ?_) | (with_reducible refine ImpQ.mk fun hp => ?_) | (with_reducible refine AllE.mk fun p => ?_) | (with_reducible refine AllR.mk fun rest => ?_) | (with_reducible refine AllK.mk fun K => ?_))))); repeat' (with_reducible refine And.intro ?_ ?_))
            all_goals first | (show _ ≤ (_ : Int); omega) | (show _ < (_ : Int); omega) | skip
            refine ⟨k + 1, ⟨⟨by first | omega | (dsimp only; omega), hyes (by rw [lightB, decide_eq_true e1, decide_eq_true e2]; rfl)⟩, by first | omega | (dsimp only; omega)⟩, ?_⟩
            (focus (refine ⟨_, _, Gh.refl, [], rfl, ?_⟩; (refine fitq ?_ ?_ ?_ <;> try exact trivial); (try any_goals (refine ⟨?_, ?_⟩)); (try any_goals (with_reducible rfl))))
            all_goals (repeat' (first | (refine And.intro ?_ ?_) | rfl))
          · have d2 : decide ((600 : Int) < x.c.data.length) = true := decide_eq_true (by omega)
            (have zx1 := @hkd; have zx2 := @hw; have zx3 := @hxe; have zx4 := @d1; have zx5 := @d2; all_goals (try ((first | (with_reducible refine wp_id ?_) | (with_reducible refine does_id ?_) | (with_reducible refine ops_id ?_)); refine walk ?_; (repeat' (first | exact trivial | with_reducible refine And.intro ?_ ?_)); all_goals (repeat (first | (with_reducible refine ImpB.mk fun hb => ?_) | (with_reducible refine ImpK.mk fun hK => ?_) | (with_reducible refine ImpF.mk fun hF => ?_) | (with_reducible refine ImpQ.mk fun hp => ?_) | (with_reducible refine AllE.mk fun p => ?_) | (with_reducible refine AllR.mk fun rest => ?_) | (with_reducible refine AllK.mk fun K => ?_))))); repeat' (with_reducible refine And.intro ?_ ?_))
            all_goals first | (show _ ≤ (_ : Int); omega) | (show _ < (_ : Int); omega) | skip
            rw [hno (by rw [lightB, decide_eq_true e1, decide_eq_false e2]; rfl)]
            (focus (refine ⟨_, _, Gh.refl, [], rfl, ?_⟩; (refine fitq ?_ ?_ ?_ <;> try exact trivial); (try any_goals (refine ⟨?_, ?_⟩)); (try any_goals (with_reducible rfl))))
        · have d1 : decide ((10 : Int) < x.c.args.length) = true := decide_eq_true (by omega)
          (have zx1 := @hkd; have zx2 := @hw; have zx3 := @hxe; have zx4 := @d1; all_goals (try ((first | (with_reducible refine wp_id ?_) | (with_reducible refine does_id ?_) | (with_reducible refine ops_id ?_)); refine walk ?_; (repeat' (first | exact trivial | with_reducible refine And.intro ?_ ?_)); all_goals (repeat (first | (with_reducible refine ImpB.mk fun hb => ?_) | (with_reducible refine ImpK.mk fun hK => ?_) | (with_reducible refine ImpF.mk fun hF => ?_) | (with_reducible refine ImpQ.mk fun hp => ?_) | (with_reducible refine AllE.mk fun p => ?_) | (with_reducible refine AllR.mk fun rest => ?_) | (with_reducible refine AllK.mk fun K => ?_))))); repeat' (with_reducible refine And.intro ?_ ?_))
          all_goals first | (show _ ≤ (_ : Int); omega) | (show _ < (_ : Int); omega) | skip
          rw [hno (by rw [lightB, decide_eq_false e1]; rfl)]
          (focus (refine ⟨_, _, Gh.refl, [], rfl, ?_⟩; (refine fitq ?_ ?_ ?_ <;> try exact trivial); (try any_goals (refine ⟨?_, ?_⟩)); (try any_goals (with_reducible rfl))))
      · have hkd : decide ((k : Int) < l.length) = false := decide_eq_false (by omega)
        rw [List.take_of_length_le (by omega)] at hal
        (have zx1 := @hkd; all_goals (try ((first | (with_reducible refine wp_id ?_) | (with_reducible refine does_id ?_) | (with_reducible refine ops_id ?_)); refine walk ?_; (repeat' (first | exact trivial | with_reducible refine And.intro ?_ ?_)); all_goals (repeat (first | (with_reducible refine ImpB.mk fun hb => ?_) | (with_reducible refine ImpK.mk fun hK => ?_) | (with_reducible refine ImpF.mk fun hF => ?_) | (with_reducible refine ImpQ.mk fun hp => ?_) | (with_reducible refine AllE.mk fun p => ?_) | (with_reducible refine AllR.mk fun rest => ?_) | (with_reducible refine AllK.mk fun K => ?_))))); repeat' (with_reducible refine And.intro ?_ ?_))
        rw [lightQ, decide_eq_true h3, hal, Bool.true_and]
        (focus (refine ⟨_, _, Gh.refl, [], rfl, ?_⟩; (refine fitq ?_ ?_ ?_ <;> try exact trivial); (try any_goals (refine ⟨?_, ?_⟩)); (try any_goals (with_reducible rfl))))
  · have d0 : decide ((300 : Int) < l.length) = true := decide_eq_true (by omega)
    refine w_body (rs := [.tmp 2]) (tm := [.ro .stp l, .any, .any, .any, .any, .any, .any, .any, .any, .any, .any, .any, .any, .any, .any, .any, .any, .any, .any, .any, .any, .any, .any, .any, .any, .any, .any, .any, .any, .any, .any]) fn_19 rfl rfl rfl rfl fun R hR => ?_
    (have zx1 := @d0; all_goals (try ((first | (with_reducible refine wp_id ?_) | (with_reducible refine does_id ?_) | (with_reducible refine ops_id ?_)); refine walk ?_; (repeat' (first | exact trivial | with_reducible refine And.intro ?_ ?_)); all_goals (repeat (first | (with_reducible refine ImpB.mk fun hb => ?_) | (with_reducible refine ImpK.mk fun hK => ?_) | (with_reducible refine ImpF.mk fun hF => ?_) | (with_reducible refine ImpQ.mk fun hp => ?_) | (with_reducible refine AllE.mk fun p => ?_) | (with_reducible refine AllR.mk fun rest => ?_) | (with_reducible refine AllK.mk fun K => ?_))))); repeat' (with_reducible refine And.intro ?_ ?_))
    rw [lightQ, decide_eq_false h3, Bool.false_and]
    (focus (refine ⟨_, _, Gh.refl, [], rfl, ?_⟩; (refine fitq ?_ ?_ ?_ <;> try exact trivial); (try any_goals (refine ⟨?_, ?_⟩)); (try any_goals (with_reducible rfl))))
theorem c_small {h : List Ch} {K : KT} {l : List Stp} {a : AV} (H : K (.bool (lightQ l)) h) (b1 : brA [] h (.ro .stp l) a) (s1 : l.length ≤ 9223372036854775807) : Does Try.prog 19 [a] h K :=
  frame_pure (b_small l s1) (br_cons b1 br_nil) (.inr rfl) (fun _ => rfl) H
abbrev i_small := Ctr.mk (i := 0) (g := 19) @c_small
attribute [instance] i_small
theorem stp_ext {x y : Stp} : (x = y) ↔ (x.kind = y.kind ∧ x.param = y.param ∧ x.op = y.op ∧ x.value = y.value ∧ x.next = y.next ∧ x.ticks = y.ticks ∧ x.c = y.c) := by
  constructor
  · rintro rfl; exact ⟨rfl, rfl, rfl, rfl, rfl, rfl, rfl⟩
  · rintro ⟨h1, h2, h3, h4, h5, h6, h7⟩
    cases x; cases y
    simp only at h1 h2 h3 h4 h5 h6 h7
    subst h1; subst h2; subst h3; subst h4; subst h5; subst h6; subst h7
    rfl
theorem b_ssame (x y : Stp) (hl : x.c.args.length ≤ 1099511627776) : DoesK Try.prog 0 49 [.agg (stpL x), .agg (stpL y)] [] (EndF 0 (.bool (decide (x = y))) []) := by
  refine DoesK.close ?_
  obtain ⟨Z, hZ⟩ : ∃ Z, decide (x = y) = Z := ⟨_, rfl⟩
  rw [hZ]
  by_cases k1 : x.kind = y.kind
  · have d1 : decide (x.kind = y.kind) = true := decide_eq_true k1
    by_cases k2 : x.param = y.param
    · have d2 : decide (x.param = y.param) = true := decide_eq_true k2
      by_cases k3 : x.op = y.op
      · have d3 : decide (x.op = y.op) = true := decide_eq_true k3
        by_cases k4 : x.value = y.value
        · have d4 : decide (x.value = y.value) = true := decide_eq_true k4
          by_cases k5 : x.next = y.next
          · have d5 : decide (x.next = y.next) = true := decide_eq_true k5
            by_cases k6 : x.ticks = y.ticks
            · have d6 : decide (x.ticks = y.ticks) = true := decide_eq_true k6
              have hZ2 : decide (x.c = y.c) = Z := by
                rw [← hZ]
                exact decide_eq_decide.2 ⟨fun q => stp_ext.2 ⟨k1, k2, k3, k4, k5, k6, q⟩, fun q => (stp_ext.1 q).2.2.2.2.2.2⟩
              refine w_body (rs := [.tmp 4]) (tm := [.agg (stpL x), .agg (stpL y), .any, .any, .any, .any, .any, .any, .any, .any, .any, .any, .any, .any, .any, .any, .any, .any, .any, .any, .any, .any, .any, .any, .any, .any, .any, .any, .any, .any, .any, .any, .any, .any, .any, .any, .any, .any, .any, .any, .any, .any, .any, .any, .any, .any, .any, .any, .any, .any, .any, .any]) fn_49 rfl rfl rfl rfl fun R hR => ?_
              (have zx1 := @d1; have zx2 := @d2; have zx3 := @d3; have zx4 := @d4; have zx5 := @d5; have zx6 := @d6; all_goals (try ((first | (with_reducible refine wp_id ?_) | (with_reducible refine does_id ?_) | (with_reducible refine ops_id ?_)); refine walk ?_; (repeat' (first | exact trivial | with_reducible refine And.intro ?_ ?_)); all_goals (repeat (first | (with_reducible refine ImpB.mk fun hb => ?_) | (with_reducible refine ImpK.mk fun hK => ?_) | (with_reducible refine ImpF.mk fun hF => ?_) | (with_reducible refine ImpQ.mk fun hp => ?_) | (with_reducible refine AllE.mk fun p => ?_) | (with_reducible refine AllR.mk fun rest => ?_) | (with_reducible refine AllK.mk fun K => ?_))))); repeat' (with_reducible refine And.intro ?_ ?_))
              all_goals first | (show _ ≤ (_ : Nat); omega) | skip
              rw [← hZ2]
              (focus (refine ⟨_, _, Gh.refl, [], rfl, ?_⟩; (refine fitq ?_ ?_ ?_ <;> try exact trivial); (try any_goals (refine ⟨?_, ?_⟩)); (try any_goals (with_reducible rfl))))
            · have d6 : decide (x.ticks = y.ticks) = false := decide_eq_false k6
              refine w_body (rs := [.tmp 4]) (tm := [.agg (stpL x), .agg (stpL y), .any, .any, .any, .any, .any, .any, .any, .any, .any, .any, .any, .any, .any, .any, .any, .any, .any, .any, .any, .any, .any, .any, .any, .any, .any, .any, .any, .any, .any, .any, .any, .any, .any, .any, .any, .any, .any, .any, .any, .any, .any, .any, .any, .any, .any, .any, .any, .any, .any, .any]) fn_49 rfl rfl rfl rfl fun R hR => ?_
              (have zx1 := @d1; have zx2 := @d2; have zx3 := @d3; have zx4 := @d4; have zx5 := @d5; have zx6 := @d6; all_goals (try ((first | (with_reducible refine wp_id ?_) | (with_reducible refine does_id ?_) | (with_reducible refine ops_id ?_)); refine walk ?_; (repeat' (first | exact trivial | with_reducible refine And.intro ?_ ?_)); all_goals (repeat (first | (with_reducible refine ImpB.mk fun hb => ?_) | (with_reducible refine ImpK.mk fun hK => ?_) | (with_reducible refine ImpF.mk fun hF => ?_) | (with_reducible refine ImpQ.mk fun hp => ?_) | (with_reducible refine AllE.mk fun p => ?_) | (with_reducible refine AllR.mk fun rest => ?_) | (with_reducible refine AllK.mk fun K => ?_))))); repeat' (with_reducible refine And.intro ?_ ?_))
              rw [← hZ, decide_eq_false (fun q => k6 (stp_ext.1 q).2.2.2.2.2.1)]
              (focus (refine ⟨_, _, Gh.refl, [], rfl, ?_⟩; (refine fitq ?_ ?_ ?_ <;> try exact trivial); (try any_goals (refine ⟨?_, ?_⟩)); (try any_goals (with_reducible rfl))))
          · have d5 : decide (x.next = y.next) = false := decide_eq_false k5
            refine w_body (rs := [.tmp 4]) (tm := [.agg (stpL x), .agg (stpL y), .any, .any, .any, .any, .any, .any, .any, .any, .any, .any, .any, .any, .any, .any, .any, .any, .any, .any, .any, .any, .any, .any, .any, .any, .any, .any, .any, .any, .any, .any, .any, .any, .any, .any, .any, .any, .any, .any, .any, .any, .any, .any, .any, .any, .any, .any, .any, .any, .any, .any]) fn_49 rfl rfl rfl rfl fun R hR => ?_
            (have zx1 := @d1; have zx2 := @d2; have zx3 := @d3; have zx4 := @d4; have zx5 := @d5; all_goals (try ((first | (with_reducible refine wp_id ?_) | (with_reducible refine does_id ?_) | (with_reducible refine ops_id ?_)); refine walk ?_; (repeat' (first | exact trivial | with_reducible refine And.intro ?_ ?_)); all_goals (repeat (first | (with_reducible refine ImpB.mk fun hb => ?_) | (with_reducible refine ImpK.mk fun hK => ?_) | (with_reducible refine ImpF.mk fun hF => ?_) | (with_reducible refine ImpQ.mk fun hp => ?_) | (with_reducible refine AllE.mk fun p => ?_) | (with_reducible refine AllR.mk fun rest => ?_) | (with_reducible refine AllK.mk fun K => ?_))))); repeat' (with_reducible refine And.intro ?_ ?_))
            rw [← hZ, decide_eq_false (fun q => k5 (stp_ext.1 q).2.2.2.2.1)]
            (focus (refine ⟨_, _, Gh.refl, [], rfl, ?_⟩; (refine fitq ?_ ?_ ?_ <;> try exact trivial); (try any_goals (refine ⟨?_, ?_⟩)); (try any_goals (with_reducible rfl))))
        · have d4 : decide (x.value = y.value) = false := decide_eq_false k4
          refine w_body (rs := [.tmp 4]) (tm := [.agg (stpL x), .agg (stpL y), .any, .any, .any, .any, .any, .any, .any, .any, .any, .any, .any, .any, .any, .any, .any, .any, .any, .any, .any, .any, .any, .any, .any, .any, .any, .any, .any, .any, .any, .any, .any, .any, .any, .any, .any, .any, .any, .any, .any, .any, .any, .any, .any, .any, .any, .any, .any, .any, .any, .any]) fn_49 rfl rfl rfl rfl fun R hR => ?_
          (have zx1 := @d1; have zx2 := @d2; have zx3 := @d3; have zx4 := @d4; all_goals (try ((first | (with_reducible refine wp_id ?_) | (with_reducible refine does_id ?_) | (with_reducible refine ops_id ?_)); refine walk ?_; (repeat' (first | exact trivial | with_reducible refine And.intro ?_ ?_)); all_goals (repeat (first | (with_reducible refine ImpB.mk fun hb => ?_) | (with_reducible refine ImpK.mk fun hK => ?_) | (with_reducible refine ImpF.mk fun hF => ?_) | (with_reducible refine ImpQ.mk fun hp => ?_) | (with_reducible refine AllE.mk fun p => ?_) | (with_reducible refine AllR.mk fun rest => ?_) | (with_reducible refine AllK.mk fun K => ?_))))); repeat' (with_reducible refine And.intro ?_ ?_))
          rw [← hZ, decide_eq_false (fun q => k4 (stp_ext.1 q).2.2.2.1)]
          (focus (refine ⟨_, _, Gh.refl, [], rfl, ?_⟩; (refine fitq ?_ ?_ ?_ <;> try exact trivial); (try any_goals (refine ⟨?_, ?_⟩)); (try any_goals (with_reducible rfl))))
      · have d3 : decide (x.op = y.op) = false := decide_eq_false k3
        refine w_body (rs := [.tmp 4]) (tm := [.agg (stpL x), .agg (stpL y), .any, .any, .any, .any, .any, .any, .any, .any, .any, .any, .any, .any, .any, .any, .any, .any, .any, .any, .any, .any, .any, .any, .any, .any, .any, .any, .any, .any, .any, .any, .any, .any, .any, .any, .any, .any, .any, .any, .any, .any, .any, .any, .any, .any, .any, .any, .any, .any, .any, .any]) fn_49 rfl rfl rfl rfl fun R hR => ?_
        (have zx1 := @d1; have zx2 := @d2; have zx3 := @d3; all_goals (try ((first | (with_reducible refine wp_id ?_) | (with_reducible refine does_id ?_) | (with_reducible refine ops_id ?_)); refine walk ?_; (repeat' (first | exact trivial | with_reducible refine And.intro ?_ ?_)); all_goals (repeat (first | (with_reducible refine ImpB.mk fun hb => ?_) | (with_reducible refine ImpK.mk fun hK => ?_) | (with_reducible refine ImpF.mk fun hF => ?_) | (with_reducible refine ImpQ.mk fun hp => ?_) | (with_reducible refine AllE.mk fun p => ?_) | (with_reducible refine AllR.mk fun rest => ?_) | (with_reducible refine AllK.mk fun K => ?_))))); repeat' (with_reducible refine And.intro ?_ ?_))
        rw [← hZ, decide_eq_false (fun q => k3 (stp_ext.1 q).2.2.1)]
        (focus (refine ⟨_, _, Gh.refl, [], rfl, ?_⟩; (refine fitq ?_ ?_ ?_ <;> try exact trivial); (try any_goals (refine ⟨?_, ?_⟩)); (try any_goals (with_reducible rfl))))
    · have d2 : decide (x.param = y.param) = false := decide_eq_false k2
      refine w_body (rs := [.tmp 4]) (tm := [.agg (stpL x), .agg (stpL y), .any, .any, .any, .any, .any, .any, .any, .any, .any, .any, .any, .any, .any, .any, .any, .any, .any, .any, .any, .any, .any, .any, .any, .any, .any, .any, .any, .any, .any, .any, .any, .any, .any, .any, .any, .any, .any, .any, .any, .any, .any, .any, .any, .any, .any, .any, .any, .any, .any, .any]) fn_49 rfl rfl rfl rfl fun R hR => ?_
      (have zx1 := @d1; have zx2 := @d2; all_goals (try ((first | (with_reducible refine wp_id ?_) | (with_reducible refine does_id ?_) | (with_reducible refine ops_id ?_)); refine walk ?_; (repeat' (first | exact trivial | with_reducible refine And.intro ?_ ?_)); all_goals (repeat (first | (with_reducible refine ImpB.mk fun hb => ?_) | (with_reducible refine ImpK.mk fun hK => ?_) | (with_reducible refine ImpF.mk fun hF => ?_) | (with_reducible refine ImpQ.mk fun hp => ?_) | (with_reducible refine AllE.mk fun p => ?_) | (with_reducible refine AllR.mk fun rest => ?_) | (with_reducible refine AllK.mk fun K => ?_))))); repeat' (with_reducible refine And.intro ?_ ?_))
      rw [← hZ, decide_eq_false (fun q => k2 (stp_ext.1 q).2.1)]
      (focus (refine ⟨_, _, Gh.refl, [], rfl, ?_⟩; (refine fitq ?_ ?_ ?_ <;> try exact trivial); (try any_goals (refine ⟨?_, ?_⟩)); (try any_goals (with_reducible rfl))))
  · have d1 : decide (x.kind = y.kind) = false := decide_eq_false k1
    refine w_body (rs := [.tmp 4]) (tm := [.agg (stpL x), .agg (stpL y), .any, .any, .any, .any, .any, .any, .any, .any, .any, .any, .any, .any, .any, .any, .any, .any, .any, .any, .any, .any, .any, .any, .any, .any, .any, .any, .any, .any, .any, .any, .any, .any, .any, .any, .any, .any, .any, .any, .any, .any, .any, .any, .any, .any, .any, .any, .any, .any, .any, .any]) fn_49 rfl rfl rfl rfl fun R hR => ?_
    (have zx1 := @d1; all_goals (try ((first | (with_reducible refine wp_id ?_) | (with_reducible refine does_id ?_) | (with_reducible refine ops_id ?_)); refine walk ?_; (repeat' (first | exact trivial | with_reducible refine And.intro ?_ ?_)); all_goals (repeat (first | (with_reducible refine ImpB.mk fun hb => ?_) | (with_reducible refine ImpK.mk fun hK => ?_) | (with_reducible refine ImpF.mk fun hF => ?_) | (with_reducible refine ImpQ.mk fun hp => ?_) | (with_reducible refine AllE.mk fun p => ?_) | (with_reducible refine AllR.mk fun rest => ?_) | (with_reducible refine AllK.mk fun K => ?_))))); repeat' (with_reducible refine And.intro ?_ ?_))
    rw [← hZ, decide_eq_false (fun q => k1 (stp_ext.1 q).1)]
    (focus (refine ⟨_, _, Gh.refl, [], rfl, ?_⟩; (refine fitq ?_ ?_ ?_ <;> try exact trivial); (try any_goals (refine ⟨?_, ?_⟩)); (try any_goals (with_reducible rfl))))
theorem c_ssame {h : List Ch} {K : KT} {x y : Stp} (H : K (.bool (decide (x = y))) h) (s1 : x.c.args.length ≤ 1099511627776) : Does Try.prog 49 [.agg [.int .i64 x.kind, .int .i64 x.param, .int .i64 x.op, .int .i64 x.value, .int .i64 x.next, .int .i64 x.ticks, .int .i64 x.c.src, .int .i64 x.c.num, .int .i64 x.c.srv, .ro .int x.c.args, .ro .byte x.c.data], .agg [.int .i64 y.kind, .int .i64 y.param, .int .i64 y.op, .int .i64 y.value, .int .i64 y.next, .int .i64 y.ticks, .int .i64 y.c.src, .int .i64 y.c.num, .int .i64 y.c.srv, .ro .int y.c.args, .ro .byte y.c.data]] h K :=
  frame_pure (b_ssame x y s1) (br_cons (br_stp x) (br_cons (br_stp y) br_nil)) (.inr rfl) (fun _ => rfl) H
abbrev i_ssame := Ctr.mk (i := 0) (g := 49) @c_ssame
attribute [instance] i_ssame
theorem stpl_ext {a b : List Stp} (hl : a.length = b.length) (h : ∀ j, j < a.length → a.getD j Stp.zero = b.getD j Stp.zero) : a = b := by
  apply List.ext_getElem hl
  intro j h1 h2
  have := h j h1
  rw [List.getD_eq_getElem?_getD, List.getD_eq_getElem?_getD, List.getElem?_eq_getElem h1, List.getElem?_eq_getElem h2] at this
  exact this
theorem b_same (a b : List Stp) (ha : a.length ≤ 9223372036854775807) (hlit : litQ a) : DoesK Try.prog 0 23 [.ro .stp a, .ro .stp b] [] (EndF 0 (.bool (decide (a = b))) []) := by
  refine DoesK.close ?_
  by_cases hl : a.length = b.length
  · have d1 : decide (¬ (a.length : Int) = b.length) = false := decide_eq_false (by omega)
    refine w_body (rs := [.tmp 4]) (tm := [.ro .stp a, .ro .stp b, .any, .any, .any, .any, .any, .any, .any, .any, .any, .any, .any, .any, .any, .any, .any, .any, .any, .any, .any, .any, .any, .any, .any, .any, .any]) fn_23 rfl rfl rfl rfl fun R hR => ?_
    (have zx1 := @d1; all_goals (try ((first | (with_reducible refine wp_id ?_) | (with_reducible refine does_id ?_) | (with_reducible refine ops_id ?_)); refine walk ?_; (repeat' (first | exact trivial | with_reducible refine And.intro ?_ ?_)); all_goals (repeat (first | (with_reducible refine ImpB.mk fun hb => ?_) | (with_reducible refine ImpK.mk fun hK => ?_) | (with_reducible refine ImpF.mk fun hF => ?_) | (with_reducible refine ImpQ.mk fun hp => ?_) | (with_reducible refine AllE.mk fun p => ?_) | (with_reducible refine AllR.mk fun rest => ?_) | (with_reducible refine AllK.mk fun K => ?_))))); repeat' (with_reducible refine And.intro ?_ ?_))
    any_goals ((try (refine w_seq fun K hK => ?_)); (try (refine w_block ?_)); refine w_loop (A := Nat) (fun k => k ≤ a.length ∧ (∀ j, j < k → a.getD j Stp.zero = b.getD j Stp.zero)) (fun k => a.length - k) (fun k => [(5, .int .i64 k)]) (fun _ => []) (0) (ws := ?ws3) (tk := ?tk3) ?hw3 ?ht3 ?hi ?h0 ?LH3; (case hw3 => simp only [go_sem, decide_true, decide_false, Int.reduceToNat, Nat.min_eq_left, Nat.min_eq_right, Int.reducePow, Nat.reducePow, Int.reduceLE, Int.reduceLT, Int.reduceMul, Int.reduceAdd, Int.reduceSub, Int.reduceNeg, Bool.not_true, Bool.not_false, Bool.not_not, ↓reduceIte, Nat.reduceAdd, Nat.reduceSub, Nat.reduceMul, Nat.reduceEqDiff, reduceCtorEq, Nat.reduceLT, Nat.reduceLeDiff, Nat.reduceGT]; exact rfl); (case ht3 => simp only [go_sem, decide_true, decide_false, Int.reduceToNat, Nat.min_eq_left, Nat.min_eq_right, Int.reducePow, Nat.reducePow, Int.reduceLE, Int.reduceLT, Int.reduceMul, Int.reduceAdd, Int.reduceSub, Int.reduceNeg, Bool.not_true, Bool.not_false, Bool.not_not, ↓reduceIte, Nat.reduceAdd, Nat.reduceSub, Nat.reduceMul, Nat.reduceEqDiff, reduceCtorEq, Nat.reduceLT, Nat.reduceLeDiff, Nat.reduceGT]; exact rfl); (case' LH3 => rintro k E t hx hE ht; simp only [go_sem] at ht; subst ht; simp only [go_sem]; try dsimp only at hx))
    case hi => exact ⟨Nat.zero_le _, fun j hj => by omega⟩
    case h0 => (focus (refine ⟨_, _, Gh.refl, [], rfl, ?_⟩; (refine fitq ?_ ?_ ?_ <;> try exact trivial); (try any_goals (refine ⟨?_, ?_⟩)); (try any_goals (with_reducible rfl))))
    case LH3 =>
      obtain ⟨hk0, hal⟩ := hx
      by_cases hk : k < a.length
      · have hkd : decide ((k : Int) < a.length) = true := decide_eq_true (by omega)
        have hw : IntKind.i64.wrap ((k : Int) + 1) = ((k + 1 : Nat) : Int) := by rw [wrap_i64 _ (by omega) (by omega)]; omega
        have hkb : (k : Int) < b.length := by omega
        have hll := hlit _ (getM2 (z := Stp.zero) hk)
        obtain ⟨x, hxe⟩ : ∃ x, a.getD k Stp.zero = x := ⟨_, rfl⟩
        obtain ⟨y, hye⟩ : ∃ y, b.getD k Stp.zero = y := ⟨_, rfl⟩
        rw [hxe] at hll
        by_cases he : x = y
        · have hed : decide (x = y) = true := decide_eq_true he
          (have zx1 := @hkd; have zx2 := @hw; have zx3 := @hxe; have zx4 := @hye; have zx5 := @hed; all_goals (try ((first | (with_reducible refine wp_id ?_) | (with_reducible refine does_id ?_) | (with_reducible refine ops_id ?_)); refine walk ?_; (repeat' (first | exact trivial | with_reducible refine And.intro ?_ ?_)); all_goals (repeat (first | (with_reducible refine ImpB.mk fun hb => ?_) | (with_reducible refine ImpK.mk fun hK => ?_) | (with_reducible refine ImpF.mk fun hF => ?_) | (with_reducible refine ImpQ.mk fun hp => ?_) | (with_reducible refine AllE.mk fun p => ?_) | (with_reducible refine AllR.mk fun rest => ?_) | (with_reducible refine AllK.mk fun K => ?_))))); repeat' (with_reducible refine And.intro ?_ ?_))
          all_goals first | (show _ ≤ (_ : Int); omega) | (show _ < (_ : Int); omega) | skip
          refine ⟨k + 1, ⟨⟨by first | omega | (dsimp only; omega), fun j hj => ?_⟩, by first | omega | (dsimp only; omega)⟩, ?_⟩
          · by_cases hjk : j < k
            · exact hal j hjk
            · obtain rfl : j = k := by omega
              rw [hxe, hye]; exact he
          (focus (refine ⟨_, _, Gh.refl, [], rfl, ?_⟩; (refine fitq ?_ ?_ ?_ <;> try exact trivial); (try any_goals (refine ⟨?_, ?_⟩)); (try any_goals (with_reducible rfl))))
          all_goals (repeat' (first | (refine And.intro ?_ ?_) | rfl))
        · have hed : decide (x = y) = false := decide_eq_false he
          (have zx1 := @hkd; have zx2 := @hw; have zx3 := @hxe; have zx4 := @hye; have zx5 := @hed; all_goals (try ((first | (with_reducible refine wp_id ?_) | (with_reducible refine does_id ?_) | (with_reducible refine ops_id ?_)); refine walk ?_; (repeat' (first | exact trivial | with_reducible refine And.intro ?_ ?_)); all_goals (repeat (first | (with_reducible refine ImpB.mk fun hb => ?_) | (with_reducible refine ImpK.mk fun hK => ?_) | (with_reducible refine ImpF.mk fun hF => ?_) | (with_reducible refine ImpQ.mk fun hp => ?_) | (with_reducible refine AllE.mk fun p => ?_) | (with_reducible refine AllR.mk fun rest => ?_) | (with_reducible refine AllK.mk fun K => ?_))))); repeat' (with_reducible refine And.intro ?_ ?_))
          all_goals first | (show _ ≤ (_ : Int); omega) | (show _ < (_ : Int); omega) | skip
          rw [decide_eq_false (p := a = b) (fun q => he (by rw [← hxe, ← hye, q]))]
          (focus (refine ⟨_, _, Gh.refl, [], rfl, ?_⟩; (refine fitq ?_ ?_ ?_ <;> try exact trivial); (try any_goals (refine ⟨?_, ?_⟩)); (try any_goals (with_reducible rfl))))
      · have hkd : decide ((k : Int) < a.length) = false := decide_eq_false (by omega)
        (have zx1 := @hkd; all_goals (try ((first | (with_reducible refine wp_id ?_) | (with_reducible refine does_id ?_) | (with_reducible refine ops_id ?_)); refine walk ?_; (repeat' (first | exact trivial | with_reducible refine And.intro ?_ ?_)); all_goals (repeat (first | (with_reducible refine ImpB.mk fun hb => ?_) | (with_reducible refine ImpK.mk fun hK => ?_) | (with_reducible refine ImpF.mk fun hF => ?_) | (with_reducible refine ImpQ.mk fun hp => ?_) | (with_reducible refine AllE.mk fun p => ?_) | (with_reducible refine AllR.mk fun rest => ?_) | (with_reducible refine AllK.mk fun K => ?_))))); repeat' (with_reducible refine And.intro ?_ ?_))
        rw [decide_eq_true (stpl_ext hl fun j hj => hal j (by omega))]
        (focus (refine ⟨_, _, Gh.refl, [], rfl, ?_⟩; (refine fitq ?_ ?_ ?_ <;> try exact trivial); (try any_goals (refine ⟨?_, ?_⟩)); (try any_goals (with_reducible rfl))))
  · have d1 : decide (¬ (a.length : Int) = b.length) = true := decide_eq_true (by omega)
    refine w_body (rs := [.tmp 4]) (tm := [.ro .stp a, .ro .stp b, .any, .any, .any, .any, .any, .any, .any, .any, .any, .any, .any, .any, .any, .any, .any, .any, .any, .any, .any, .any, .any, .any, .any, .any, .any]) fn_23 rfl rfl rfl rfl fun R hR => ?_
    (have zx1 := @d1; all_goals (try ((first | (with_reducible refine wp_id ?_) | (with_reducible refine does_id ?_) | (with_reducible refine ops_id ?_)); refine walk ?_; (repeat' (first | exact trivial | with_reducible refine And.intro ?_ ?_)); all_goals (repeat (first | (with_reducible refine ImpB.mk fun hb => ?_) | (with_reducible refine ImpK.mk fun hK => ?_) | (with_reducible refine ImpF.mk fun hF => ?_) | (with_reducible refine ImpQ.mk fun hp => ?_) | (with_reducible refine AllE.mk fun p => ?_) | (with_reducible refine AllR.mk fun rest => ?_) | (with_reducible refine AllK.mk fun K => ?_))))); repeat' (with_reducible refine And.intro ?_ ?_))
    rw [decide_eq_false (p := a = b) (fun q => hl (by rw [q]))]
    (focus (refine ⟨_, _, Gh.refl, [], rfl, ?_⟩; (refine fitq ?_ ?_ ?_ <;> try exact trivial); (try any_goals (refine ⟨?_, ?_⟩)); (try any_goals (with_reducible rfl))))
theorem c_same {h : List Ch} {K : KT} {a b : List Stp} {x y : AV} (H : K (.bool (decide (a = b))) h) (b1 : brA [] h (.ro .stp a) x) (b2 : brA [] h (.ro .stp b) y) (s1 : a.length ≤ 9223372036854775807) (s2 : litQ a) : Does Try.prog 23 [x, y] h K :=
  frame_pure (b_same a b s1 s2) (br_cons b1 (br_cons b2 br_nil)) (.inr rfl) (fun _ => rfl) H
abbrev i_same := Ctr.mk (i := 0) (g := 23) @c_same
attribute [instance] i_same
end Go.V

set_option maxRecDepth 100000
set_option maxHeartbeats 8000000
namespace Go.V
open Go.Proofs
/-- a pool as it lies -/
def PL (ids : List Int) (vs : List Pdf) : List Ch := [.cells [.bool true, .sl 1 .int 0 ids.length, .sl 2 .pdf 0 vs.length], .rows .int ids, .rows .pdf vs]
attribute [go_sem] PL
abbrev pdL (x : Pdf) : List AV := [.int .i64 x.id, .int .i64 x.width, .bool x.signed, .int .i64 x.value]
theorem b_inr (i : Int) : DoesK Try.prog 0 52 [.agg [.int .i64 i, .int .i64 8, .bool false, .int .i64 0], .int .i64 0] [] (EndF 0 (.bool true) []) := by
  refine DoesK.close ?_
  refine w_body (rs := [.tmp 4]) (tm := [.agg [.int .i64 i, .int .i64 8, .bool false, .int .i64 0], .int .i64 0, .any, .any, .any, .any, .any, .any, .any, .any, .any, .any, .any, .any, .any, .any, .any, .any, .any, .any, .any, .any, .any, .any, .any, .any, .any, .any, .any, .any]) fn_52 rfl rfl rfl rfl fun R hR => ?_
  have hw : decide ((0 : Int) < IntKind.i64.wrap 256) = true := by decide
  (have zx1 := @hw; all_goals (try ((first | (with_reducible refine wp_id ?_) | (with_reducible refine does_id ?_) | (with_reducible refine ops_id ?_)); refine walk ?_; (repeat' (first | exact trivial | with_reducible refine And.intro ?_ ?_)); all_goals (repeat (first | (with_reducible refine ImpB.mk fun hb => ?_) | (with_reducible refine ImpK.mk fun hK => ?_) | (with_reducible refine ImpF.mk fun hF => ?_) | (with_reducible refine ImpQ.mk fun hp => ?_) | (with_reducible refine AllE.mk fun p => ?_) | (with_reducible refine AllR.mk fun rest => ?_) | (with_reducible refine AllK.mk fun K => ?_))))); repeat' (with_reducible refine And.intro ?_ ?_))
  (focus (refine ⟨_, _, Gh.refl, [], rfl, ?_⟩; (refine fitq ?_ ?_ ?_ <;> try exact trivial); (try any_goals (refine ⟨?_, ?_⟩)); (try any_goals (with_reducible rfl))))
theorem c_inr {h : List Ch} {K : KT} {i : Int} (H : K (.bool true) h) : Does Try.prog 52 [.agg [.int .i64 i, .int .i64 8, .bool false, .int .i64 0], .int .i64 0] h K :=
  frame_pure (b_inr i) (br_cons (br_agg (br_cons br_int (br_cons br_int (br_cons br_bool (br_cons br_int br_nil))))) (br_cons br_int br_nil)) (.inr rfl) (fun _ => rfl) H
abbrev i_inr := Ctr.mk (i := 0) (g := 52) @c_inr
attribute [instance] i_inr
theorem b_tapp (ids : List Int) (vs : List Pdf) (i : Int) (v : Pdf) (h1 : ids.length ≤ 1000) (h2 : vs.length ≤ 1000) : DoesK Try.prog 1 53 [.ptr 0 1, .int .i64 i, .agg (pdL v)] [.pack (PL ids vs)] (EndF 1 (.tup []) ([.pack (PL (ids ++ [i]) (vs ++ [v]))] ++ [])) := by
  refine DoesK.close ?_
  have hro : RoLit := .mk
  refine w_body (rs := []) (tm := [.ptr 0 1, .int .i64 i, .agg (pdL v), .any, .any, .any, .any, .any, .any, .any, .any, .any, .any, .any, .any, .any, .any, .any, .any, .any, .any, .any, .any, .any, .any, .any]) fn_53 rfl rfl rfl rfl fun R hR => ?_
  refine w_seq fun K2 hk2 => ?_; have hq2 := Slot.mk hk2; clear hk2
  (all_goals (try ((first | (with_reducible refine wp_id ?_) | (with_reducible refine does_id ?_) | (with_reducible refine ops_id ?_)); refine walk ?_; (repeat' (first | exact trivial | with_reducible refine And.intro ?_ ?_)); all_goals (repeat (first | (with_reducible refine ImpB.mk fun hb => ?_) | (with_reducible refine ImpK.mk fun hK => ?_) | (with_reducible refine ImpF.mk fun hF => ?_) | (with_reducible refine ImpQ.mk fun hp => ?_) | (with_reducible refine AllE.mk fun p => ?_) | (with_reducible refine AllR.mk fun rest => ?_) | (with_reducible refine AllK.mk fun K => ?_))))); repeat' (with_reducible refine And.intro ?_ ?_))
  refine hq2.un _ _ ?_
  refine w_open 0 rfl rfl ?_
  simp only [go_sem, decide_true, decide_false, Int.reduceToNat, Nat.min_eq_left, Nat.min_eq_right, Int.reducePow, Nat.reducePow, Int.reduceLE, Int.reduceLT, Int.reduceMul, Int.reduceAdd, Int.reduceSub, Int.reduceNeg, Bool.not_true, Bool.not_false, Bool.not_not, ↓reduceIte, Nat.reduceAdd, Nat.reduceSub, Nat.reduceMul, Nat.reduceEqDiff, reduceCtorEq, Nat.reduceLT, Nat.reduceLeDiff, Nat.reduceGT]
  (all_goals (try ((first | (with_reducible refine wp_id ?_) | (with_reducible refine does_id ?_) | (with_reducible refine ops_id ?_)); refine walk ?_; (repeat' (first | exact trivial | with_reducible refine And.intro ?_ ?_)); all_goals (repeat (first | (with_reducible refine ImpB.mk fun hb => ?_) | (with_reducible refine ImpK.mk fun hK => ?_) | (with_reducible refine ImpF.mk fun hF => ?_) | (with_reducible refine ImpQ.mk fun hp => ?_) | (with_reducible refine AllE.mk fun p => ?_) | (with_reducible refine AllR.mk fun rest => ?_) | (with_reducible refine AllK.mk fun K => ?_))))); repeat' (with_reducible refine And.intro ?_ ?_))
  all_goals first | (show _ ≤ (_ : Nat); omega) | skip
  (focus (refine ⟨_, _, gh_close (t := 0) (ts := [5, 6]) (l := PL (ids ++ [i]) (vs ++ [v])) ⟨⟨_, _, rfl⟩, ?_, by simp⟩, [0], rfl, ?_⟩; all_goals (refine fitq ?_ ?_ ?_ <;> try exact trivial); (try any_goals (refine ⟨?_, ?_⟩)); (try any_goals (with_reducible rfl))))
  all_goals (repeat' (first | (refine And.intro ?_ ?_) | rfl | (simp only [List.length_append, List.length_cons, List.length_nil]; done)))
theorem k_tapp {h : List Ch} {K : KT} {u : Nat} {ids : List Int} {vs : List Pdf} {i : Int} {x1 x2 x4 : Int} {x3 : Bool} (H : K (.tup []) (h.set u (.pack (PL (ids ++ [i]) (vs ++ [⟨x1, x2, x3, x4⟩]))))) (o : hth h u = .pack (PL ids vs)) (s1 : ids.length ≤ 1000) (s2 : vs.length ≤ 1000) : Does Try.prog 53 [.ptr u 1, .int .i64 i, .agg [.int .i64 x1, .int .i64 x2, .bool x3, .int .i64 x4]] h K :=
  frame_obj0 (b_tapp ids vs i ⟨x1, x2, x3, x4⟩ s1 s2) o (by simp) (fitC_pack _) (br_cons (br_ptr rfl) (br_cons br_int (br_cons (br_agg (br_cons br_int (br_cons br_int (br_cons br_bool (br_cons br_int br_nil))))) br_nil))) (.inl rfl) (fun _ => rfl) rfl H
/-- the three parameters -/
def dsQ : List Pdf := [⟨1, 8, false, 0⟩, ⟨2, 8, false, 0⟩, ⟨3, 8, false, 0⟩]
def idQ : List Int := [1, 2, 3]
theorem dsQ_at {k : Nat} (h : k < 3) : dsQ.getD k Pdf.zero = ⟨(k : Int) + 1, 8, false, 0⟩ := by
  match k, h with
  | 0, _ => rfl
  | 1, _ => rfl
  | 2, _ => rfl
theorem dsQ_take {k : Nat} (h : k < 3) : dsQ.take k ++ [⟨(k : Int) + 1, 8, false, 0⟩] = dsQ.take (k + 1) := by
  match k, h with
  | 0, _ => rfl
  | 1, _ => rfl
  | 2, _ => rfl
theorem idQ_take {k : Nat} (h : k < 3) : idQ.take k ++ [(k : Int) + 1] = idQ.take (k + 1) := by
  match k, h with
  | 0, _ => rfl
  | 1, _ => rfl
  | 2, _ => rfl
/-- the pool after k parameters -/
def PLF (k : Nat) : List Ch := PL (idQ.take k) (dsQ.take k)
theorem c_tappF {h : List Ch} {K : KT} {u k : Nat} (H : K (.tup []) (h.set u (.pack (PLF (k + 1))))) (o : hth h u = .pack (PLF k)) (s1 : k < 3) : Does Try.prog 53 [.ptr u 1, .int .i64 ((k : Int) + 1), .agg [.int .i64 ((k : Int) + 1), .int .i64 8, .bool false, .int .i64 0]] h K := by
  have hl1 : (idQ.take k).length ≤ 1000 := by rw [List.length_take]; exact Nat.le_trans (Nat.min_le_left _ _) (by omega)
  have hl2 : (dsQ.take k).length ≤ 1000 := by rw [List.length_take]; exact Nat.le_trans (Nat.min_le_left _ _) (by omega)
  refine k_tapp (ids := idQ.take k) (vs := dsQ.take k) ?_ o hl1 hl2
  rw [idQ_take s1, dsQ_take s1]
  exact H
abbrev i_tappF := Ctr.mk (i := 0) (g := 53) @c_tappF
attribute [instance] i_tappF
theorem b_pnew : DoesK Try.prog 0 26 [.ro .pdf dsQ] [] (EndF 0 (.tup [.ptr 0 0, .int .i64 0]) [.pack (PL idQ dsQ)]) := by
  refine DoesK.close ?_
  have hl : ((dsQ.length : Nat) : Int) = 3 := rfl
  refine w_body (rs := [.tmp 2, .tmp 3]) (tm := [.ro .pdf dsQ, .any, .any, .any, .any, .any, .any, .any, .any, .any, .any, .any, .any, .any, .any, .any, .any, .any, .any, .any, .any, .any, .any, .any, .any, .any, .any, .any, .any, .any, .any, .any, .any, .any, .any, .any, .any, .any, .any, .any, .any, .any, .any, .any, .any, .any, .any, .any, .any, .any, .any, .any, .any, .any, .any, .any, .any, .any, .any, .any, .any, .any, .any, .any, .any, .any, .any, .any]) fn_26 rfl rfl rfl rfl fun R hR => ?_
  (have zx1 := @hl; all_goals (try ((first | (with_reducible refine wp_id ?_) | (with_reducible refine does_id ?_) | (with_reducible refine ops_id ?_)); refine walk ?_; (repeat' (first | exact trivial | with_reducible refine And.intro ?_ ?_)); all_goals (repeat (first | (with_reducible refine ImpB.mk fun hb => ?_) | (with_reducible refine ImpK.mk fun hK => ?_) | (with_reducible refine ImpF.mk fun hF => ?_) | (with_reducible refine ImpQ.mk fun hp => ?_) | (with_reducible refine AllE.mk fun p => ?_) | (with_reducible refine AllR.mk fun rest => ?_) | (with_reducible refine AllK.mk fun K => ?_))))); repeat' (with_reducible refine And.intro ?_ ?_))
  any_goals ((try (refine w_seq fun K hK => ?_)); (try (refine w_block ?_)); refine w_loop (A := Nat) (fun k => k ≤ 3) (fun k => 3 - k) (fun k => [(14, .int .i64 k), (4, .ptr 0 0)]) (fun k => [(0, .pack (PLF k))]) (0) (ws := ?ws1) (tk := ?tk1) ?hw1 ?ht1 ?hi ?h0 ?LH1; (case hw1 => simp only [go_sem, decide_true, decide_false, Int.reduceToNat, Nat.min_eq_left, Nat.min_eq_right, Int.reducePow, Nat.reducePow, Int.reduceLE, Int.reduceLT, Int.reduceMul, Int.reduceAdd, Int.reduceSub, Int.reduceNeg, Bool.not_true, Bool.not_false, Bool.not_not, ↓reduceIte, Nat.reduceAdd, Nat.reduceSub, Nat.reduceMul, Nat.reduceEqDiff, reduceCtorEq, Nat.reduceLT, Nat.reduceLeDiff, Nat.reduceGT]; exact rfl); (case ht1 => simp only [go_sem, decide_true, decide_false, Int.reduceToNat, Nat.min_eq_left, Nat.min_eq_right, Int.reducePow, Nat.reducePow, Int.reduceLE, Int.reduceLT, Int.reduceMul, Int.reduceAdd, Int.reduceSub, Int.reduceNeg, Bool.not_true, Bool.not_false, Bool.not_not, ↓reduceIte, Nat.reduceAdd, Nat.reduceSub, Nat.reduceMul, Nat.reduceEqDiff, reduceCtorEq, Nat.reduceLT, Nat.reduceLeDiff, Nat.reduceGT]; exact rfl); (case' LH1 => rintro k E t hx hE ht; simp only [go_sem] at ht; subst ht; simp only [go_sem]; try dsimp only at hx))
  case hi => exact Nat.zero_le _
  case h0 =>
    simp only [go_sem]
    refine ⟨_, _, Gh.trans (gh_adoptC (t := 0) (i := 1) .int rfl trivial) (Gh.trans (gh_adoptC (t := 0) (i := 2) .pdf rfl trivial) (gh_close (t := 0) (ts := [1, 2]) (l := PL [] []) ⟨⟨_, _, rfl⟩, ?fc, by simp⟩)), [0], rfl, ?ft⟩
    case' ft => (refine fitq ?_ ?_ ?_ <;> try exact trivial)
    case' fc => simp only [go_sem, decide_true, decide_false, Int.reduceToNat, Nat.min_eq_left, Nat.min_eq_right, Int.reducePow, Nat.reducePow, Int.reduceLE, Int.reduceLT, Int.reduceMul, Int.reduceAdd, Int.reduceSub, Int.reduceNeg, Bool.not_true, Bool.not_false, Bool.not_not, ↓reduceIte, Nat.reduceAdd, Nat.reduceSub, Nat.reduceMul, Nat.reduceEqDiff, reduceCtorEq, Nat.reduceLT, Nat.reduceLeDiff, Nat.reduceGT]
    all_goals (repeat' (first | (refine And.intro ?_ ?_) | rfl))
  case LH1 =>
    have hk0 : k ≤ 3 := hx
    by_cases hk : k < 3
    · have hkd : decide ((k : Int) < 3) = true := decide_eq_true (by omega)
      have hw : IntKind.i64.wrap ((k : Int) + 1) = ((k + 1 : Nat) : Int) := by rw [wrap_i64 _ (by omega) (by omega)]; omega
      have hxe := dsQ_at hk
      have d1 : decide (((k : Int) + 1) < 0) = false := decide_eq_false (by omega)
      have d2 : decide (65535 < ((k : Int) + 1)) = false := decide_eq_false (by omega)
      by_cases hz : k = 0
      · have d3 : decide ((0 : Int) < k) = false := decide_eq_false (by omega)
        (have zx1 := @hl; have zx2 := @hkd; have zx3 := @hw; have zx4 := @hxe; have zx5 := @d1; have zx6 := @d2; have zx7 := @d3; all_goals (try ((first | (with_reducible refine wp_id ?_) | (with_reducible refine does_id ?_) | (with_reducible refine ops_id ?_)); refine walk ?_; (repeat' (first | exact trivial | with_reducible refine And.intro ?_ ?_)); all_goals (repeat (first | (with_reducible refine ImpB.mk fun hb => ?_) | (with_reducible refine ImpK.mk fun hK => ?_) | (with_reducible refine ImpF.mk fun hF => ?_) | (with_reducible refine ImpQ.mk fun hp => ?_) | (with_reducible refine AllE.mk fun p => ?_) | (with_reducible refine AllR.mk fun rest => ?_) | (with_reducible refine AllK.mk fun K => ?_))))); repeat' (with_reducible refine And.intro ?_ ?_))
        all_goals first | (show _ ≤ (_ : Nat); omega) | (show _ < (_ : Int); omega) | (show _ ≤ (_ : Int); omega) | skip
        refine ⟨k + 1, ⟨by first | omega | (dsimp only; omega), by first | omega | (dsimp only; omega)⟩, ?_⟩
        dsimp only
        (focus (refine ⟨_, _, Gh.refl, [0], rfl, ?_⟩; (refine fitq ?_ ?_ ?_ <;> try exact trivial); (try any_goals (refine ⟨?_, ?_⟩)); (try any_goals (with_reducible rfl))))
        all_goals (repeat' (first | (refine And.intro ?_ ?_) | rfl))
      · have d3 : decide ((0 : Int) < k) = true := decide_eq_true (by omega)
        have hw1 : IntKind.i64.wrap ((k : Int) - 1) = ((k - 1 : Nat) : Int) := by rw [wrap_i64 _ (by omega) (by omega)]; omega
        have hxp : dsQ.getD (k - 1) Pdf.zero = ⟨(k : Int), 8, false, 0⟩ := by
          have := dsQ_at (k := k - 1) (by omega)
          rw [this]
          congr 1
          omega
        have d4 : decide ((k : Int) + 1 ≤ (k : Int)) = false := decide_eq_false (by omega)
        (have zx1 := @hl; have zx2 := @hkd; have zx3 := @hw; have zx4 := @hxe; have zx5 := @d1; have zx6 := @d2; have zx7 := @d3; have zx8 := @hw1; have zx9 := @hxp; have zx10 := @d4; all_goals (try ((first | (with_reducible refine wp_id ?_) | (with_reducible refine does_id ?_) | (with_reducible refine ops_id ?_)); refine walk ?_; (repeat' (first | exact trivial | with_reducible refine And.intro ?_ ?_)); all_goals (repeat (first | (with_reducible refine ImpB.mk fun hb => ?_) | (with_reducible refine ImpK.mk fun hK => ?_) | (with_reducible refine ImpF.mk fun hF => ?_) | (with_reducible refine ImpQ.mk fun hp => ?_) | (with_reducible refine AllE.mk fun p => ?_) | (with_reducible refine AllR.mk fun rest => ?_) | (with_reducible refine AllK.mk fun K => ?_))))); repeat' (with_reducible refine And.intro ?_ ?_))
        all_goals first | (show _ ≤ (_ : Nat); omega) | (show _ < (_ : Int); omega) | (show _ ≤ (_ : Int); omega) | skip
        refine ⟨k + 1, ⟨by first | omega | (dsimp only; omega), by first | omega | (dsimp only; omega)⟩, ?_⟩
        dsimp only
        (focus (refine ⟨_, _, Gh.refl, [0], rfl, ?_⟩; (refine fitq ?_ ?_ ?_ <;> try exact trivial); (try any_goals (refine ⟨?_, ?_⟩)); (try any_goals (with_reducible rfl))))
        all_goals (repeat' (first | (refine And.intro ?_ ?_) | rfl))
    · obtain rfl : k = 3 := by omega
      have hkd : decide (((3 : Nat) : Int) < 3) = false := by decide
      have h1 : PLF 3 = PL idQ dsQ := rfl
      rw [h1]
      (have zx1 := @hkd; all_goals (try ((first | (with_reducible refine wp_id ?_) | (with_reducible refine does_id ?_) | (with_reducible refine ops_id ?_)); refine walk ?_; (repeat' (first | exact trivial | with_reducible refine And.intro ?_ ?_)); all_goals (repeat (first | (with_reducible refine ImpB.mk fun hb => ?_) | (with_reducible refine ImpK.mk fun hK => ?_) | (with_reducible refine ImpF.mk fun hF => ?_) | (with_reducible refine ImpQ.mk fun hp => ?_) | (with_reducible refine AllE.mk fun p => ?_) | (with_reducible refine AllR.mk fun rest => ?_) | (with_reducible refine AllK.mk fun K => ?_))))); repeat' (with_reducible refine And.intro ?_ ?_))
      (focus (refine ⟨_, _, Gh.refl, [0], rfl, ?_⟩; (refine fitq ?_ ?_ ?_ <;> try exact trivial); (try any_goals (refine ⟨?_, ?_⟩)); (try any_goals (with_reducible rfl))))
      all_goals (repeat' (first | (refine And.intro ?_ ?_) | rfl))
theorem c_pnew {h : List Ch} {K : KT} {a : AV} (H : K (.tup [.ptr h.length 0, .int .i64 0]) (h ++ [.pack (PL idQ dsQ)])) (q1 : isRO .pdf dsQ a) : Does Try.prog 26 [a] h K :=
  frame_new b_pnew (br_cons q1.br br_nil) (.inl (by rw [brTL, q1.brT]; rfl)) (fun _ => rfl) (by simp [renA, renL, rhoC]) H
abbrev i_pnew := Ctr.mk (i := 0) (g := 26) @c_pnew
attribute [instance] i_pnew
theorem b_pool : DoesK Try.prog 0 9 [] [] (EndF 0 (.tup [.ptr 0 0, .int .i64 0]) [.pack (PL idQ dsQ)]) := by
  refine DoesK.close ?_
  have hro : RoLit := .mk
  refine w_body (rs := [.tmp 0, .tmp 1]) (tm := [.any, .any, .any, .any, .any, .any, .any, .any, .any]) fn_9 rfl rfl rfl rfl fun R hR => ?_
  (all_goals (try ((first | (with_reducible refine wp_id ?_) | (with_reducible refine does_id ?_) | (with_reducible refine ops_id ?_)); refine walk ?_; (repeat' (first | exact trivial | with_reducible refine And.intro ?_ ?_)); all_goals (repeat (first | (with_reducible refine ImpB.mk fun hb => ?_) | (with_reducible refine ImpK.mk fun hK => ?_) | (with_reducible refine ImpF.mk fun hF => ?_) | (with_reducible refine ImpQ.mk fun hp => ?_) | (with_reducible refine AllE.mk fun p => ?_) | (with_reducible refine AllR.mk fun rest => ?_) | (with_reducible refine AllK.mk fun K => ?_))))); repeat' (with_reducible refine And.intro ?_ ?_))
  (focus (refine ⟨_, _, Gh.refl, [0], rfl, ?_⟩; (refine fitq ?_ ?_ ?_ <;> try exact trivial); (try any_goals (refine ⟨?_, ?_⟩)); (try any_goals (with_reducible rfl))))
  all_goals (repeat' (first | (refine And.intro ?_ ?_) | rfl))
theorem c_pool {h : List Ch} {K : KT} (H : K (.tup [.ptr h.length 0, .int .i64 0]) (h ++ [.pack (PL idQ dsQ)])) : Does Try.prog 9 [] h K :=
  frame_new b_pool br_nil (.inl rfl) (fun _ => rfl) (by simp [renA, renL, rhoC]) H
abbrev i_pool := Ctr.mk (i := 0) (g := 9) @c_pool
attribute [instance] i_pool
theorem b_ping (n : Int) : DoesK Try.prog 0 10 [.int .i64 n] [] (EndF 0 (.agg [.int .i64 1, .int .i64 n, .int .i64 1, .ro .int [], .ro .byte []]) []) := by
  refine DoesK.close ?_
  refine w_body (rs := [.cell 2 31]) (tm := [.int .i64 n, .any, .any, .any, .any]) fn_10 rfl rfl rfl rfl fun R hR => ?_
  (all_goals (try ((first | (with_reducible refine wp_id ?_) | (with_reducible refine does_id ?_) | (with_reducible refine ops_id ?_)); refine walk ?_; (repeat' (first | exact trivial | with_reducible refine And.intro ?_ ?_)); all_goals (repeat (first | (with_reducible refine ImpB.mk fun hb => ?_) | (with_reducible refine ImpK.mk fun hK => ?_) | (with_reducible refine ImpF.mk fun hF => ?_) | (with_reducible refine ImpQ.mk fun hp => ?_) | (with_reducible refine AllE.mk fun p => ?_) | (with_reducible refine AllR.mk fun rest => ?_) | (with_reducible refine AllK.mk fun K => ?_))))); repeat' (with_reducible refine And.intro ?_ ?_))
  (focus (refine ⟨_, _, Gh.refl, [], rfl, ?_⟩; (refine fitq ?_ ?_ ?_ <;> try exact trivial); (try any_goals (refine ⟨?_, ?_⟩)); (try any_goals (with_reducible rfl))))
  all_goals (repeat' (first | (refine And.intro ?_ ?_) | rfl))
theorem c_ping {h : List Ch} {K : KT} {n : Int} (H : K (.agg [.int .i64 1, .int .i64 n, .int .i64 1, .ro .int [], .ro .byte []]) h) : Does Try.prog 10 [.int .i64 n] h K :=
  frame_pure (b_ping n) (br_cons br_int br_nil) (.inl rfl) (fun _ => rfl) H
abbrev i_ping := Ctr.mk (i := 0) (g := 10) @c_ping
attribute [instance] i_ping
end Go.V

set_option maxRecDepth 100000
set_option maxHeartbeats 8000000
namespace Go.V
open Go.Proofs
attribute [-go_sem] EN PL Wr
theorem c_fNew {h : List Ch} {K : KT} (H : K (.ptr h.length 0) (h ++ [.pack (EN 0 [])])) : Does Try.prog 11 [] h K :=
  c_eNew H
abbrev i_fNew := Ctr.mk (i := 0) (g := 11) @c_fNew
attribute [instance] i_fNew
structure LdS (L : List Prg) (id res : Int) (l : List Stp) (c : Int) (L' : List Prg) : Prop where
  un : ldQ L id res l = (c, L')
structure SrS (now : Int) (L : List Prg) (id n c now' : Int) (L' : List Prg) : Prop where
  un : srQ L id = (c, L')
  at1 : atQ now n = now'
structure TkS (now0 n : Int) (L : List Prg) (now : Int) (L' : List Prg) (O : List Cmd) : Prop where
  at1 : atQ now0 n = now
  un : tkL now L = L'
  out : tkO now L = O
structure RnS (L : List Prg) (O : List Int) : Prop where
  un : rnQ L = O
theorem c_fLoad {h : List Ch} {K : KT} {u : Nat} {now : Int} {L L' : List Prg} {id res c : Int} {l : List Stp} {a : AV} (H : K (.int .i64 c) (h.set u (.pack (EN now L')))) (o : hth h u = .pack (EN now L)) (q1 : isRO .stp l a) (e : LdS L id res l c L') (s1 : L.length ≤ 1000000) (s2 : litQ l) (s3 : smQ l) : Does Try.prog 12 [.ptr u 0, .int .i64 id, .int .i64 res, a] h K :=
  c_eLoad (by rw [e.un]; exact H) o q1 s1 s2 s3
abbrev i_fLoad := Ctr.mk (i := 0) (g := 12) @c_fLoad
attribute [instance] i_fLoad
theorem c_fStart {h : List Ch} {K : KT} {u : Nat} {now now' : Int} {L L' : List Prg} {id n c : Int} (H : K (.int .i64 c) (h.set u (.pack (EN now' L')))) (o : hth h u = .pack (EN now L)) (e : SrS now L id n c now' L') (s1 : L.length ≤ 1000000) : Does Try.prog 13 [.ptr u 0, .int .i64 id, .int .i64 n] h K :=
  c_eStart (by rw [e.un, e.at1]; exact H) o s1
abbrev i_fStart := Ctr.mk (i := 0) (g := 13) @c_fStart
attribute [instance] i_fStart
theorem c_fTick {h : List Ch} {K : KT} {u : Nat} {now0 n now : Int} {L L' : List Prg} {O : List Cmd} {a : AV} (H : K (.ro .cmd O) (h.set u (.pack (EN now L')))) (o : hth h u = .pack (EN now0 L)) (e : TkS now0 n L now L' O) (s1 : L.length ≤ 1000000) (s2 : ∀ x ∈ L, okR x) (s3 : 0 ≤ now0 ∧ now0 ≤ 1099511627776) : Does Try.prog 14 [.ptr u 0, .int .i64 n, a] h K :=
  c_eTick (by rw [e.at1, e.un, e.out]; exact H) o s1 s2 s3
abbrev i_fTick := Ctr.mk (i := 0) (g := 14) @c_fTick
attribute [instance] i_fTick
theorem c_fRun {h : List Ch} {K : KT} {u : Nat} {now : Int} {L : List Prg} {O : List Int} (H : K (.ro .int O) h) (o : hth h u = .pack (EN now L)) (e : RnS L O) (s1 : L.length ≤ 1000000) : Does Try.prog 16 [.ptr u 0] h K :=
  c_eRun (by rw [e.un]; exact H) o s1
abbrev i_fRun := Ctr.mk (i := 0) (g := 16) @c_fRun
attribute [instance] i_fRun
def aL : List Stp := [⟨2, 0, 0, 0, 0, 5, ⟨0, 0, 0, [], []⟩⟩, ⟨1, 0, 0, 0, 0, 0, ⟨1, 4, 1, [], []⟩⟩]
def bL : List Stp := [⟨2, 0, 0, 0, 0, 5, ⟨0, 0, 0, [], []⟩⟩, ⟨6, 0, 0, 0, 0, 0, ⟨0, 0, 0, [], []⟩⟩]
theorem smQ_of {l : List Stp} (h1 : l.length ≤ 1000000) (h : l.all (fun x => decide (x.c.args.length ≤ 1000000) && decide (x.c.data.length ≤ 1000000)) = true) : smQ l :=
  ⟨h1, fun x hx => by
    rw [List.all_eq_true] at h
    have := h x hx
    rw [Bool.and_eq_true, decide_eq_true_eq, decide_eq_true_eq] at this
    exact this⟩
theorem litQ_of {l : List Stp} (h : smQ l) : litQ l := fun x hx => by have := (h.2 x hx).1; omega
theorem aL_sm : smQ aL := smQ_of (by decide) (by decide)
theorem bL_sm : smQ bL := smQ_of (by decide) (by decide)
theorem okR_of {x : Prg} (h : (decide (x.steps.length ≤ 1000000) && x.steps.all (fun s => (decide (s.kind = 1) || decide (s.kind = 2) || decide (s.kind = 5) || decide (s.kind = 6)) && decide (0 ≤ s.next) && decide (s.next ≤ x.steps.length) && decide (0 ≤ s.ticks) && decide (s.ticks ≤ 1099511627776) && decide (s.c.args.length ≤ 1000000) && decide (s.c.data.length ≤ 1000000)) && decide (0 ≤ x.pos) && decide (x.pos ≤ x.steps.length)) = true) : okR x := by
  simp only [Bool.and_eq_true, decide_eq_true_eq, List.all_eq_true, Bool.or_eq_true] at h
  obtain ⟨⟨⟨h1, h2⟩, h3⟩, h4⟩ := h
  refine ⟨⟨h1, fun s hs => ?_⟩, h3, h4⟩
  obtain ⟨⟨⟨⟨⟨⟨k, n0⟩, n1⟩, t0⟩, t1⟩, c1⟩, c2⟩ := h2 s hs
  exact ⟨by omega, fun _ => ⟨n0, n1⟩, ⟨t0, t1⟩, c1, c2⟩
abbrev aQ (r : Bool) (p : Int) (w : Bool) (u : Int) : List Prg := [⟨9, 1, aL, r, p, w, u⟩]
theorem aQ_ok (r : Bool) (p : Int) (w : Bool) (u : Int) (h : 0 ≤ p ∧ p ≤ 2) : ∀ x ∈ aQ r p w u, okR x := by
  intro x hx
  rw [List.mem_singleton] at hx
  subst hx
  refine ⟨(okR_of (x := ⟨9, 1, aL, true, 0, true, 0⟩) (by decide +kernel)).1, h.1, h.2⟩
theorem b_alive : DoesK Try.prog 0 8 [] [] (EndF 0 (.bool true) []) := by
  refine DoesK.close ?_
  have hro : RoLit := .mk
  have f1 : LdS [] 9 1 aL 0 (aQ false 0 false 0) := ⟨by decide +kernel⟩
  have f2 : SrS 0 (aQ false 0 false 0) 9 10 0 10 (aQ true 0 false 0) := ⟨by decide +kernel, by decide⟩
  have g1 : TkS 10 11 (aQ true 0 false 0) 11 (aQ true 0 true 16) [] := ⟨by decide, by decide +kernel, by decide +kernel⟩
  have i1 : TkS 11 15 (aQ true 0 true 16) 15 (aQ true 0 true 16) [] := ⟨by decide, by decide +kernel, by decide +kernel⟩
  have j1 : TkS 15 16 (aQ true 0 true 16) 16 (aQ false 2 false 16) [⟨1, 4, 1, [], []⟩] := ⟨by decide, by decide +kernel, by decide +kernel⟩
  have r1 : RnS (aQ true 0 true 16) [9] := ⟨by decide +kernel⟩
  have r2 : RnS (aQ false 2 false 16) [] := ⟨by decide +kernel⟩
  have v1 : vldQ bL = true := by decide +kernel
  have v2 : encQ bL = [4, 2, 10, 6] := by decide +kernel
  refine w_body (rs := [.tmp 0]) (tm := [.any, .any, .any, .any, .any, .any, .any, .any, .any, .any, .any, .any, .any, .any, .any, .any, .any, .any, .any, .any, .any, .any, .any, .any, .any, .any, .any, .any, .any, .any, .any, .any, .any, .any, .any, .any, .any, .any, .any, .any, .any, .any, .any, .any, .any, .any, .any, .any, .any, .any, .any, .any, .any, .any, .any, .any, .any, .any, .any, .any, .any, .any, .any, .any, .any, .any, .any, .any, .any, .any, .any, .any, .any, .any, .any, .any, .any, .any, .any, .any, .any, .any, .any, .any, .any, .any, .any, .any, .any, .any, .any, .any, .any, .any, .any]) fn_8 rfl rfl rfl rfl fun R hR => ?_
  (all_goals (try ((first | (with_reducible refine wp_id ?_) | (with_reducible refine does_id ?_) | (with_reducible refine ops_id ?_)); refine walk ?_; (repeat' (first | exact trivial | with_reducible refine And.intro ?_ ?_)); all_goals (repeat (first | (with_reducible refine ImpB.mk fun hb => ?_) | (with_reducible refine ImpK.mk fun hK => ?_) | (with_reducible refine ImpF.mk fun hF => ?_) | (with_reducible refine ImpQ.mk fun hp => ?_) | (with_reducible refine AllE.mk fun p => ?_) | (with_reducible refine AllR.mk fun rest => ?_) | (with_reducible refine AllK.mk fun K => ?_))))); repeat' (with_reducible refine And.intro ?_ ?_))
  · (focus (refine ⟨_, _, Gh.refl, [], rfl, ?_⟩; (refine fitq ?_ ?_ ?_ <;> try exact trivial); (try any_goals (refine ⟨?_, ?_⟩)); (try any_goals (with_reducible rfl))))
  · exact absurd (hb.symm.trans (decide_eq_true v2)) (by decide)
  · exact Nat.le_refl _
  · exact absurd hb (by decide +kernel)
  · exact litQ_of bL_sm
  · exact aQ_ok true 0 true 16 (by decide)
  · exact aQ_ok true 0 false 0 (by decide)
  · exact litQ_of aL_sm
  · exact aL_sm
theorem c_alive {h : List Ch} {K : KT} (H : K (.bool true) h) : Does Try.prog 8 [] h K :=
  frame_pure b_alive br_nil (.inl rfl) (fun _ => rfl) H
abbrev i_alive := Ctr.mk (i := 0) (g := 8) @c_alive
attribute [instance] i_alive
end Go.V
