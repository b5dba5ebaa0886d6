/-
  ref48: Same, Light.
  law 48: the example.
-/
import Derived.Test.YthfcimcmmhnjmaaPart20
import Derived.Test.YthfcimcmmhnjmaaPart17
import Derived.Test.YthfcimcmmhnjmaaPart21
set_option linter.unusedVariables false
set_option linter.unusedSimpArgs false
set_option maxRecDepth 100000
set_option maxHeartbeats 4000000
namespace Go.V
open Go.Proofs
attribute [-go_sem] Wr
theorem ck_ext {a b : Ck} (h1 : a.boots = b.boots) (h2 : a.mode = b.mode) (h3 : a.time = b.time) (h4 : a.led = b.led) (h5 : a.ents = b.ents) (h6 : a.sides = b.sides) (h7 : a.done = b.done) (h8 : a.next = b.next) : a = b := by
  cases a; cases b
  simp only at *
  subst h1; subst h2; subst h3; subst h4; subst h5; subst h6; subst h7; subst h8
  rfl
instance : DecidableEq Ck := fun a b => decidable_of_iff (a.boots = b.boots ∧ a.mode = b.mode ∧ a.time = b.time ∧ a.led = b.led ∧ a.ents = b.ents ∧ a.sides = b.sides ∧ a.done = b.done ∧ a.next = b.next)
  ⟨fun ⟨h1, h2, h3, h4, h5, h6, h7, h8⟩ => ck_ext h1 h2 h3 h4 h5 h6 h7 h8, fun h => by subst h; exact ⟨rfl, rfl, rfl, rfl, rfl, rfl, rfl, rfl⟩⟩
theorem int_ext {l m : List Int} (hl : l.length = m.length) (h : ∀ j, j < l.length → l.getD j 0 = m.getD j 0) : l = m := by
  apply List.ext_getElem hl
  intro j h1 h2
  have := h j h1
  rw [List.getD_eq_getElem?_getD, List.getD_eq_getElem?_getD, List.getElem?_eq_getElem h1, List.getElem?_eq_getElem h2] at this
  exact this
theorem fid_ext {l m : List Fid} (hl : l.length = m.length) (h : ∀ j, j < l.length → l.getD j Fid.zero = m.getD j Fid.zero) : l = m := by
  apply List.ext_getElem hl
  intro j h1 h2
  have := h j h1
  rw [fid_at h1, fid_at h2] at this
  exact this
theorem b_ksame (a b : Ck) (ha : CkS a) (hb : CkS b) : DoesK Try.prog 0 15 [.agg (ckL a), .agg (ckL b)] [] (EndF 0 (.bool (decide (a = b))) []) := by
  refine DoesK.close ?_
  obtain ⟨z1, z2, z3, z4, z5⟩ := ha
  obtain ⟨y1, y2, y3, y4, y5⟩ := hb
  refine w_body (rs := [.tmp 4]) (tm := [.agg (ckL a), .agg (ckL b), .any, .any, .any, .any, .any, .any, .any, .any, .any, .any, .any, .any, .any, .any, .any, .any, .any, .any, .any, .any, .any, .any, .any, .any, .any, .any, .any, .any, .any, .any, .any, .any, .any, .any, .any, .any, .any, .any, .any, .any, .any, .any, .any, .any, .any, .any, .any, .any, .any, .any, .any, .any, .any, .any, .any, .any, .any, .any, .any, .any, .any, .any, .any, .any, .any, .any, .any, .any, .any, .any, .any, .any, .any, .any, .any, .any, .any, .any, .any, .any, .any, .any, .any, .any, .any, .any, .any, .any, .any, .any, .any, .any, .any, .any, .any, .any, .any, .any, .any, .any, .any, .any]) fn_15 rfl rfl rfl rfl fun R hR => ?_
  (all_goals (try ((first | (with_reducible refine wp_id ?_) | (with_reducible refine does_id ?_)); refine walk ?_; (repeat' (first | exact trivial | with_reducible refine And.intro ?_ ?_)); all_goals (repeat (first | (with_reducible refine ImpB.mk fun hb => ?_) | (with_reducible refine ImpK.mk fun hK => ?_) | (with_reducible refine ImpF.mk fun hF => ?_) | (with_reducible refine AllK.mk fun K => ?_))))); repeat' (with_reducible refine And.intro ?_ ?_))
  all_goals try first | omega | exact Int.natCast_nonneg _
  all_goals try (focus (rw [decide_eq_false (fun e : a = b => by rw [e] at hb; simp at hb)]; (focus (refine ⟨_, _, Gh.refl, [], rfl, ?_⟩; (refine ⟨?_, ?_, ?_⟩ <;> simp only [go_sem, List.range, List.range.loop, List.nodup_cons, List.nodup_nil, List.mem_cons, List.not_mem_nil, or_false, or_self, Int.reduceToNat, Nat.min_eq_left, Nat.min_eq_right, Int.reducePow, Nat.reducePow, Int.reduceLE, Int.reduceLT, Int.reduceMul, Int.reduceAdd, Int.reduceSub, Int.reduceNeg, Bool.not_true, Bool.not_false, Bool.not_not, ↓reduceIte, Nat.reduceAdd, Nat.reduceSub, Nat.reduceMul, Nat.reduceEqDiff, reduceCtorEq, Nat.reduceLT, Nat.reduceLeDiff, Nat.reduceGT]); (try any_goals (refine ⟨?_, ?_⟩)); (try any_goals (with_reducible rfl)))); done))
  simp only [decide_eq_false_iff_not, Decidable.not_not, Bool.not_eq_false', decide_eq_true_eq] at *
  have g1 : a.boots = b.boots := by assumption
  have g2 : a.mode = b.mode := by assumption
  have g3 : a.time = b.time := by assumption
  have g4 : a.led = b.led := by assumption
  have g5 : a.ents = b.ents := by assumption
  have g8 : a.next = b.next := by assumption
  have g6 : a.sides.length = b.sides.length := by omega
  have g7 : a.done.length = b.done.length := by omega
  any_goals (refine w_loop (A := Nat) (fun k => k ≤ a.sides.length ∧ (∀ j, j < k → a.sides.getD j 0 = b.sides.getD j 0)) (fun k => a.sides.length - k) (fun k => [(5, .int .i64 k)]) (fun _ => []) (0) (ws := ?ws1) (tk := ?tk1) ?hw1 ?ht1 ?hi ?h0 ?LH1; (case hw1 => simp only [go_sem, Int.reduceToNat, Nat.min_eq_left, Nat.min_eq_right, Int.reducePow, Nat.reducePow, Int.reduceLE, Int.reduceLT, Int.reduceMul, Int.reduceAdd, Int.reduceSub, Int.reduceNeg, Bool.not_true, Bool.not_false, Bool.not_not, ↓reduceIte, Nat.reduceAdd, Nat.reduceSub, Nat.reduceMul, Nat.reduceEqDiff, reduceCtorEq, Nat.reduceLT, Nat.reduceLeDiff, Nat.reduceGT]; exact rfl); (case ht1 => simp only [go_sem, Int.reduceToNat, Nat.min_eq_left, Nat.min_eq_right, Int.reducePow, Nat.reducePow, Int.reduceLE, Int.reduceLT, Int.reduceMul, Int.reduceAdd, Int.reduceSub, Int.reduceNeg, Bool.not_true, Bool.not_false, Bool.not_not, ↓reduceIte, Nat.reduceAdd, Nat.reduceSub, Nat.reduceMul, Nat.reduceEqDiff, reduceCtorEq, Nat.reduceLT, Nat.reduceLeDiff, Nat.reduceGT]; exact rfl); (case' LH1 => rintro k E t hx hE ht; simp only [go_sem] at ht; subst ht; simp only [go_sem]; try dsimp only at hx))
  case hi => exact ⟨Nat.zero_le _, fun j hj => absurd hj (Nat.not_lt_zero j)⟩
  case h0 => (focus (refine ⟨_, _, Gh.refl, [0, 1], rfl, ?_⟩; (refine ⟨?_, ?_, ?_⟩ <;> simp only [go_sem, List.range, List.range.loop, List.nodup_cons, List.nodup_nil, List.mem_cons, List.not_mem_nil, or_false, or_self, Int.reduceToNat, Nat.min_eq_left, Nat.min_eq_right, Int.reducePow, Nat.reducePow, Int.reduceLE, Int.reduceLT, Int.reduceMul, Int.reduceAdd, Int.reduceSub, Int.reduceNeg, Bool.not_true, Bool.not_false, Bool.not_not, ↓reduceIte, Nat.reduceAdd, Nat.reduceSub, Nat.reduceMul, Nat.reduceEqDiff, reduceCtorEq, Nat.reduceLT, Nat.reduceLeDiff, Nat.reduceGT]); (try any_goals (refine ⟨?_, ?_⟩)); (try any_goals (with_reducible rfl))))
  case LH1 =>
    by_cases hk : k < a.sides.length
    · have hkd : decide ((k : Int) < a.sides.length) = true := decide_eq_true (by omega)
      (have zx1 := @hkd; all_goals (try ((first | (with_reducible refine wp_id ?_) | (with_reducible refine does_id ?_)); refine walk ?_; (repeat' (first | exact trivial | with_reducible refine And.intro ?_ ?_)); all_goals (repeat (first | (with_reducible refine ImpB.mk fun hb => ?_) | (with_reducible refine ImpK.mk fun hK => ?_) | (with_reducible refine ImpF.mk fun hF => ?_) | (with_reducible refine AllK.mk fun K => ?_))))); repeat' (with_reducible refine And.intro ?_ ?_))
      all_goals first | exact Int.natCast_nonneg _ | omega | skip
      · rw [decide_eq_false (fun e : a = b => by rw [e] at hb; simp at hb)]
        (focus (refine ⟨_, _, Gh.refl, [], rfl, ?_⟩; (refine ⟨?_, ?_, ?_⟩ <;> simp only [go_sem, List.range, List.range.loop, List.nodup_cons, List.nodup_nil, List.mem_cons, List.not_mem_nil, or_false, or_self, Int.reduceToNat, Nat.min_eq_left, Nat.min_eq_right, Int.reducePow, Nat.reducePow, Int.reduceLE, Int.reduceLT, Int.reduceMul, Int.reduceAdd, Int.reduceSub, Int.reduceNeg, Bool.not_true, Bool.not_false, Bool.not_not, ↓reduceIte, Nat.reduceAdd, Nat.reduceSub, Nat.reduceMul, Nat.reduceEqDiff, reduceCtorEq, Nat.reduceLT, Nat.reduceLeDiff, Nat.reduceGT]); (try any_goals (refine ⟨?_, ?_⟩)); (try any_goals (with_reducible rfl))))
      · have hxk : a.sides.getD k 0 = b.sides.getD k 0 := Decidable.not_not.1 (of_decide_eq_false hb)
        refine ⟨k + 1, ⟨⟨by first | omega | (dsimp only; omega), fun j hj => ?m1⟩, by first | omega | (dsimp only; omega)⟩, ?m2⟩
        case m1 =>
          by_cases hjk : j < k
          · exact hx.2 j hjk
          · obtain rfl : j = k := by omega
            exact hxk
        (focus (refine ⟨_, _, Gh.refl, [0, 1], rfl, ?_⟩; (refine ⟨?_, ?_, ?_⟩ <;> simp only [go_sem, List.range, List.range.loop, List.nodup_cons, List.nodup_nil, List.mem_cons, List.not_mem_nil, or_false, or_self, Int.reduceToNat, Nat.min_eq_left, Nat.min_eq_right, Int.reducePow, Nat.reducePow, Int.reduceLE, Int.reduceLT, Int.reduceMul, Int.reduceAdd, Int.reduceSub, Int.reduceNeg, Bool.not_true, Bool.not_false, Bool.not_not, ↓reduceIte, Nat.reduceAdd, Nat.reduceSub, Nat.reduceMul, Nat.reduceEqDiff, reduceCtorEq, Nat.reduceLT, Nat.reduceLeDiff, Nat.reduceGT]); (try any_goals (refine ⟨?_, ?_⟩)); (try any_goals (with_reducible rfl))))
        all_goals first | (first | with_reducible rfl | omega | ((simp (disch := omega) only [wrap_i64]); first | done | omega) | (simp only [List.append_assoc, List.cons_append, List.nil_append]; done)) | skip
    · have hkd : decide ((k : Int) < a.sides.length) = false := decide_eq_false (by omega)
      have g9 : a.sides = b.sides := int_ext g6 fun j hj => hx.2 j (by omega)
      clear hx
      (have zx1 := @hkd; all_goals (try ((first | (with_reducible refine wp_id ?_) | (with_reducible refine does_id ?_)); refine walk ?_; (repeat' (first | exact trivial | with_reducible refine And.intro ?_ ?_)); all_goals (repeat (first | (with_reducible refine ImpB.mk fun hb => ?_) | (with_reducible refine ImpK.mk fun hK => ?_) | (with_reducible refine ImpF.mk fun hF => ?_) | (with_reducible refine AllK.mk fun K => ?_))))); repeat' (with_reducible refine And.intro ?_ ?_))
      any_goals (refine w_loop (A := Nat) (fun i => i ≤ a.done.length ∧ (∀ j, j < i → a.done.getD j Fid.zero = b.done.getD j Fid.zero)) (fun i => a.done.length - i) (fun i => [(6, .int .i64 i)]) (fun _ => []) (0) (ws := ?ws2) (tk := ?tk2) ?hw2 ?ht2 ?hi_1 ?h0_1 ?LH2; (case hw2 => simp only [go_sem, Int.reduceToNat, Nat.min_eq_left, Nat.min_eq_right, Int.reducePow, Nat.reducePow, Int.reduceLE, Int.reduceLT, Int.reduceMul, Int.reduceAdd, Int.reduceSub, Int.reduceNeg, Bool.not_true, Bool.not_false, Bool.not_not, ↓reduceIte, Nat.reduceAdd, Nat.reduceSub, Nat.reduceMul, Nat.reduceEqDiff, reduceCtorEq, Nat.reduceLT, Nat.reduceLeDiff, Nat.reduceGT]; exact rfl); (case ht2 => simp only [go_sem, Int.reduceToNat, Nat.min_eq_left, Nat.min_eq_right, Int.reducePow, Nat.reducePow, Int.reduceLE, Int.reduceLT, Int.reduceMul, Int.reduceAdd, Int.reduceSub, Int.reduceNeg, Bool.not_true, Bool.not_false, Bool.not_not, ↓reduceIte, Nat.reduceAdd, Nat.reduceSub, Nat.reduceMul, Nat.reduceEqDiff, reduceCtorEq, Nat.reduceLT, Nat.reduceLeDiff, Nat.reduceGT]; exact rfl); (case' LH2 => rintro i E t hx hE ht; simp only [go_sem] at ht; subst ht; simp only [go_sem]; try dsimp only at hx))
      case hi_1 => exact ⟨Nat.zero_le _, fun j hj => absurd hj (Nat.not_lt_zero j)⟩
      case h0_1 => (focus (refine ⟨_, _, Gh.refl, [0, 1], rfl, ?_⟩; (refine ⟨?_, ?_, ?_⟩ <;> simp only [go_sem, List.range, List.range.loop, List.nodup_cons, List.nodup_nil, List.mem_cons, List.not_mem_nil, or_false, or_self, Int.reduceToNat, Nat.min_eq_left, Nat.min_eq_right, Int.reducePow, Nat.reducePow, Int.reduceLE, Int.reduceLT, Int.reduceMul, Int.reduceAdd, Int.reduceSub, Int.reduceNeg, Bool.not_true, Bool.not_false, Bool.not_not, ↓reduceIte, Nat.reduceAdd, Nat.reduceSub, Nat.reduceMul, Nat.reduceEqDiff, reduceCtorEq, Nat.reduceLT, Nat.reduceLeDiff, Nat.reduceGT]); (try any_goals (refine ⟨?_, ?_⟩)); (try any_goals (with_reducible rfl))))
      case LH2 =>
        by_cases hi : i < a.done.length
        · have hid : decide ((i : Int) < a.done.length) = true := decide_eq_true (by omega)
          (have zx1 := @hid; all_goals (try ((first | (with_reducible refine wp_id ?_) | (with_reducible refine does_id ?_)); refine walk ?_; (repeat' (first | exact trivial | with_reducible refine And.intro ?_ ?_)); all_goals (repeat (first | (with_reducible refine ImpB.mk fun hb => ?_) | (with_reducible refine ImpK.mk fun hK => ?_) | (with_reducible refine ImpF.mk fun hF => ?_) | (with_reducible refine AllK.mk fun K => ?_))))); repeat' (with_reducible refine And.intro ?_ ?_))
          all_goals first | exact Int.natCast_nonneg _ | omega | skip
          · rw [decide_eq_false (fun e : a = b => by rw [e] at hb; simp at hb)]
            (focus (refine ⟨_, _, Gh.refl, [], rfl, ?_⟩; (refine ⟨?_, ?_, ?_⟩ <;> simp only [go_sem, List.range, List.range.loop, List.nodup_cons, List.nodup_nil, List.mem_cons, List.not_mem_nil, or_false, or_self, Int.reduceToNat, Nat.min_eq_left, Nat.min_eq_right, Int.reducePow, Nat.reducePow, Int.reduceLE, Int.reduceLT, Int.reduceMul, Int.reduceAdd, Int.reduceSub, Int.reduceNeg, Bool.not_true, Bool.not_false, Bool.not_not, ↓reduceIte, Nat.reduceAdd, Nat.reduceSub, Nat.reduceMul, Nat.reduceEqDiff, reduceCtorEq, Nat.reduceLT, Nat.reduceLeDiff, Nat.reduceGT]); (try any_goals (refine ⟨?_, ?_⟩)); (try any_goals (with_reducible rfl))))
          · have hxi : a.done.getD i Fid.zero = b.done.getD i Fid.zero := by
              simp only [Bool.not_eq_false', Bool.and_eq_true, decide_eq_true_eq, Bool.and_true] at hb
              exact fid_eq hb.1 (by first | exact hb.2 | exact hb.2.1)
            refine ⟨i + 1, ⟨⟨by first | omega | (dsimp only; omega), fun j hj => ?m3⟩, by first | omega | (dsimp only; omega)⟩, ?m4⟩
            case m3 =>
              by_cases hjk : j < i
              · exact hx.2 j hjk
              · obtain rfl : j = i := by omega
                exact hxi
            (focus (refine ⟨_, _, Gh.refl, [0, 1], rfl, ?_⟩; (refine ⟨?_, ?_, ?_⟩ <;> simp only [go_sem, List.range, List.range.loop, List.nodup_cons, List.nodup_nil, List.mem_cons, List.not_mem_nil, or_false, or_self, Int.reduceToNat, Nat.min_eq_left, Nat.min_eq_right, Int.reducePow, Nat.reducePow, Int.reduceLE, Int.reduceLT, Int.reduceMul, Int.reduceAdd, Int.reduceSub, Int.reduceNeg, Bool.not_true, Bool.not_false, Bool.not_not, ↓reduceIte, Nat.reduceAdd, Nat.reduceSub, Nat.reduceMul, Nat.reduceEqDiff, reduceCtorEq, Nat.reduceLT, Nat.reduceLeDiff, Nat.reduceGT]); (try any_goals (refine ⟨?_, ?_⟩)); (try any_goals (with_reducible rfl))))
            all_goals first | (first | with_reducible rfl | omega | ((simp (disch := omega) only [wrap_i64]); first | done | omega) | (simp only [List.append_assoc, List.cons_append, List.nil_append]; done)) | skip
        · have hid : decide ((i : Int) < a.done.length) = false := decide_eq_false (by omega)
          have g10 : a.done = b.done := fid_ext g7 fun j hj => hx.2 j (by omega)
          (have zx1 := @hid; all_goals (try ((first | (with_reducible refine wp_id ?_) | (with_reducible refine does_id ?_)); refine walk ?_; (repeat' (first | exact trivial | with_reducible refine And.intro ?_ ?_)); all_goals (repeat (first | (with_reducible refine ImpB.mk fun hb => ?_) | (with_reducible refine ImpK.mk fun hK => ?_) | (with_reducible refine ImpF.mk fun hF => ?_) | (with_reducible refine AllK.mk fun K => ?_))))); repeat' (with_reducible refine And.intro ?_ ?_))
          rw [decide_eq_true (ck_ext g1 g2 g3 g4 g5 g9 g10 g8)]
          (focus (refine ⟨_, _, Gh.refl, [], rfl, ?_⟩; (refine ⟨?_, ?_, ?_⟩ <;> simp only [go_sem, List.range, List.range.loop, List.nodup_cons, List.nodup_nil, List.mem_cons, List.not_mem_nil, or_false, or_self, Int.reduceToNat, Nat.min_eq_left, Nat.min_eq_right, Int.reducePow, Nat.reducePow, Int.reduceLE, Int.reduceLT, Int.reduceMul, Int.reduceAdd, Int.reduceSub, Int.reduceNeg, Bool.not_true, Bool.not_false, Bool.not_not, ↓reduceIte, Nat.reduceAdd, Nat.reduceSub, Nat.reduceMul, Nat.reduceEqDiff, reduceCtorEq, Nat.reduceLT, Nat.reduceLeDiff, Nat.reduceGT]); (try any_goals (refine ⟨?_, ?_⟩)); (try any_goals (with_reducible rfl))))
theorem b_elight2 (l : List Ent) (n : Int) (hl : l.length ≤ 9223372036854775807) : DoesK Try.prog 0 16 [.ro .ent l, .int .i64 n] [] (EndF 0 (.bool (l.all liteB && decide ((l.length : Int) ≤ n))) []) := by
  refine DoesK.close ?_
  refine w_body (rs := [.tmp 4]) (tm := [.ro .ent l, .int .i64 n, .any, .any, .any, .any, .any, .any, .any, .any, .any, .any, .any, .any, .any, .any, .any, .any, .any, .any, .any, .any, .any, .any, .any, .any, .any, .any, .any, .any, .any, .any, .any, .any]) fn_16 rfl rfl rfl rfl fun R hR => ?_
  (all_goals (try ((first | (with_reducible refine wp_id ?_) | (with_reducible refine does_id ?_)); refine walk ?_; (repeat' (first | exact trivial | with_reducible refine And.intro ?_ ?_)); all_goals (repeat (first | (with_reducible refine ImpB.mk fun hb => ?_) | (with_reducible refine ImpK.mk fun hK => ?_) | (with_reducible refine ImpF.mk fun hF => ?_) | (with_reducible refine AllK.mk fun K => ?_))))); repeat' (with_reducible refine And.intro ?_ ?_))
  any_goals (refine w_loop (A := Nat) (fun k => k ≤ l.length ∧ (l.take k).all liteB = true) (fun k => l.length - k) (fun k => [(5, .int .i64 k)]) (fun _ => []) (0) (ws := ?ws3) (tk := ?tk3) ?hw3 ?ht3 ?hi ?h0 ?LH3; (case hw3 => simp only [go_sem, Int.reduceToNat, Nat.min_eq_left, Nat.min_eq_right, Int.reducePow, Nat.reducePow, Int.reduceLE, Int.reduceLT, Int.reduceMul, Int.reduceAdd, Int.reduceSub, Int.reduceNeg, Bool.not_true, Bool.not_false, Bool.not_not, ↓reduceIte, Nat.reduceAdd, Nat.reduceSub, Nat.reduceMul, Nat.reduceEqDiff, reduceCtorEq, Nat.reduceLT, Nat.reduceLeDiff, Nat.reduceGT]; exact rfl); (case ht3 => simp only [go_sem, Int.reduceToNat, Nat.min_eq_left, Nat.min_eq_right, Int.reducePow, Nat.reducePow, Int.reduceLE, Int.reduceLT, Int.reduceMul, Int.reduceAdd, Int.reduceSub, Int.reduceNeg, Bool.not_true, Bool.not_false, Bool.not_not, ↓reduceIte, Nat.reduceAdd, Nat.reduceSub, Nat.reduceMul, Nat.reduceEqDiff, reduceCtorEq, Nat.reduceLT, Nat.reduceLeDiff, Nat.reduceGT]; exact rfl); (case' LH3 => rintro k E t hx hE ht; simp only [go_sem] at ht; subst ht; simp only [go_sem]; try dsimp only at hx))
  (all_goals (try ((first | (with_reducible refine wp_id ?_) | (with_reducible refine does_id ?_)); refine walk ?_; (repeat' (first | exact trivial | with_reducible refine And.intro ?_ ?_)); all_goals (repeat (first | (with_reducible refine ImpB.mk fun hb => ?_) | (with_reducible refine ImpK.mk fun hK => ?_) | (with_reducible refine ImpF.mk fun hF => ?_) | (with_reducible refine AllK.mk fun K => ?_))))); repeat' (with_reducible refine And.intro ?_ ?_))
  (all_goals (repeat (first | (clear hK; clear K) | (clear hE; clear E) | (clear hF; clear F) | (clear hR; clear R))); all_goals (try simp only [decide_eq_true_eq, decide_eq_false_iff_not, Bool.not_eq_true', Bool.not_eq_false', Bool.not_eq_true, Bool.not_eq_false, decide_not, decide_true, decide_false, Bool.decide_and, Bool.and_eq_true, Bool.or_eq_true, Bool.and_eq_false_imp, Decidable.not_not] at *); all_goals (try omega); all_goals (try (first | exact u8w_lo _ | exact u8w_hi _ | exact (bits8 _ _ _).1 | exact (bits8 _ _ _).2 | exact Int.natCast_nonneg _ | exact u8_ltI _)))
  · rw [light_no (k := k) (by omega) (by simp only [liteB, Bool.and_eq_false_iff, decide_eq_false_iff_not]; omega)]
    (focus (refine ⟨_, _, Gh.refl, [], rfl, ?_⟩; (refine ⟨?_, ?_, ?_⟩ <;> simp only [go_sem, List.range, List.range.loop, List.nodup_cons, List.nodup_nil, List.mem_cons, List.not_mem_nil, or_false, or_self, Int.reduceToNat, Nat.min_eq_left, Nat.min_eq_right, Int.reducePow, Nat.reducePow, Int.reduceLE, Int.reduceLT, Int.reduceMul, Int.reduceAdd, Int.reduceSub, Int.reduceNeg, Bool.not_true, Bool.not_false, Bool.not_not, ↓reduceIte, Nat.reduceAdd, Nat.reduceSub, Nat.reduceMul, Nat.reduceEqDiff, reduceCtorEq, Nat.reduceLT, Nat.reduceLeDiff, Nat.reduceGT]); (try any_goals (refine ⟨?_, ?_⟩)); (try any_goals (with_reducible rfl))))
  · rw [light_no (k := k) (by omega) (by simp only [liteB, Bool.and_eq_false_iff, decide_eq_false_iff_not]; omega)]
    (focus (refine ⟨_, _, Gh.refl, [], rfl, ?_⟩; (refine ⟨?_, ?_, ?_⟩ <;> simp only [go_sem, List.range, List.range.loop, List.nodup_cons, List.nodup_nil, List.mem_cons, List.not_mem_nil, or_false, or_self, Int.reduceToNat, Nat.min_eq_left, Nat.min_eq_right, Int.reducePow, Nat.reducePow, Int.reduceLE, Int.reduceLT, Int.reduceMul, Int.reduceAdd, Int.reduceSub, Int.reduceNeg, Bool.not_true, Bool.not_false, Bool.not_not, ↓reduceIte, Nat.reduceAdd, Nat.reduceSub, Nat.reduceMul, Nat.reduceEqDiff, reduceCtorEq, Nat.reduceLT, Nat.reduceLeDiff, Nat.reduceGT]); (try any_goals (refine ⟨?_, ?_⟩)); (try any_goals (with_reducible rfl))))
  · refine ⟨k + 1, ⟨⟨by first | omega | (dsimp only; omega), ?n1⟩, by first | omega | (dsimp only; omega)⟩, ?n2⟩
    case n1 =>
      rw [ent_take (by omega), List.all_append, hx.2]
      simp only [List.all_cons, List.all_nil, Bool.and_true, liteB, Bool.and_eq_true, decide_eq_true_eq, Bool.true_and]
      omega
    (focus (refine ⟨_, _, Gh.refl, [], rfl, ?_⟩; (refine ⟨?_, ?_, ?_⟩ <;> simp only [go_sem, List.range, List.range.loop, List.nodup_cons, List.nodup_nil, List.mem_cons, List.not_mem_nil, or_false, or_self, Int.reduceToNat, Nat.min_eq_left, Nat.min_eq_right, Int.reducePow, Nat.reducePow, Int.reduceLE, Int.reduceLT, Int.reduceMul, Int.reduceAdd, Int.reduceSub, Int.reduceNeg, Bool.not_true, Bool.not_false, Bool.not_not, ↓reduceIte, Nat.reduceAdd, Nat.reduceSub, Nat.reduceMul, Nat.reduceEqDiff, reduceCtorEq, Nat.reduceLT, Nat.reduceLeDiff, Nat.reduceGT]); (try any_goals (refine ⟨?_, ?_⟩)); (try any_goals (with_reducible rfl))))
    all_goals first | (first | with_reducible rfl | omega | ((simp (disch := omega) only [wrap_i64]); first | done | omega) | (simp only [List.append_assoc, List.cons_append, List.nil_append]; done)) | skip
  · have h1 := hx.2
    rw [List.take_of_length_le (by omega)] at h1
    rw [h1, Bool.true_and]
    (focus (refine ⟨_, _, Gh.refl, [], rfl, ?_⟩; (refine ⟨?_, ?_, ?_⟩ <;> simp only [go_sem, List.range, List.range.loop, List.nodup_cons, List.nodup_nil, List.mem_cons, List.not_mem_nil, or_false, or_self, Int.reduceToNat, Nat.min_eq_left, Nat.min_eq_right, Int.reducePow, Nat.reducePow, Int.reduceLE, Int.reduceLT, Int.reduceMul, Int.reduceAdd, Int.reduceSub, Int.reduceNeg, Bool.not_true, Bool.not_false, Bool.not_not, ↓reduceIte, Nat.reduceAdd, Nat.reduceSub, Nat.reduceMul, Nat.reduceEqDiff, reduceCtorEq, Nat.reduceLT, Nat.reduceLeDiff, Nat.reduceGT]); (try any_goals (refine ⟨?_, ?_⟩)); (try any_goals (with_reducible rfl))))
  · rfl
  · (focus (refine ⟨_, _, Gh.refl, [], rfl, ?_⟩; (refine ⟨?_, ?_, ?_⟩ <;> simp only [go_sem, List.range, List.range.loop, List.nodup_cons, List.nodup_nil, List.mem_cons, List.not_mem_nil, or_false, or_self, Int.reduceToNat, Nat.min_eq_left, Nat.min_eq_right, Int.reducePow, Nat.reducePow, Int.reduceLE, Int.reduceLT, Int.reduceMul, Int.reduceAdd, Int.reduceSub, Int.reduceNeg, Bool.not_true, Bool.not_false, Bool.not_not, ↓reduceIte, Nat.reduceAdd, Nat.reduceSub, Nat.reduceMul, Nat.reduceEqDiff, reduceCtorEq, Nat.reduceLT, Nat.reduceLeDiff, Nat.reduceGT]); (try any_goals (refine ⟨?_, ?_⟩)); (try any_goals (with_reducible rfl))))
theorem c_elight2 {h : List Ch} {K : KT} {l : List Ent} {n : Int} {a : AV} (H : K (.bool (l.all liteB && decide ((l.length : Int) ≤ n))) h) (b1 : brA [] h (.ro .ent l) a) (s1 : l.length ≤ 9223372036854775807) : Does Try.prog 16 [a, .int .i64 n] h K := -- nocall
  frame_pure (b_elight2 l n s1) (br_cons b1 (br_cons br_int br_nil)) (.inr rfl) (fun _ => rfl) H
abbrev i_elight2 := Ctr.mk (i := 0) (g := 16) @c_elight2
attribute [instance] i_elight2
theorem b_klight (c : Ck) (hl : c.ents.length ≤ 9223372036854775807) : DoesK Try.prog 0 8 [.agg (ckL c)] [] (EndF 0 (.bool (decide ((c.led.length : Int) ≤ 300) && (c.ents.all liteB && decide ((c.ents.length : Int) ≤ 20)) && decide ((c.sides.length : Int) ≤ 300) && decide ((c.done.length : Int) ≤ 300))) []) := by
  refine DoesK.close ?_
  refine w_body (rs := [.tmp 2]) (tm := [.agg (ckL c), .any, .any, .any, .any, .any, .any, .any, .any, .any, .any, .any, .any, .any, .any, .any, .any, .any, .any, .any, .any, .any, .any, .any]) fn_8 rfl rfl rfl rfl fun R hR => ?_
  (all_goals (try ((first | (with_reducible refine wp_id ?_) | (with_reducible refine does_id ?_)); refine walk ?_; (repeat' (first | exact trivial | with_reducible refine And.intro ?_ ?_)); all_goals (repeat (first | (with_reducible refine ImpB.mk fun hb => ?_) | (with_reducible refine ImpK.mk fun hK => ?_) | (with_reducible refine ImpF.mk fun hF => ?_) | (with_reducible refine AllK.mk fun K => ?_))))); repeat' (with_reducible refine And.intro ?_ ?_))
  all_goals
    (focus (refine ⟨_, _, Gh.refl, [], rfl, ?_⟩; (refine ⟨?_, ?_, ?_⟩ <;> simp only [go_sem, List.range, List.range.loop, List.nodup_cons, List.nodup_nil, List.mem_cons, List.not_mem_nil, or_false, or_self, Int.reduceToNat, Nat.min_eq_left, Nat.min_eq_right, Int.reducePow, Nat.reducePow, Int.reduceLE, Int.reduceLT, Int.reduceMul, Int.reduceAdd, Int.reduceSub, Int.reduceNeg, Bool.not_true, Bool.not_false, Bool.not_not, ↓reduceIte, Nat.reduceAdd, Nat.reduceSub, Nat.reduceMul, Nat.reduceEqDiff, reduceCtorEq, Nat.reduceLT, Nat.reduceLeDiff, Nat.reduceGT]); (try any_goals (refine ⟨?_, ?_⟩)); (try any_goals (with_reducible rfl))))
    simp only [*, Bool.true_and, Bool.and_true, Bool.false_and, Bool.and_false]
theorem c_ksame {h : List Ch} {K : KT} {n1 n2 n3 n4 m1 m2 m3 m4 : Int} {led led' : List UInt8} {ents ents' : List Ent} {sides sides' : List Int} {done done' : List Fid} {d1 d2 d3 d4 f1 f2 f3 f4 : AV} (H : K (.bool (decide ((⟨n1, n2, n3, led, ents, sides, done, n4⟩ : Ck) = ⟨m1, m2, m3, led', ents', sides', done', m4⟩))) h) (b1 : brA [] h (.ro .byte led) d1) (b2 : brA [] h (.ro .ent ents) d2) (b3 : brA [] h (.ro .int sides) d3) (b4 : brA [] h (.ro .fid done) d4) (b5 : brA [] h (.ro .byte led') f1) (b6 : brA [] h (.ro .ent ents') f2) (b7 : brA [] h (.ro .int sides') f3) (b8 : brA [] h (.ro .fid done') f4) (s1 : CkS ⟨n1, n2, n3, led, ents, sides, done, n4⟩) (s2 : CkS ⟨m1, m2, m3, led', ents', sides', done', m4⟩) : Does Try.prog 15 [.agg [.int .i64 n1, .int .i64 n2, .int .i64 n3, d1, d2, d3, d4, .int .i64 n4], .agg [.int .i64 m1, .int .i64 m2, .int .i64 m3, f1, f2, f3, f4, .int .i64 m4]] h K :=
  frame_pure (b_ksame ⟨n1, n2, n3, led, ents, sides, done, n4⟩ ⟨m1, m2, m3, led', ents', sides', done', m4⟩ s1 s2) (br_cons (br_agg (br_cons br_int (br_cons br_int (br_cons br_int (br_cons b1 (br_cons b2 (br_cons b3 (br_cons b4 (br_cons br_int br_nil))))))))) (br_cons (br_agg (br_cons br_int (br_cons br_int (br_cons br_int (br_cons b5 (br_cons b6 (br_cons b7 (br_cons b8 (br_cons br_int br_nil))))))))) br_nil)) (.inr rfl) (fun _ => rfl) H
abbrev i_ksame := Ctr.mk (i := 0) (g := 15) @c_ksame
attribute [instance] i_ksame
/-- a short checkpoint -/
def ckLight (c : Ck) : Bool := decide ((c.led.length : Int) ≤ 300) && (c.ents.all liteB && decide ((c.ents.length : Int) ≤ 20)) && decide ((c.sides.length : Int) ≤ 300) && decide ((c.done.length : Int) ≤ 300)
theorem c_klight {h : List Ch} {K : KT} {n1 n2 n3 n4 : Int} {led : List UInt8} {ents : List Ent} {sides : List Int} {done : List Fid} {d1 d2 d3 d4 : AV} (H : K (.bool (ckLight ⟨n1, n2, n3, led, ents, sides, done, n4⟩)) h) (b1 : brA [] h (.ro .byte led) d1) (b2 : brA [] h (.ro .ent ents) d2) (b3 : brA [] h (.ro .int sides) d3) (b4 : brA [] h (.ro .fid done) d4) (s1 : ents.length ≤ 9223372036854775807) : Does Try.prog 8 [.agg [.int .i64 n1, .int .i64 n2, .int .i64 n3, d1, d2, d3, d4, .int .i64 n4]] h K :=
  frame_pure (b_klight ⟨n1, n2, n3, led, ents, sides, done, n4⟩ s1) (br_ck ⟨n1, n2, n3, led, ents, sides, done, n4⟩ b1 b2 b3 b4) (.inr rfl) (fun _ => rfl) H
abbrev i_klight := Ctr.mk (i := 0) (g := 8) @c_klight
attribute [instance] i_klight
end Go.V

set_option maxRecDepth 100000
set_option maxHeartbeats 4000000
namespace Go.V
open Go.Proofs
attribute [-go_sem] Wr
theorem enc0 : encI 0 = [UInt8.ofNat 0] := vint_small (by decide)
def zero160 : List UInt8 := [UInt8.ofNat 0, UInt8.ofNat 0, UInt8.ofNat 0, UInt8.ofNat 0, UInt8.ofNat 0, UInt8.ofNat 0, UInt8.ofNat 0, UInt8.ofNat 0, UInt8.ofNat 0, UInt8.ofNat 0, UInt8.ofNat 0, UInt8.ofNat 0, UInt8.ofNat 0, UInt8.ofNat 0, UInt8.ofNat 0, UInt8.ofNat 0, UInt8.ofNat 0, UInt8.ofNat 0, UInt8.ofNat 0, UInt8.ofNat 0, UInt8.ofNat 0, UInt8.ofNat 0, UInt8.ofNat 0, UInt8.ofNat 0, UInt8.ofNat 0, UInt8.ofNat 0, UInt8.ofNat 0, UInt8.ofNat 0, UInt8.ofNat 0, UInt8.ofNat 0, UInt8.ofNat 0, UInt8.ofNat 0, UInt8.ofNat 0, UInt8.ofNat 0, UInt8.ofNat 0, UInt8.ofNat 0, UInt8.ofNat 0, UInt8.ofNat 0, UInt8.ofNat 0, UInt8.ofNat 0, UInt8.ofNat 0, UInt8.ofNat 0, UInt8.ofNat 0, UInt8.ofNat 0, UInt8.ofNat 0, UInt8.ofNat 0, UInt8.ofNat 0, UInt8.ofNat 0, UInt8.ofNat 0, UInt8.ofNat 0, UInt8.ofNat 0, UInt8.ofNat 0, UInt8.ofNat 0, UInt8.ofNat 0, UInt8.ofNat 0, UInt8.ofNat 0, UInt8.ofNat 0, UInt8.ofNat 0, UInt8.ofNat 0, UInt8.ofNat 0, UInt8.ofNat 0, UInt8.ofNat 0, UInt8.ofNat 0, UInt8.ofNat 0, UInt8.ofNat 0, UInt8.ofNat 0, UInt8.ofNat 0, UInt8.ofNat 0, UInt8.ofNat 0, UInt8.ofNat 0, UInt8.ofNat 0, UInt8.ofNat 0, UInt8.ofNat 0, UInt8.ofNat 0, UInt8.ofNat 0, UInt8.ofNat 0, UInt8.ofNat 0, UInt8.ofNat 0, UInt8.ofNat 0, UInt8.ofNat 0, UInt8.ofNat 0, UInt8.ofNat 0, UInt8.ofNat 0, UInt8.ofNat 0, UInt8.ofNat 0, UInt8.ofNat 0, UInt8.ofNat 0, UInt8.ofNat 0, UInt8.ofNat 0, UInt8.ofNat 0, UInt8.ofNat 0, UInt8.ofNat 0, UInt8.ofNat 0, UInt8.ofNat 0, UInt8.ofNat 0, UInt8.ofNat 0, UInt8.ofNat 0, UInt8.ofNat 0, UInt8.ofNat 0, UInt8.ofNat 0, UInt8.ofNat 0, UInt8.ofNat 0, UInt8.ofNat 0, UInt8.ofNat 0, UInt8.ofNat 0, UInt8.ofNat 0, UInt8.ofNat 0, UInt8.ofNat 0, UInt8.ofNat 0, UInt8.ofNat 0, UInt8.ofNat 0, UInt8.ofNat 0, UInt8.ofNat 0, UInt8.ofNat 0, UInt8.ofNat 0, UInt8.ofNat 0, UInt8.ofNat 0, UInt8.ofNat 0, UInt8.ofNat 0, UInt8.ofNat 0, UInt8.ofNat 0, UInt8.ofNat 0, UInt8.ofNat 0, UInt8.ofNat 0, UInt8.ofNat 0, UInt8.ofNat 0, UInt8.ofNat 0, UInt8.ofNat 0, UInt8.ofNat 0, UInt8.ofNat 0, UInt8.ofNat 0, UInt8.ofNat 0, UInt8.ofNat 0, UInt8.ofNat 0, UInt8.ofNat 0, UInt8.ofNat 0, UInt8.ofNat 0, UInt8.ofNat 0, UInt8.ofNat 0, UInt8.ofNat 0, UInt8.ofNat 0, UInt8.ofNat 0, UInt8.ofNat 0, UInt8.ofNat 0, UInt8.ofNat 0, UInt8.ofNat 0, UInt8.ofNat 0, UInt8.ofNat 0, UInt8.ofNat 0, UInt8.ofNat 0, UInt8.ofNat 0, UInt8.ofNat 0, UInt8.ofNat 0, UInt8.ofNat 0, UInt8.ofNat 0, UInt8.ofNat 0, UInt8.ofNat 0, UInt8.ofNat 0, UInt8.ofNat 0, UInt8.ofNat 0]
def ck0 : Ck := ⟨0, 1, 0, zero160, [], [], [], 1⟩
theorem ck0_v : ckV ck0 = true := by decide +kernel
theorem ck0_enc : ∃ t, encK ck0 = UInt8.ofNat 0 :: UInt8.ofNat 1 :: UInt8.ofNat 0 :: t ∧ 160 ≤ t.length := by
  have h1 : zero160.length = 160 := rfl
  have h2 : be (Int.toNat 1) 1 = [UInt8.ofNat 1] := rfl
  have h : encK ck0 = UInt8.ofNat 0 :: UInt8.ofNat 1 :: UInt8.ofNat 0 :: (encI ((160 : Nat) : Int) ++ (zero160 ++ (encI (encE []).length ++ (encE [] ++ (UInt8.ofNat 0 :: UInt8.ofNat 0 :: encI 1))))) := by
    unfold encK headK ck0
    simp only [h1, h2, List.flatMap_nil, List.length_nil, Int.natCast_zero, enc0, List.cons_append, List.nil_append, List.append_nil, List.append_assoc]
  refine ⟨_, h, ?_⟩
  simp only [List.length_append, List.length_cons]
  omega
theorem ck0_s : CkS ck0 := ⟨by decide, Nat.zero_le _, fun x hx => (by cases hx), Nat.zero_le _, Nat.zero_le _⟩
theorem encK_len {c : Ck} (h : ckV c = true) : (encK c).length ≤ 400000 := by
  have h1 := headK_len h
  obtain ⟨hB, _⟩ := (ckV_iff c).1 h
  unfold ckB at hB
  have h2 := sidesE_len c.sides
  have h3 := fidsE_len c.done
  have h6 := encI_le c.done.length (by constructor <;> omega)
  have h7 := encI_le c.next (by constructor <;> omega)
  unfold encK
  simp only [List.length_append]
  omega
theorem b_awake48 : DoesK Try.prog 0 7 [] [] (EndF 0 (.bool true) []) := by
  refine DoesK.close ?_
  have hv := ck0_v
  have hs := ck0_s
  obtain ⟨t, he, htl⟩ := ck0_enc
  have hel := headK_len hv
  refine w_body (rs := [.tmp 0]) (tm := [.any, .any, .any, .any, .any, .any, .any, .any, .any, .any, .any, .any, .any, .any, .any, .any, .any, .any, .any, .any, .any, .any, .any, .any, .any, .any, .any, .any, .any, .any, .any, .any, .any, .any, .any, .any, .any, .any, .any, .any, .any, .any, .any, .any, .any, .any, .any, .any, .any, .any, .any, .any, .any, .any, .any, .any, .any, .any, .any, .any, .any]) fn_7 rfl rfl rfl rfl fun R hR => ?_
  refine w_seq fun K1 hk1 => ?_
  have hq1 := Slot.mk hk1
  clear hk1
  (all_goals (try ((first | (with_reducible refine wp_id ?_) | (with_reducible refine does_id ?_)); refine walk ?_; (repeat' (first | exact trivial | with_reducible refine And.intro ?_ ?_)); all_goals (repeat (first | (with_reducible refine ImpB.mk fun hb => ?_) | (with_reducible refine ImpK.mk fun hK => ?_) | (with_reducible refine ImpF.mk fun hF => ?_) | (with_reducible refine AllK.mk fun K => ?_))))); repeat' (with_reducible refine And.intro ?_ ?_))
  refine hq1.un _ _ ?_
  refine w_seq fun K2 hk2 => ?_
  have hq2 := Slot.mk hk2
  clear hk2
  (all_goals (try ((first | (with_reducible refine wp_id ?_) | (with_reducible refine does_id ?_)); refine walk ?_; (repeat' (first | exact trivial | with_reducible refine And.intro ?_ ?_)); all_goals (repeat (first | (with_reducible refine ImpB.mk fun hb => ?_) | (with_reducible refine ImpK.mk fun hK => ?_) | (with_reducible refine ImpF.mk fun hF => ?_) | (with_reducible refine AllK.mk fun K => ?_))))); repeat' (with_reducible refine And.intro ?_ ?_))
  refine hq2.un _ _ (Wp.ghost (gh_frz (t := 0) (e := .byte) (xs := zero160) rfl ?f1 ?f2) ?_)
  case f1 => simp only [go_sem, Int.reduceToNat, Nat.min_eq_left, Nat.min_eq_right, Int.reducePow, Nat.reducePow, Int.reduceLE, Int.reduceLT, Int.reduceMul, Int.reduceAdd, Int.reduceSub, Int.reduceNeg, Bool.not_true, Bool.not_false, Bool.not_not, ↓reduceIte, Nat.reduceAdd, Nat.reduceSub, Nat.reduceMul, Nat.reduceEqDiff, reduceCtorEq, Nat.reduceLT, Nat.reduceLeDiff, Nat.reduceGT]; simp [zero160]
  case f2 => simp only [go_sem, Int.reduceToNat, Nat.min_eq_left, Nat.min_eq_right, Int.reducePow, Nat.reducePow, Int.reduceLE, Int.reduceLT, Int.reduceMul, Int.reduceAdd, Int.reduceSub, Int.reduceNeg, Bool.not_true, Bool.not_false, Bool.not_not, ↓reduceIte, Nat.reduceAdd, Nat.reduceSub, Nat.reduceMul, Nat.reduceEqDiff, reduceCtorEq, Nat.reduceLT, Nat.reduceLeDiff, Nat.reduceGT]; simp [zero160]
  have hz : (zero160.drop 0).take 160 = zero160 := rfl
  have hz' : zero160.take 160 = zero160 := rfl
  change Wp _ _ _ (frL 0 .byte zero160 _) (frHs 0 .byte zero160 [.gone, .cells [.int .i64 0, .int .i64 1, .int .i64 0, .sl 0 .byte 0 160, .lit (.slice none 0 0), .lit (.slice none 0 0), .lit (.slice none 0 0), .int .i64 1]]) _
  simp only [go_sem, Int.reduceToNat, Nat.min_eq_left, Nat.min_eq_right, Int.reducePow, Nat.reducePow, Int.reduceLE, Int.reduceLT, Int.reduceMul, Int.reduceAdd, Int.reduceSub, Int.reduceNeg, Bool.not_true, Bool.not_false, Bool.not_not, ↓reduceIte, Nat.reduceAdd, Nat.reduceSub, Nat.reduceMul, Nat.reduceEqDiff, reduceCtorEq, Nat.reduceLT, Nat.reduceLeDiff, Nat.reduceGT, hz, hz']
  refine w_seq fun K3 hk3 => ?_
  have hq3 := Slot.mk hk3
  clear hk3
  have hv1 : ckV ⟨0, 1, 0, zero160, [], [], [], 1⟩ = true := hv
  have hs1 : CkS ⟨0, 1, 0, zero160, [], [], [], 1⟩ := hs
  (all_goals (try ((first | (with_reducible refine wp_id ?_) | (with_reducible refine does_id ?_)); refine walk ?_; (repeat' (first | exact trivial | with_reducible refine And.intro ?_ ?_)); all_goals (repeat (first | (with_reducible refine ImpB.mk fun hb => ?_) | (with_reducible refine ImpK.mk fun hK => ?_) | (with_reducible refine ImpF.mk fun hF => ?_) | (with_reducible refine AllK.mk fun K => ?_))))); repeat' (with_reducible refine And.intro ?_ ?_))
  obtain ⟨E, hE⟩ : ∃ E, encK ⟨0, 1, 0, zero160, [], [], [], 1⟩ = E := ⟨_, rfl⟩
  have hEl : E.length ≤ 1000000 := by
    rw [← hE]
    exact Nat.le_trans (encK_len hv) (by decide)
  have hdec : encK ⟨0, 1, 0, zero160, [], [], [], 1⟩ = E ∧ ckV ⟨0, 1, 0, zero160, [], [], [], 1⟩ = true ∧ CkS ⟨0, 1, 0, zero160, [], [], [], 1⟩ := ⟨hE, hv, hs⟩
  have hE3 : E = UInt8.ofNat 0 :: UInt8.ofNat 1 :: UInt8.ofNat 0 :: t := by rw [← hE]; exact he
  rw [hE]
  refine hq3.un _ _ (Wp.ghost (gh_frz (t := 2) (e := .byte) (xs := E) rfl ?f3 ?f4) ?_)
  case f3 => simp only [go_sem, Int.reduceToNat, Nat.min_eq_left, Nat.min_eq_right, Int.reducePow, Nat.reducePow, Int.reduceLE, Int.reduceLT, Int.reduceMul, Int.reduceAdd, Int.reduceSub, Int.reduceNeg, Bool.not_true, Bool.not_false, Bool.not_not, ↓reduceIte, Nat.reduceAdd, Nat.reduceSub, Nat.reduceMul, Nat.reduceEqDiff, reduceCtorEq, Nat.reduceLT, Nat.reduceLeDiff, Nat.reduceGT]; exact Nat.le_refl _
  case f4 => simp only [go_sem, Int.reduceToNat, Nat.min_eq_left, Nat.min_eq_right, Int.reducePow, Nat.reducePow, Int.reduceLE, Int.reduceLT, Int.reduceMul, Int.reduceAdd, Int.reduceSub, Int.reduceNeg, Bool.not_true, Bool.not_false, Bool.not_not, ↓reduceIte, Nat.reduceAdd, Nat.reduceSub, Nat.reduceMul, Nat.reduceEqDiff, reduceCtorEq, Nat.reduceLT, Nat.reduceLeDiff, Nat.reduceGT]
  change Wp _ _ _ (frL 2 .byte E _) (frHs 2 .byte E [.gone, .cells [.int .i64 0, .int .i64 1, .int .i64 0, .ro .byte zero160, .lit (.slice none 0 0), .lit (.slice none 0 0), .lit (.slice none 0 0), .int .i64 1], .gone]) _
  simp only [go_sem, Int.reduceToNat, Nat.min_eq_left, Nat.min_eq_right, Int.reducePow, Nat.reducePow, Int.reduceLE, Int.reduceLT, Int.reduceMul, Int.reduceAdd, Int.reduceSub, Int.reduceNeg, Bool.not_true, Bool.not_false, Bool.not_not, ↓reduceIte, Nat.reduceAdd, Nat.reduceSub, Nat.reduceMul, Nat.reduceEqDiff, reduceCtorEq, Nat.reduceLT, Nat.reduceLeDiff, Nat.reduceGT, List.drop_zero, List.take_length]
  have g0 : E.getD 0 0 = UInt8.ofNat 0 := by rw [hE3]; rfl
  have g1 : E.getD 1 0 = UInt8.ofNat 1 := by rw [hE3]; rfl
  have g2 : E.getD 2 0 = UInt8.ofNat 0 := by rw [hE3]; rfl
  have hz0 : ckV ⟨0, 0, 0, [], [], [], [], 0⟩ = false := ckV_nB (fun h => absurd h.2.2.2.2.2.2.1 (by decide))
  have hzs : CkS ⟨0, 0, 0, [], [], [], [], 0⟩ := ⟨Nat.zero_le _, Nat.zero_le _, fun x hx => (by cases hx), Nat.zero_le _, Nat.zero_le _⟩
  have hEn : E.length = t.length + 3 := by rw [hE3]; rfl
  have q0 : decide (((UInt8.ofNat 0).toNat : Int) = 0) = true := by decide
  have q1 : decide (((UInt8.ofNat 1).toNat : Int) = 1) = true := by decide
  have q2 : decide ((160 : Int) < (E.length : Int)) = true := decide_eq_true (by omega)
  (have zx1 := @g0; have zx2 := @g1; have zx3 := @g2; have zx4 := @hz0; have zx5 := @hv1; have zx6 := @decide_true; have zx7 := @q0; have zx8 := @q1; have zx9 := @q2; all_goals (try ((first | (with_reducible refine wp_id ?_) | (with_reducible refine does_id ?_)); refine walk ?_; (repeat' (first | exact trivial | with_reducible refine And.intro ?_ ?_)); all_goals (repeat (first | (with_reducible refine ImpB.mk fun hb => ?_) | (with_reducible refine ImpK.mk fun hK => ?_) | (with_reducible refine ImpF.mk fun hF => ?_) | (with_reducible refine AllK.mk fun K => ?_))))); repeat' (with_reducible refine And.intro ?_ ?_))
  all_goals first | omega | (focus ((focus (refine ⟨_, _, Gh.refl, [], rfl, ?_⟩; (refine ⟨?_, ?_, ?_⟩ <;> simp only [go_sem, List.range, List.range.loop, List.nodup_cons, List.nodup_nil, List.mem_cons, List.not_mem_nil, or_false, or_self, Int.reduceToNat, Nat.min_eq_left, Nat.min_eq_right, Int.reducePow, Nat.reducePow, Int.reduceLE, Int.reduceLT, Int.reduceMul, Int.reduceAdd, Int.reduceSub, Int.reduceNeg, Bool.not_true, Bool.not_false, Bool.not_not, ↓reduceIte, Nat.reduceAdd, Nat.reduceSub, Nat.reduceMul, Nat.reduceEqDiff, reduceCtorEq, Nat.reduceLT, Nat.reduceLeDiff, Nat.reduceGT]); (try any_goals (refine ⟨?_, ?_⟩)); (try any_goals (with_reducible rfl)))); done)) | exact br_ro | trace_state
theorem c_awake48 {h : List Ch} {K : KT} (H : K (.bool true) h) : Does Try.prog 7 [] h K :=
  frame_pure b_awake48 br_nil (.inl rfl) (fun _ => rfl) H
abbrev i_awake48 := Ctr.mk (i := 0) (g := 7) @c_awake48
attribute [instance] i_awake48
end Go.V
