/-
  ref48: Valid.
  checkpoint: Encode.
  Checkpoints: reading what was encoded.
-/
import Derived.Test.YthfcimcmmhnjmaaPart18
import Derived.Test.YthfcimcmmhnjmaaPart16
set_option linter.unusedVariables false
set_option linter.unusedSimpArgs false
set_option maxRecDepth 100000
set_option maxHeartbeats 1000000
namespace Go.V
open Go.Proofs
theorem side_ne {s : Int} (h : sideB s = true) : s = 0 ∨ s = 1 := by
  unfold sideB at h
  simp only [Bool.and_eq_true, decide_eq_true_eq] at h
  omega
theorem fid_mem {l : List Fid} {i j : Nat} (hj : j < i) (hi : i ≤ l.length) : l.getD j Fid.zero ∈ l.take i := by
  rw [List.mem_take_iff_getElem]
  exact ⟨j, by omega, (fid_at (by omega)).symm⟩
theorem b_fvalid (c : Ck) (hs : CkS c) : DoesK Try.prog 0 10 [.agg (ckL c)] [] (EndF 0 (.bool (ckV c)) []) := by
  refine DoesK.close ?_
  obtain ⟨z1, z2, z3, z4, z5⟩ := hs
  have hol := ledO_len c.led
  have hop := plain_ok (ledO_plain c.led)
  have hren := @plain_ren
  refine w_body (rs := [.tmp 2]) (tm := [.agg (ckL c), .any, .any, .any, .any, .any, .any, .any, .any, .any, .any, .any, .any, .any, .any, .any, .any, .any, .any, .any, .any, .any, .any, .any, .any, .any, .any, .any, .any, .any, .any, .any, .any, .any, .any, .any, .any, .any, .any, .any, .any, .any, .any, .any, .any, .any, .any, .any, .any, .any, .any, .any, .any, .any, .any, .any, .any, .any, .any, .any, .any, .any, .any, .any, .any, .any, .any, .any, .any, .any, .any, .any, .any, .any, .any, .any, .any, .any, .any, .any, .any, .any, .any, .any, .any, .any, .any, .any, .any, .any, .any, .any, .any, .any, .any, .any, .any, .any, .any, .any, .any, .any, .any, .any, .any, .any, .any, .any, .any, .any, .any, .any, .any, .any, .any, .any, .any, .any, .any, .any, .any, .any, .any, .any, .any, .any, .any, .any, .any, .any, .any, .any, .any, .any, .any, .any, .any, .any, .any, .any, .any, .any]) fn_10 rfl rfl rfl rfl fun R hR => ?_
  by_cases hB : ckB c
  · have hB' := hB
    unfold ckB at hB'
    have q1 : decide (c.boots < 0) = false := decide_eq_false (by omega)
    have q2 : decide (2147483648 ≤ c.boots) = false := decide_eq_false (by omega)
    have q3 : decide (c.mode < 0) = false := decide_eq_false (by omega)
    have q4 : decide (4 < c.mode) = false := decide_eq_false (by omega)
    have q5 : decide (c.time < 0) = false := decide_eq_false (by omega)
    have q6 : decide (1099511627776 < c.time) = false := decide_eq_false (by omega)
    have q7 : decide (c.next < 1) = false := decide_eq_false (by omega)
    have q8 : decide (65536 < c.next) = false := decide_eq_false (by omega)
    have q9 : decide (256 < (c.sides.length : Int)) = false := decide_eq_false (by omega)
    have q10 : decide (256 < (c.done.length : Int)) = false := decide_eq_false (by omega)
    by_cases hc : chkE c.ents 256 = 0
    · cases hL : ledV c.led
      · (have zx1 := @q1; have zx2 := @q2; have zx3 := @q3; have zx4 := @q4; have zx5 := @q5; have zx6 := @q6; have zx7 := @q7; have zx8 := @q8; have zx9 := @q9; have zx10 := @q10; have zx11 := @hol; have zx12 := @hL; all_goals (try ((first | (with_reducible refine wp_id ?_) | (with_reducible refine does_id ?_)); refine walk ?_; (repeat' (first | exact trivial | with_reducible refine And.intro ?_ ?_)); all_goals (repeat (first | (with_reducible refine ImpB.mk fun hb => ?_) | (with_reducible refine ImpK.mk fun hK => ?_) | (with_reducible refine ImpF.mk fun hF => ?_) | (with_reducible refine AllK.mk fun K => ?_))))); repeat' (with_reducible refine And.intro ?_ ?_))
        · exact hop
        · rw [ckV_nL hL]
          (focus (refine ⟨_, _, Gh.refl, [], rfl, ?_⟩; (refine ⟨?_, ?_, ?_⟩ <;> simp only [go_sem, List.range, List.range.loop, List.nodup_cons, List.nodup_nil, List.mem_cons, List.not_mem_nil, or_false, or_self, Int.reduceToNat, Nat.min_eq_left, Nat.min_eq_right, Int.reducePow, Nat.reducePow, Int.reduceLE, Int.reduceLT, Int.reduceMul, Int.reduceAdd, Int.reduceSub, Int.reduceNeg, Bool.not_true, Bool.not_false, Bool.not_not, ↓reduceIte, Nat.reduceAdd, Nat.reduceSub, Nat.reduceMul, Nat.reduceEqDiff, reduceCtorEq, Nat.reduceLT, Nat.reduceLeDiff, Nat.reduceGT]); (try any_goals (refine ⟨?_, ?_⟩)); (try any_goals (with_reducible rfl))))
      · (have zx1 := @q1; have zx2 := @q2; have zx3 := @q3; have zx4 := @q4; have zx5 := @q5; have zx6 := @q6; have zx7 := @q7; have zx8 := @q8; have zx9 := @q9; have zx10 := @q10; have zx11 := @hol; have zx12 := @hL; have zx13 := @decide_false; all_goals (try ((first | (with_reducible refine wp_id ?_) | (with_reducible refine does_id ?_)); refine walk ?_; (repeat' (first | exact trivial | with_reducible refine And.intro ?_ ?_)); all_goals (repeat (first | (with_reducible refine ImpB.mk fun hb => ?_) | (with_reducible refine ImpK.mk fun hK => ?_) | (with_reducible refine ImpF.mk fun hF => ?_) | (with_reducible refine AllK.mk fun K => ?_))))); repeat' (with_reducible refine And.intro ?_ ?_))
        · exact hop
        · exfalso; simp at hb
        any_goals (refine w_loop (A := Nat) (fun k => k ≤ c.sides.length ∧ (c.sides.take k).all sideB = true) (fun k => c.sides.length - k) (fun k => [(7, .int .i64 k)]) (fun _ => [(1, .gone), (2, .gone)]) (0) (ws := ?ws1) (tk := ?tk1) ?hw1 ?ht1 ?hi ?h0 ?LH1; (case hw1 => simp only [go_sem, Int.reduceToNat, Nat.min_eq_left, Nat.min_eq_right, Int.reducePow, Nat.reducePow, Int.reduceLE, Int.reduceLT, Int.reduceMul, Int.reduceAdd, Int.reduceSub, Int.reduceNeg, Bool.not_true, Bool.not_false, Bool.not_not, ↓reduceIte, Nat.reduceAdd, Nat.reduceSub, Nat.reduceMul, Nat.reduceEqDiff, reduceCtorEq, Nat.reduceLT, Nat.reduceLeDiff, Nat.reduceGT]; exact rfl); (case ht1 => simp only [go_sem, Int.reduceToNat, Nat.min_eq_left, Nat.min_eq_right, Int.reducePow, Nat.reducePow, Int.reduceLE, Int.reduceLT, Int.reduceMul, Int.reduceAdd, Int.reduceSub, Int.reduceNeg, Bool.not_true, Bool.not_false, Bool.not_not, ↓reduceIte, Nat.reduceAdd, Nat.reduceSub, Nat.reduceMul, Nat.reduceEqDiff, reduceCtorEq, Nat.reduceLT, Nat.reduceLeDiff, Nat.reduceGT]; exact rfl); (case' LH1 => rintro k E t hx hE ht; simp only [go_sem] at ht; subst ht; simp only [go_sem]; try dsimp only at hx))
        case hi => exact ⟨Nat.zero_le _, rfl⟩
        case h0 =>
          (focus (refine ⟨_, _, Gh.refl, [0, 1, 2], rfl, ?_⟩; (refine ⟨?_, ?_, ?_⟩ <;> simp only [go_sem, List.range, List.range.loop, List.nodup_cons, List.nodup_nil, List.mem_cons, List.not_mem_nil, or_false, or_self, Int.reduceToNat, Nat.min_eq_left, Nat.min_eq_right, Int.reducePow, Nat.reducePow, Int.reduceLE, Int.reduceLT, Int.reduceMul, Int.reduceAdd, Int.reduceSub, Int.reduceNeg, Bool.not_true, Bool.not_false, Bool.not_not, ↓reduceIte, Nat.reduceAdd, Nat.reduceSub, Nat.reduceMul, Nat.reduceEqDiff, reduceCtorEq, Nat.reduceLT, Nat.reduceLeDiff, Nat.reduceGT]); (try any_goals (refine ⟨?_, ?_⟩)); (try any_goals (with_reducible rfl))))
          all_goals first | exact plain_fit (ledO_plain _) | skip
        case LH1 =>
          by_cases hk : k < c.sides.length
          · have hkd : decide ((k : Int) < c.sides.length) = true := decide_eq_true (by omega)
            (have zx1 := @hkd; all_goals (try ((first | (with_reducible refine wp_id ?_) | (with_reducible refine does_id ?_)); refine walk ?_; (repeat' (first | exact trivial | with_reducible refine And.intro ?_ ?_)); all_goals (repeat (first | (with_reducible refine ImpB.mk fun hb => ?_) | (with_reducible refine ImpK.mk fun hK => ?_) | (with_reducible refine ImpF.mk fun hF => ?_) | (with_reducible refine AllK.mk fun K => ?_))))); repeat' (with_reducible refine And.intro ?_ ?_))
            all_goals first | exact Int.natCast_nonneg _ | omega | skip
            · rename_i hb0
              rw [ckV_nS hk (by cases e : sideB (c.sides.getD k 0) with | false => rfl | true => (have := side_ne e; simp only [decide_eq_true_eq] at hb hb0; omega))]
              (focus (refine ⟨_, _, Gh.refl, [], rfl, ?_⟩; (refine ⟨?_, ?_, ?_⟩ <;> simp only [go_sem, List.range, List.range.loop, List.nodup_cons, List.nodup_nil, List.mem_cons, List.not_mem_nil, or_false, or_self, Int.reduceToNat, Nat.min_eq_left, Nat.min_eq_right, Int.reducePow, Nat.reducePow, Int.reduceLE, Int.reduceLT, Int.reduceMul, Int.reduceAdd, Int.reduceSub, Int.reduceNeg, Bool.not_true, Bool.not_false, Bool.not_not, ↓reduceIte, Nat.reduceAdd, Nat.reduceSub, Nat.reduceMul, Nat.reduceEqDiff, reduceCtorEq, Nat.reduceLT, Nat.reduceLeDiff, Nat.reduceGT]); (try any_goals (refine ⟨?_, ?_⟩)); (try any_goals (with_reducible rfl))))
            · refine ⟨k + 1, ⟨⟨by first | omega | (dsimp only; omega), sides_next hk hx.2 (by simp at hb; rw [← List.getD_eq_getElem?_getD] at hb; rw [hb]; rfl)⟩, by first | omega | (dsimp only; omega)⟩, ?m2⟩
              (focus (refine ⟨_, _, Gh.refl, [0, 1, 2], rfl, ?_⟩; (refine ⟨?_, ?_, ?_⟩ <;> simp only [go_sem, List.range, List.range.loop, List.nodup_cons, List.nodup_nil, List.mem_cons, List.not_mem_nil, or_false, or_self, Int.reduceToNat, Nat.min_eq_left, Nat.min_eq_right, Int.reducePow, Nat.reducePow, Int.reduceLE, Int.reduceLT, Int.reduceMul, Int.reduceAdd, Int.reduceSub, Int.reduceNeg, Bool.not_true, Bool.not_false, Bool.not_not, ↓reduceIte, Nat.reduceAdd, Nat.reduceSub, Nat.reduceMul, Nat.reduceEqDiff, reduceCtorEq, Nat.reduceLT, Nat.reduceLeDiff, Nat.reduceGT]); (try any_goals (refine ⟨?_, ?_⟩)); (try any_goals (with_reducible rfl))))
              all_goals first | (first | with_reducible rfl | omega | ((simp (disch := omega) only [wrap_i64]); first | done | omega) | (simp only [List.append_assoc, List.cons_append, List.nil_append]; done)) | exact plain_fit (ledO_plain _) | skip
            · refine ⟨k + 1, ⟨⟨by first | omega | (dsimp only; omega), sides_next hk hx.2 (by simp at hb; rw [← List.getD_eq_getElem?_getD] at hb; rw [hb]; rfl)⟩, by first | omega | (dsimp only; omega)⟩, ?m3⟩
              (focus (refine ⟨_, _, Gh.refl, [0, 1, 2], rfl, ?_⟩; (refine ⟨?_, ?_, ?_⟩ <;> simp only [go_sem, List.range, List.range.loop, List.nodup_cons, List.nodup_nil, List.mem_cons, List.not_mem_nil, or_false, or_self, Int.reduceToNat, Nat.min_eq_left, Nat.min_eq_right, Int.reducePow, Nat.reducePow, Int.reduceLE, Int.reduceLT, Int.reduceMul, Int.reduceAdd, Int.reduceSub, Int.reduceNeg, Bool.not_true, Bool.not_false, Bool.not_not, ↓reduceIte, Nat.reduceAdd, Nat.reduceSub, Nat.reduceMul, Nat.reduceEqDiff, reduceCtorEq, Nat.reduceLT, Nat.reduceLeDiff, Nat.reduceGT]); (try any_goals (refine ⟨?_, ?_⟩)); (try any_goals (with_reducible rfl))))
              all_goals first | (first | with_reducible rfl | omega | ((simp (disch := omega) only [wrap_i64]); first | done | omega) | (simp only [List.append_assoc, List.cons_append, List.nil_append]; done)) | exact plain_fit (ledO_plain _) | skip
          · have hkd : decide ((k : Int) < c.sides.length) = false := decide_eq_false (by omega)
            have hS := hx.2
            rw [List.take_of_length_le (by omega)] at hS
            clear hx
            (have zx1 := @hkd; all_goals (try ((first | (with_reducible refine wp_id ?_) | (with_reducible refine does_id ?_)); refine walk ?_; (repeat' (first | exact trivial | with_reducible refine And.intro ?_ ?_)); all_goals (repeat (first | (with_reducible refine ImpB.mk fun hb => ?_) | (with_reducible refine ImpK.mk fun hK => ?_) | (with_reducible refine ImpF.mk fun hF => ?_) | (with_reducible refine AllK.mk fun K => ?_))))); repeat' (with_reducible refine And.intro ?_ ?_))
            any_goals (refine w_loop (A := Nat) (fun i => i ≤ c.done.length ∧ (c.done.take i).all fidB = true ∧ (c.done.take i).Nodup) (fun i => c.done.length - i) (fun i => [(8, .int .i64 i)]) (fun _ => []) (0) (ws := ?ws2) (tk := ?tk2) ?hw2 ?ht2 ?hi_1 ?h0_1 ?LH2; (case hw2 => simp only [go_sem, Int.reduceToNat, Nat.min_eq_left, Nat.min_eq_right, Int.reducePow, Nat.reducePow, Int.reduceLE, Int.reduceLT, Int.reduceMul, Int.reduceAdd, Int.reduceSub, Int.reduceNeg, Bool.not_true, Bool.not_false, Bool.not_not, ↓reduceIte, Nat.reduceAdd, Nat.reduceSub, Nat.reduceMul, Nat.reduceEqDiff, reduceCtorEq, Nat.reduceLT, Nat.reduceLeDiff, Nat.reduceGT]; exact rfl); (case ht2 => simp only [go_sem, Int.reduceToNat, Nat.min_eq_left, Nat.min_eq_right, Int.reducePow, Nat.reducePow, Int.reduceLE, Int.reduceLT, Int.reduceMul, Int.reduceAdd, Int.reduceSub, Int.reduceNeg, Bool.not_true, Bool.not_false, Bool.not_not, ↓reduceIte, Nat.reduceAdd, Nat.reduceSub, Nat.reduceMul, Nat.reduceEqDiff, reduceCtorEq, Nat.reduceLT, Nat.reduceLeDiff, Nat.reduceGT]; exact rfl); (case' LH2 => rintro i E t hx hE ht; simp only [go_sem] at ht; subst ht; simp only [go_sem]; try dsimp only at hx))
            case hi_1 => exact ⟨Nat.zero_le _, rfl, by simp⟩
            case h0_1 =>
              (focus (refine ⟨_, _, Gh.refl, [0, 1, 2], rfl, ?_⟩; (refine ⟨?_, ?_, ?_⟩ <;> simp only [go_sem, List.range, List.range.loop, List.nodup_cons, List.nodup_nil, List.mem_cons, List.not_mem_nil, or_false, or_self, Int.reduceToNat, Nat.min_eq_left, Nat.min_eq_right, Int.reducePow, Nat.reducePow, Int.reduceLE, Int.reduceLT, Int.reduceMul, Int.reduceAdd, Int.reduceSub, Int.reduceNeg, Bool.not_true, Bool.not_false, Bool.not_not, ↓reduceIte, Nat.reduceAdd, Nat.reduceSub, Nat.reduceMul, Nat.reduceEqDiff, reduceCtorEq, Nat.reduceLT, Nat.reduceLeDiff, Nat.reduceGT]); (try any_goals (refine ⟨?_, ?_⟩)); (try any_goals (with_reducible rfl))))
              all_goals first | exact plain_fit (ledO_plain _) | skip
            case LH2 =>
              by_cases hi : i < c.done.length
              · have hid : decide ((i : Int) < c.done.length) = true := decide_eq_true (by omega)
                (have zx1 := @hid; all_goals (try ((first | (with_reducible refine wp_id ?_) | (with_reducible refine does_id ?_)); refine walk ?_; (repeat' (first | exact trivial | with_reducible refine And.intro ?_ ?_)); all_goals (repeat (first | (with_reducible refine ImpB.mk fun hb => ?_) | (with_reducible refine ImpK.mk fun hK => ?_) | (with_reducible refine ImpF.mk fun hF => ?_) | (with_reducible refine AllK.mk fun K => ?_))))); repeat' (with_reducible refine And.intro ?_ ?_))
                all_goals first | exact Int.natCast_nonneg _ | omega | skip
                all_goals (try simp only [decide_eq_true_eq, decide_eq_false_iff_not] at *)
                all_goals try (focus (rw [ckV_nF hi (by rw [Bool.eq_false_iff]; intro q; simp only [fidB, Bool.and_eq_true, decide_eq_true_eq] at q; omega)]; (focus (refine ⟨_, _, Gh.refl, [], rfl, ?_⟩; (refine ⟨?_, ?_, ?_⟩ <;> simp only [go_sem, List.range, List.range.loop, List.nodup_cons, List.nodup_nil, List.mem_cons, List.not_mem_nil, or_false, or_self, Int.reduceToNat, Nat.min_eq_left, Nat.min_eq_right, Int.reducePow, Nat.reducePow, Int.reduceLE, Int.reduceLT, Int.reduceMul, Int.reduceAdd, Int.reduceSub, Int.reduceNeg, Bool.not_true, Bool.not_false, Bool.not_not, ↓reduceIte, Nat.reduceAdd, Nat.reduceSub, Nat.reduceMul, Nat.reduceEqDiff, reduceCtorEq, Nat.reduceLT, Nat.reduceLeDiff, Nat.reduceGT]); (try any_goals (refine ⟨?_, ?_⟩)); (try any_goals (with_reducible rfl)))); done))
                have hx0 := hx
                any_goals (refine w_loop (A := Nat) (fun j => j ≤ i ∧ c.done.getD i Fid.zero ∉ c.done.take j) (fun j => i - j) (fun j => [(10, .int .i64 j)]) (fun _ => []) (0) (ws := ?ws3) (tk := ?tk3) ?hw3 ?ht3 ?hi_2 ?h0_2 ?LH3; (case hw3 => simp only [go_sem, Int.reduceToNat, Nat.min_eq_left, Nat.min_eq_right, Int.reducePow, Nat.reducePow, Int.reduceLE, Int.reduceLT, Int.reduceMul, Int.reduceAdd, Int.reduceSub, Int.reduceNeg, Bool.not_true, Bool.not_false, Bool.not_not, ↓reduceIte, Nat.reduceAdd, Nat.reduceSub, Nat.reduceMul, Nat.reduceEqDiff, reduceCtorEq, Nat.reduceLT, Nat.reduceLeDiff, Nat.reduceGT]; exact rfl); (case ht3 => simp only [go_sem, Int.reduceToNat, Nat.min_eq_left, Nat.min_eq_right, Int.reducePow, Nat.reducePow, Int.reduceLE, Int.reduceLT, Int.reduceMul, Int.reduceAdd, Int.reduceSub, Int.reduceNeg, Bool.not_true, Bool.not_false, Bool.not_not, ↓reduceIte, Nat.reduceAdd, Nat.reduceSub, Nat.reduceMul, Nat.reduceEqDiff, reduceCtorEq, Nat.reduceLT, Nat.reduceLeDiff, Nat.reduceGT]; exact rfl); (case' LH3 => rintro j E t hx hE ht; simp only [go_sem] at ht; subst ht; simp only [go_sem]; try dsimp only at hx))
                case hi_2 => exact ⟨Nat.zero_le _, by simp⟩
                case h0_2 =>
                  (focus (refine ⟨_, _, Gh.refl, [0, 1, 2, 3], rfl, ?_⟩; (refine ⟨?_, ?_, ?_⟩ <;> simp only [go_sem, List.range, List.range.loop, List.nodup_cons, List.nodup_nil, List.mem_cons, List.not_mem_nil, or_false, or_self, Int.reduceToNat, Nat.min_eq_left, Nat.min_eq_right, Int.reducePow, Nat.reducePow, Int.reduceLE, Int.reduceLT, Int.reduceMul, Int.reduceAdd, Int.reduceSub, Int.reduceNeg, Bool.not_true, Bool.not_false, Bool.not_not, ↓reduceIte, Nat.reduceAdd, Nat.reduceSub, Nat.reduceMul, Nat.reduceEqDiff, reduceCtorEq, Nat.reduceLT, Nat.reduceLeDiff, Nat.reduceGT]); (try any_goals (refine ⟨?_, ?_⟩)); (try any_goals (with_reducible rfl))))
                  all_goals first | exact plain_fit (ledO_plain _) | skip
                case LH3 =>
                  by_cases hj : j < i
                  · have hjd : decide ((j : Int) < i) = true := decide_eq_true (by omega)
                    (have zx1 := @hjd; all_goals (try ((first | (with_reducible refine wp_id ?_) | (with_reducible refine does_id ?_)); refine walk ?_; (repeat' (first | exact trivial | with_reducible refine And.intro ?_ ?_)); all_goals (repeat (first | (with_reducible refine ImpB.mk fun hb => ?_) | (with_reducible refine ImpK.mk fun hK => ?_) | (with_reducible refine ImpF.mk fun hF => ?_) | (with_reducible refine AllK.mk fun K => ?_))))); repeat' (with_reducible refine And.intro ?_ ?_))
                    all_goals first | exact Int.natCast_nonneg _ | omega | skip
                    · have he : c.done.getD i Fid.zero = c.done.getD j Fid.zero := by
                        simp only [Bool.and_eq_true, decide_eq_true_eq, Bool.and_true] at hb
                        exact fid_eq hb.1.symm (by first | exact hb.2.symm | exact hb.2.1.symm)
                      rw [ckV_nD hi (by rw [he]; exact fid_mem hj (by omega))]
                      (focus (refine ⟨_, _, Gh.refl, [], rfl, ?_⟩; (refine ⟨?_, ?_, ?_⟩ <;> simp only [go_sem, List.range, List.range.loop, List.nodup_cons, List.nodup_nil, List.mem_cons, List.not_mem_nil, or_false, or_self, Int.reduceToNat, Nat.min_eq_left, Nat.min_eq_right, Int.reducePow, Nat.reducePow, Int.reduceLE, Int.reduceLT, Int.reduceMul, Int.reduceAdd, Int.reduceSub, Int.reduceNeg, Bool.not_true, Bool.not_false, Bool.not_not, ↓reduceIte, Nat.reduceAdd, Nat.reduceSub, Nat.reduceMul, Nat.reduceEqDiff, reduceCtorEq, Nat.reduceLT, Nat.reduceLeDiff, Nat.reduceGT]); (try any_goals (refine ⟨?_, ?_⟩)); (try any_goals (with_reducible rfl))))
                    · refine ⟨j + 1, ⟨⟨by first | omega | (dsimp only; omega), ?m4⟩, by first | omega | (dsimp only; omega)⟩, ?m5⟩
                      case m4 =>
                        rw [fid_take (by omega)]
                        simp only [List.mem_append, List.mem_singleton, not_or]
                        refine ⟨hx.2, fun e => ?_⟩
                        rw [e] at hb
                        simp at hb
                      (focus (refine ⟨_, _, Gh.refl, [0, 1, 2, 3], rfl, ?_⟩; (refine ⟨?_, ?_, ?_⟩ <;> simp only [go_sem, List.range, List.range.loop, List.nodup_cons, List.nodup_nil, List.mem_cons, List.not_mem_nil, or_false, or_self, Int.reduceToNat, Nat.min_eq_left, Nat.min_eq_right, Int.reducePow, Nat.reducePow, Int.reduceLE, Int.reduceLT, Int.reduceMul, Int.reduceAdd, Int.reduceSub, Int.reduceNeg, Bool.not_true, Bool.not_false, Bool.not_not, ↓reduceIte, Nat.reduceAdd, Nat.reduceSub, Nat.reduceMul, Nat.reduceEqDiff, reduceCtorEq, Nat.reduceLT, Nat.reduceLeDiff, Nat.reduceGT]); (try any_goals (refine ⟨?_, ?_⟩)); (try any_goals (with_reducible rfl))))
                      all_goals first | (first | with_reducible rfl | omega | ((simp (disch := omega) only [wrap_i64]); first | done | omega) | (simp only [List.append_assoc, List.cons_append, List.nil_append]; done)) | exact plain_fit (ledO_plain _) | skip
                  · have hjd : decide ((j : Int) < i) = false := decide_eq_false (by omega)
                    have hji : j = i := by omega
                    rw [hji] at hx
                    (have zx1 := @hjd; all_goals (try ((first | (with_reducible refine wp_id ?_) | (with_reducible refine does_id ?_)); refine walk ?_; (repeat' (first | exact trivial | with_reducible refine And.intro ?_ ?_)); all_goals (repeat (first | (with_reducible refine ImpB.mk fun hb => ?_) | (with_reducible refine ImpK.mk fun hK => ?_) | (with_reducible refine ImpF.mk fun hF => ?_) | (with_reducible refine AllK.mk fun K => ?_))))); repeat' (with_reducible refine And.intro ?_ ?_))
                    have hf : fidB (c.done.getD i Fid.zero) = true := by
                      simp only [fidB, Bool.and_eq_true, decide_eq_true_eq]
                      omega
                    refine ⟨i + 1, ⟨⟨by first | omega | (dsimp only; omega), fids_next hi hx0.2.1 hf, nodup_next hi hx0.2.2 hx.2⟩, by first | omega | (dsimp only; omega)⟩, ?m6⟩
                    (focus (refine ⟨_, _, Gh.refl, [0, 1, 2], rfl, ?_⟩; (refine ⟨?_, ?_, ?_⟩ <;> simp only [go_sem, List.range, List.range.loop, List.nodup_cons, List.nodup_nil, List.mem_cons, List.not_mem_nil, or_false, or_self, Int.reduceToNat, Nat.min_eq_left, Nat.min_eq_right, Int.reducePow, Nat.reducePow, Int.reduceLE, Int.reduceLT, Int.reduceMul, Int.reduceAdd, Int.reduceSub, Int.reduceNeg, Bool.not_true, Bool.not_false, Bool.not_not, ↓reduceIte, Nat.reduceAdd, Nat.reduceSub, Nat.reduceMul, Nat.reduceEqDiff, reduceCtorEq, Nat.reduceLT, Nat.reduceLeDiff, Nat.reduceGT]); (try any_goals (refine ⟨?_, ?_⟩)); (try any_goals (with_reducible rfl))))
                    all_goals first | (first | with_reducible rfl | omega | ((simp (disch := omega) only [wrap_i64]); first | done | omega) | (simp only [List.append_assoc, List.cons_append, List.nil_append]; done)) | exact plain_fit (ledO_plain _) | skip
              · have hid : decide ((i : Int) < c.done.length) = false := decide_eq_false (by omega)
                obtain ⟨_, hF, hN⟩ := hx
                rw [List.take_of_length_le (by omega)] at hF hN
                (have zx1 := @hid; all_goals (try ((first | (with_reducible refine wp_id ?_) | (with_reducible refine does_id ?_)); refine walk ?_; (repeat' (first | exact trivial | with_reducible refine And.intro ?_ ?_)); all_goals (repeat (first | (with_reducible refine ImpB.mk fun hb => ?_) | (with_reducible refine ImpK.mk fun hK => ?_) | (with_reducible refine ImpF.mk fun hF => ?_) | (with_reducible refine AllK.mk fun K => ?_))))); repeat' (with_reducible refine And.intro ?_ ?_))
                rw [(ckV_iff c).2 ⟨hB, hS, hF, hN, hL, hc⟩]
                (focus (refine ⟨_, _, Gh.refl, [], rfl, ?_⟩; (refine ⟨?_, ?_, ?_⟩ <;> simp only [go_sem, List.range, List.range.loop, List.nodup_cons, List.nodup_nil, List.mem_cons, List.not_mem_nil, or_false, or_self, Int.reduceToNat, Nat.min_eq_left, Nat.min_eq_right, Int.reducePow, Nat.reducePow, Int.reduceLE, Int.reduceLT, Int.reduceMul, Int.reduceAdd, Int.reduceSub, Int.reduceNeg, Bool.not_true, Bool.not_false, Bool.not_not, ↓reduceIte, Nat.reduceAdd, Nat.reduceSub, Nat.reduceMul, Nat.reduceEqDiff, reduceCtorEq, Nat.reduceLT, Nat.reduceLeDiff, Nat.reduceGT]); (try any_goals (refine ⟨?_, ?_⟩)); (try any_goals (with_reducible rfl))))
    · have hcd : (decide ¬(chkE c.ents 256 = 0)) = true := decide_eq_true hc
      cases hL : ledV c.led
      · (have zx1 := @q1; have zx2 := @q2; have zx3 := @q3; have zx4 := @q4; have zx5 := @q5; have zx6 := @q6; have zx7 := @q7; have zx8 := @q8; have zx9 := @q9; have zx10 := @q10; have zx11 := @hol; have zx12 := @hL; all_goals (try ((first | (with_reducible refine wp_id ?_) | (with_reducible refine does_id ?_)); refine walk ?_; (repeat' (first | exact trivial | with_reducible refine And.intro ?_ ?_)); all_goals (repeat (first | (with_reducible refine ImpB.mk fun hb => ?_) | (with_reducible refine ImpK.mk fun hK => ?_) | (with_reducible refine ImpF.mk fun hF => ?_) | (with_reducible refine AllK.mk fun K => ?_))))); repeat' (with_reducible refine And.intro ?_ ?_))
        · exact hop
        · rw [ckV_nL hL]
          (focus (refine ⟨_, _, Gh.refl, [], rfl, ?_⟩; (refine ⟨?_, ?_, ?_⟩ <;> simp only [go_sem, List.range, List.range.loop, List.nodup_cons, List.nodup_nil, List.mem_cons, List.not_mem_nil, or_false, or_self, Int.reduceToNat, Nat.min_eq_left, Nat.min_eq_right, Int.reducePow, Nat.reducePow, Int.reduceLE, Int.reduceLT, Int.reduceMul, Int.reduceAdd, Int.reduceSub, Int.reduceNeg, Bool.not_true, Bool.not_false, Bool.not_not, ↓reduceIte, Nat.reduceAdd, Nat.reduceSub, Nat.reduceMul, Nat.reduceEqDiff, reduceCtorEq, Nat.reduceLT, Nat.reduceLeDiff, Nat.reduceGT]); (try any_goals (refine ⟨?_, ?_⟩)); (try any_goals (with_reducible rfl))))
      · (have zx1 := @q1; have zx2 := @q2; have zx3 := @q3; have zx4 := @q4; have zx5 := @q5; have zx6 := @q6; have zx7 := @q7; have zx8 := @q8; have zx9 := @q9; have zx10 := @q10; have zx11 := @hol; have zx12 := @hL; have zx13 := @hcd; all_goals (try ((first | (with_reducible refine wp_id ?_) | (with_reducible refine does_id ?_)); refine walk ?_; (repeat' (first | exact trivial | with_reducible refine And.intro ?_ ?_)); all_goals (repeat (first | (with_reducible refine ImpB.mk fun hb => ?_) | (with_reducible refine ImpK.mk fun hK => ?_) | (with_reducible refine ImpF.mk fun hF => ?_) | (with_reducible refine AllK.mk fun K => ?_))))); repeat' (with_reducible refine And.intro ?_ ?_))
        · exact hop
        · rw [ckV_nE hc]
          (focus (refine ⟨_, _, Gh.refl, [], rfl, ?_⟩; (refine ⟨?_, ?_, ?_⟩ <;> simp only [go_sem, List.range, List.range.loop, List.nodup_cons, List.nodup_nil, List.mem_cons, List.not_mem_nil, or_false, or_self, Int.reduceToNat, Nat.min_eq_left, Nat.min_eq_right, Int.reducePow, Nat.reducePow, Int.reduceLE, Int.reduceLT, Int.reduceMul, Int.reduceAdd, Int.reduceSub, Int.reduceNeg, Bool.not_true, Bool.not_false, Bool.not_not, ↓reduceIte, Nat.reduceAdd, Nat.reduceSub, Nat.reduceMul, Nat.reduceEqDiff, reduceCtorEq, Nat.reduceLT, Nat.reduceLeDiff, Nat.reduceGT]); (try any_goals (refine ⟨?_, ?_⟩)); (try any_goals (with_reducible rfl))))
        · exfalso; simp [hc] at hb
  · (all_goals (try ((first | (with_reducible refine wp_id ?_) | (with_reducible refine does_id ?_)); refine walk ?_; (repeat' (first | exact trivial | with_reducible refine And.intro ?_ ?_)); all_goals (repeat (first | (with_reducible refine ImpB.mk fun hb => ?_) | (with_reducible refine ImpK.mk fun hK => ?_) | (with_reducible refine ImpF.mk fun hF => ?_) | (with_reducible refine AllK.mk fun K => ?_))))); repeat' (with_reducible refine And.intro ?_ ?_))
    (all_goals (repeat (first | (clear hK; clear K) | (clear hE; clear E) | (clear hF; clear F) | (clear hR; clear R))); all_goals (try simp only [decide_eq_true_eq, decide_eq_false_iff_not, Bool.not_eq_true', Bool.not_eq_false', Bool.not_eq_true, Bool.not_eq_false, decide_not, decide_true, decide_false, Bool.decide_and, Bool.and_eq_true, Bool.or_eq_true, Bool.and_eq_false_imp, Decidable.not_not] at *); all_goals (try omega); all_goals (try (first | exact u8w_lo _ | exact u8w_hi _ | exact (bits8 _ _ _).1 | exact (bits8 _ _ _).2 | exact Int.natCast_nonneg _ | exact u8_ltI _)))
    all_goals first | (focus (rw [ckV_nB hB]; (focus (refine ⟨_, _, Gh.refl, [], rfl, ?_⟩; (refine ⟨?_, ?_, ?_⟩ <;> simp only [go_sem, List.range, List.range.loop, List.nodup_cons, List.nodup_nil, List.mem_cons, List.not_mem_nil, or_false, or_self, Int.reduceToNat, Nat.min_eq_left, Nat.min_eq_right, Int.reducePow, Nat.reducePow, Int.reduceLE, Int.reduceLT, Int.reduceMul, Int.reduceAdd, Int.reduceSub, Int.reduceNeg, Bool.not_true, Bool.not_false, Bool.not_not, ↓reduceIte, Nat.reduceAdd, Nat.reduceSub, Nat.reduceMul, Nat.reduceEqDiff, reduceCtorEq, Nat.reduceLT, Nat.reduceLeDiff, Nat.reduceGT]); (try any_goals (refine ⟨?_, ?_⟩)); (try any_goals (with_reducible rfl)))); done)) | (exfalso; apply hB; unfold ckB; omega)
theorem c_fvalid {h : List Ch} {K : KT} {n1 n2 n3 n4 : Int} {led : List UInt8} {ents : List Ent} {sides : List Int} {done : List Fid} {d1 d2 d3 d4 : AV} (H : K (.bool (ckV ⟨n1, n2, n3, led, ents, sides, done, n4⟩)) h) (b1 : brA [] h (.ro .byte led) d1) (b2 : brA [] h (.ro .ent ents) d2) (b3 : brA [] h (.ro .int sides) d3) (b4 : brA [] h (.ro .fid done) d4) (s1 : CkS ⟨n1, n2, n3, led, ents, sides, done, n4⟩) : Does Try.prog 10 [.agg [.int .i64 n1, .int .i64 n2, .int .i64 n3, d1, d2, d3, d4, .int .i64 n4]] h K :=
  frame_pure (b_fvalid ⟨n1, n2, n3, led, ents, sides, done, n4⟩ s1) (br_ck ⟨n1, n2, n3, led, ents, sides, done, n4⟩ b1 b2 b3 b4) (.inr rfl) (fun _ => rfl) H
abbrev i_fvalid := Ctr.mk (i := 0) (g := 10) @c_fvalid
attribute [instance] i_fvalid
end Go.V

set_option maxRecDepth 100000
set_option maxHeartbeats 1000000
namespace Go.V
open Go.Proofs
attribute [-go_sem] Wr
def sideE (s : Int) : List UInt8 := be s.toNat 1
def fidE (f : Fid) : List UInt8 := be f.src.toNat 1 ++ be f.num.toNat 2
/-- a checkpoint's encoding: ahead of the sides -/
def headK (c : Ck) : List UInt8 := encI c.boots ++ be c.mode.toNat 1 ++ encI c.time ++ encI c.led.length ++ c.led ++ encI (encE c.ents).length ++ encE c.ents ++ encI c.sides.length
def encK (c : Ck) : List UInt8 := headK c ++ c.sides.flatMap sideE ++ encI c.done.length ++ c.done.flatMap fidE ++ encI c.next
theorem sidesE_len : ∀ l : List Int, (l.flatMap sideE).length = l.length
  | [] => rfl
  | x :: l => by
    simp only [List.flatMap_cons, List.length_append, sidesE_len l, sideE, be_len, List.length_cons]
    omega
theorem fidsE_len : ∀ l : List Fid, (l.flatMap fidE).length = 3 * l.length
  | [] => rfl
  | x :: l => by
    simp only [List.flatMap_cons, List.length_append, fidsE_len l, fidE, be_len, List.length_cons]
    omega
theorem encE_len {l : List Ent} (h : chkE l 256 = 0) : (encE l).length ≤ 200000 := by
  obtain ⟨h1, h2, h3⟩ := (chk_iff l 256).1 h
  have h9 := encI_le l.length (by constructor <;> omega)
  have h4 := encXs_len h1
  unfold encE
  rw [List.length_append]
  omega
theorem headK_len {c : Ck} (h : ckV c = true) : (headK c).length ≤ 300000 := by
  obtain ⟨hB, hS, hF, hN, hL, hc⟩ := (ckV_iff c).1 h
  have hl := ledV_len hL
  have he := encE_len hc
  unfold ckB at hB
  have h1 := encI_le c.boots (by constructor <;> omega)
  have h2 := encI_le c.time (by constructor <;> omega)
  have h3 := encI_le c.led.length (by constructor <;> omega)
  have h4 := encI_le (encE c.ents).length (by constructor <;> omega)
  have h5 := encI_le c.sides.length (by constructor <;> omega)
  unfold headK
  simp only [List.length_append, be_len]
  omega
theorem sides_at {l : List Int} {k : Nat} (h : l.all sideB = true) (hk : k < l.length) : sideB (l.getD k 0) = true := by
  rw [List.all_eq_true] at h
  rw [List.getD_eq_getElem?_getD, List.getElem?_eq_getElem hk]
  exact h _ (List.getElem_mem hk)
theorem fids_at {l : List Fid} {k : Nat} (h : l.all fidB = true) (hk : k < l.length) : 0 ≤ (l.getD k Fid.zero).src ∧ (l.getD k Fid.zero).src ≤ 15 ∧ 0 ≤ (l.getD k Fid.zero).num ∧ (l.getD k Fid.zero).num ≤ 65535 := by
  rw [List.all_eq_true] at h
  have := h _ (List.getElem_mem hk)
  rw [← fid_at hk] at this
  simp only [fidB, Bool.and_eq_true, decide_eq_true_eq] at this
  omega
theorem b_cencF (c : Ck) (hs : CkS c) (hv : ckV c = false) : DoesK Try.prog 0 9 [.agg (ckL c)] [] (EndF 0 (.tup [.lit (.slice none 0 0), .int .i64 1]) []) := by
  refine DoesK.close ?_
  have hv' : ckV ⟨c.boots, c.mode, c.time, c.led, c.ents, c.sides, c.done, c.next⟩ = false := hv
  refine w_body (rs := [.tmp 2, .tmp 3]) (tm := [.agg (ckL c), .any, .any, .any, .any, .any, .any, .any, .any, .any, .any, .any, .any, .any, .any, .any, .any, .any, .any, .any, .any, .any, .any, .any, .any, .any, .any, .any, .any, .any, .any, .any, .any, .any, .any, .any, .any, .any, .any, .any, .any, .any, .any, .any, .any, .any, .any, .any, .any, .any, .any, .any, .any, .any, .any, .any, .any, .any, .any, .any, .any, .any, .any, .any, .any, .any, .any, .any, .any, .any, .any, .any, .any, .any, .any, .any, .any, .any, .any, .any, .any, .any, .any]) fn_9 rfl rfl rfl rfl fun R hR => ?_
  (have zx1 := @hv'; all_goals (try ((first | (with_reducible refine wp_id ?_) | (with_reducible refine does_id ?_)); refine walk ?_; (repeat' (first | exact trivial | with_reducible refine And.intro ?_ ?_)); all_goals (repeat (first | (with_reducible refine ImpB.mk fun hb => ?_) | (with_reducible refine ImpK.mk fun hK => ?_) | (with_reducible refine ImpF.mk fun hF => ?_) | (with_reducible refine AllK.mk fun K => ?_))))); repeat' (with_reducible refine And.intro ?_ ?_))
  (focus (refine ⟨_, _, Gh.refl, [], rfl, ?_⟩; (refine ⟨?_, ?_, ?_⟩ <;> simp only [go_sem, List.range, List.range.loop, List.nodup_cons, List.nodup_nil, List.mem_cons, List.not_mem_nil, or_false, or_self, Int.reduceToNat, Nat.min_eq_left, Nat.min_eq_right, Int.reducePow, Nat.reducePow, Int.reduceLE, Int.reduceLT, Int.reduceMul, Int.reduceAdd, Int.reduceSub, Int.reduceNeg, Bool.not_true, Bool.not_false, Bool.not_not, ↓reduceIte, Nat.reduceAdd, Nat.reduceSub, Nat.reduceMul, Nat.reduceEqDiff, reduceCtorEq, Nat.reduceLT, Nat.reduceLeDiff, Nat.reduceGT]); (try any_goals (refine ⟨?_, ?_⟩)); (try any_goals (with_reducible rfl))))
theorem b_cencT (c : Ck) (hs : CkS c) (hv : ckV c = true) : DoesK Try.prog 0 9 [.agg (ckL c)] [] (EndF 0 (.tup [.sl 0 .byte 0 (encK c).length, .int .i64 0]) [.rows .byte (encK c)]) := by
  refine DoesK.close ?_
  have hv' : ckV ⟨c.boots, c.mode, c.time, c.led, c.ents, c.sides, c.done, c.next⟩ = true := hv
  obtain ⟨hB, hS, hF, hN, hL, hc⟩ := (ckV_iff c).1 hv
  have hl := ledV_len hL
  have he := encE_len hc
  have hB' := hB
  unfold ckB at hB'
  have h1 := encI_le c.boots (by constructor <;> omega)
  have h2 := encI_le c.time (by constructor <;> omega)
  have h3 := encI_le c.led.length (by constructor <;> omega)
  have h4 := encI_le (encE c.ents).length (by constructor <;> omega)
  have h5 := encI_le c.sides.length (by constructor <;> omega)
  have i1 : I64 c.boots := by constructor <;> omega
  have i2 : I64 c.time := by constructor <;> omega
  have i3 : I64 (c.sides.length : Int) := by constructor <;> omega
  have i4 : I64 (c.done.length : Int) := by constructor <;> omega
  have i5 : I64 c.next := by constructor <;> omega
  have w1 : IntKind.u64.wrap c.mode = (c.mode.toNat : Int) := by rw [wrap_u64]; omega
  have hh := headK_len hv
  have hz := hs.lit
  refine w_body (rs := [.tmp 2, .tmp 3]) (tm := [.agg (ckL c), .any, .any, .any, .any, .any, .any, .any, .any, .any, .any, .any, .any, .any, .any, .any, .any, .any, .any, .any, .any, .any, .any, .any, .any, .any, .any, .any, .any, .any, .any, .any, .any, .any, .any, .any, .any, .any, .any, .any, .any, .any, .any, .any, .any, .any, .any, .any, .any, .any, .any, .any, .any, .any, .any, .any, .any, .any, .any, .any, .any, .any, .any, .any, .any, .any, .any, .any, .any, .any, .any, .any, .any, .any, .any, .any, .any, .any, .any, .any, .any, .any, .any]) fn_9 rfl rfl rfl rfl fun R hR => ?_
  (have zx1 := @hv'; have zx2 := @hc; have zx3 := @w1; all_goals (try ((first | (with_reducible refine wp_id ?_) | (with_reducible refine does_id ?_)); refine walk ?_; (repeat' (first | exact trivial | with_reducible refine And.intro ?_ ?_)); all_goals (repeat (first | (with_reducible refine ImpB.mk fun hb => ?_) | (with_reducible refine ImpK.mk fun hK => ?_) | (with_reducible refine ImpF.mk fun hF => ?_) | (with_reducible refine AllK.mk fun K => ?_))))); repeat' (with_reducible refine And.intro ?_ ?_))
  · exfalso; simp at hb
  · any_goals (refine w_loop (A := Nat) (fun k => k ≤ c.sides.length) (fun k => c.sides.length - k) (fun k => [(47, .int .i64 k)]) (fun k => [(2, .pack (Wr (headK c ++ (c.sides.take k).flatMap sideE)))]) (0) (ws := ?ws1) (tk := ?tk1) ?hw1 ?ht1 ?hi ?h0 ?LH1; (case hw1 => simp only [go_sem, Int.reduceToNat, Nat.min_eq_left, Nat.min_eq_right, Int.reducePow, Nat.reducePow, Int.reduceLE, Int.reduceLT, Int.reduceMul, Int.reduceAdd, Int.reduceSub, Int.reduceNeg, Bool.not_true, Bool.not_false, Bool.not_not, ↓reduceIte, Nat.reduceAdd, Nat.reduceSub, Nat.reduceMul, Nat.reduceEqDiff, reduceCtorEq, Nat.reduceLT, Nat.reduceLeDiff, Nat.reduceGT]; exact rfl); (case ht1 => simp only [go_sem, Int.reduceToNat, Nat.min_eq_left, Nat.min_eq_right, Int.reducePow, Nat.reducePow, Int.reduceLE, Int.reduceLT, Int.reduceMul, Int.reduceAdd, Int.reduceSub, Int.reduceNeg, Bool.not_true, Bool.not_false, Bool.not_not, ↓reduceIte, Nat.reduceAdd, Nat.reduceSub, Nat.reduceMul, Nat.reduceEqDiff, reduceCtorEq, Nat.reduceLT, Nat.reduceLeDiff, Nat.reduceGT]; exact rfl); (case' LH1 => rintro k E t hx hE ht; simp only [go_sem] at ht; subst ht; simp only [go_sem]; try dsimp only at hx))
    case hi => exact Nat.zero_le _
    case h0 =>
      (focus (refine ⟨_, _, Gh.refl, [0, 1, 2], rfl, ?_⟩; (refine ⟨?_, ?_, ?_⟩ <;> simp only [go_sem, List.range, List.range.loop, List.nodup_cons, List.nodup_nil, List.mem_cons, List.not_mem_nil, or_false, or_self, Int.reduceToNat, Nat.min_eq_left, Nat.min_eq_right, Int.reducePow, Nat.reducePow, Int.reduceLE, Int.reduceLT, Int.reduceMul, Int.reduceAdd, Int.reduceSub, Int.reduceNeg, Bool.not_true, Bool.not_false, Bool.not_not, ↓reduceIte, Nat.reduceAdd, Nat.reduceSub, Nat.reduceMul, Nat.reduceEqDiff, reduceCtorEq, Nat.reduceLT, Nat.reduceLeDiff, Nat.reduceGT]); (try any_goals (refine ⟨?_, ?_⟩)); (try any_goals (with_reducible rfl))))
      rw [List.flatMap_nil, List.append_nil]
      rfl
    case LH1 =>
      have hsl := sidesE_len (c.sides.take k)
      rw [List.length_take] at hsl
      by_cases hk : k < c.sides.length
      · have hkd : decide ((k : Int) < c.sides.length) = true := decide_eq_true (by omega)
        have hsk := side_ne (sides_at hS hk)
        have w2 : IntKind.u64.wrap (c.sides.getD k 0) = ((c.sides.getD k 0).toNat : Int) := by rw [wrap_u64]; omega
        (have zx1 := @hkd; have zx2 := @w2; all_goals (try ((first | (with_reducible refine wp_id ?_) | (with_reducible refine does_id ?_)); refine walk ?_; (repeat' (first | exact trivial | with_reducible refine And.intro ?_ ?_)); all_goals (repeat (first | (with_reducible refine ImpB.mk fun hb => ?_) | (with_reducible refine ImpK.mk fun hK => ?_) | (with_reducible refine ImpF.mk fun hF => ?_) | (with_reducible refine AllK.mk fun K => ?_))))); repeat' (with_reducible refine And.intro ?_ ?_))
        all_goals first | exact Int.natCast_nonneg _ | omega | skip
        · refine ⟨k + 1, ⟨by first | omega | (dsimp only; omega), by first | omega | (dsimp only; omega)⟩, ?m1⟩
          have e1 : (c.sides.take (k + 1)).flatMap sideE = (c.sides.take k).flatMap sideE ++ be (c.sides.getD k 0).toNat 1 := by rw [int_take hk, List.flatMap_append, List.flatMap_singleton]; rfl
          simp only [e1]
          (focus (refine ⟨_, _, Gh.refl, [0, 1, 2], rfl, ?_⟩; (refine ⟨?_, ?_, ?_⟩ <;> simp only [go_sem, List.range, List.range.loop, List.nodup_cons, List.nodup_nil, List.mem_cons, List.not_mem_nil, or_false, or_self, Int.reduceToNat, Nat.min_eq_left, Nat.min_eq_right, Int.reducePow, Nat.reducePow, Int.reduceLE, Int.reduceLT, Int.reduceMul, Int.reduceAdd, Int.reduceSub, Int.reduceNeg, Bool.not_true, Bool.not_false, Bool.not_not, ↓reduceIte, Nat.reduceAdd, Nat.reduceSub, Nat.reduceMul, Nat.reduceEqDiff, reduceCtorEq, Nat.reduceLT, Nat.reduceLeDiff, Nat.reduceGT]); (try any_goals (refine ⟨?_, ?_⟩)); (try any_goals (with_reducible rfl))))
          all_goals first | (first | with_reducible rfl | omega | ((simp (disch := omega) only [wrap_i64]); first | done | omega) | (simp only [List.append_assoc, List.cons_append, List.nil_append]; done)) | (rw [List.append_assoc]; done) | skip
        · simp only [List.length_append]; omega
      · have hkd : decide ((k : Int) < c.sides.length) = false := decide_eq_false (by omega)
        rw [List.take_of_length_le (by omega)] at hsl ⊢
        have hsl2 := sidesE_len c.sides
        have h6 := encI_le c.done.length (by constructor <;> omega)
        have h7 := encI_le c.next (by constructor <;> omega)
        clear hx
        (have zx1 := @hkd; all_goals (try ((first | (with_reducible refine wp_id ?_) | (with_reducible refine does_id ?_)); refine walk ?_; (repeat' (first | exact trivial | with_reducible refine And.intro ?_ ?_)); all_goals (repeat (first | (with_reducible refine ImpB.mk fun hb => ?_) | (with_reducible refine ImpK.mk fun hK => ?_) | (with_reducible refine ImpF.mk fun hF => ?_) | (with_reducible refine AllK.mk fun K => ?_))))); repeat' (with_reducible refine And.intro ?_ ?_))
        · any_goals (refine w_loop (A := Nat) (fun i => i ≤ c.done.length) (fun i => c.done.length - i) (fun i => [(64, .int .i64 i)]) (fun i => [(2, .pack (Wr (headK c ++ c.sides.flatMap sideE ++ encI c.done.length ++ (c.done.take i).flatMap fidE)))]) (0) (ws := ?ws2) (tk := ?tk2) ?hw2 ?ht2 ?hi_1 ?h0_1 ?LH2; (case hw2 => simp only [go_sem, Int.reduceToNat, Nat.min_eq_left, Nat.min_eq_right, Int.reducePow, Nat.reducePow, Int.reduceLE, Int.reduceLT, Int.reduceMul, Int.reduceAdd, Int.reduceSub, Int.reduceNeg, Bool.not_true, Bool.not_false, Bool.not_not, ↓reduceIte, Nat.reduceAdd, Nat.reduceSub, Nat.reduceMul, Nat.reduceEqDiff, reduceCtorEq, Nat.reduceLT, Nat.reduceLeDiff, Nat.reduceGT]; exact rfl); (case ht2 => simp only [go_sem, Int.reduceToNat, Nat.min_eq_left, Nat.min_eq_right, Int.reducePow, Nat.reducePow, Int.reduceLE, Int.reduceLT, Int.reduceMul, Int.reduceAdd, Int.reduceSub, Int.reduceNeg, Bool.not_true, Bool.not_false, Bool.not_not, ↓reduceIte, Nat.reduceAdd, Nat.reduceSub, Nat.reduceMul, Nat.reduceEqDiff, reduceCtorEq, Nat.reduceLT, Nat.reduceLeDiff, Nat.reduceGT]; exact rfl); (case' LH2 => rintro i E t hx hE ht; simp only [go_sem] at ht; subst ht; simp only [go_sem]; try dsimp only at hx))
          case hi_1 => exact Nat.zero_le _
          case h0_1 =>
            (focus (refine ⟨_, _, Gh.refl, [0, 1, 2], rfl, ?_⟩; (refine ⟨?_, ?_, ?_⟩ <;> simp only [go_sem, List.range, List.range.loop, List.nodup_cons, List.nodup_nil, List.mem_cons, List.not_mem_nil, or_false, or_self, Int.reduceToNat, Nat.min_eq_left, Nat.min_eq_right, Int.reducePow, Nat.reducePow, Int.reduceLE, Int.reduceLT, Int.reduceMul, Int.reduceAdd, Int.reduceSub, Int.reduceNeg, Bool.not_true, Bool.not_false, Bool.not_not, ↓reduceIte, Nat.reduceAdd, Nat.reduceSub, Nat.reduceMul, Nat.reduceEqDiff, reduceCtorEq, Nat.reduceLT, Nat.reduceLeDiff, Nat.reduceGT]); (try any_goals (refine ⟨?_, ?_⟩)); (try any_goals (with_reducible rfl))))
            rw [List.flatMap_nil, List.append_nil]
          case LH2 =>
            have hfl := fidsE_len (c.done.take i)
            rw [List.length_take] at hfl
            by_cases hi : i < c.done.length
            · have hid : decide ((i : Int) < c.done.length) = true := decide_eq_true (by omega)
              have hfi := fids_at hF hi
              have w3 : IntKind.u64.wrap (c.done.getD i Fid.zero).src = ((c.done.getD i Fid.zero).src.toNat : Int) := by rw [wrap_u64]; omega
              have w4 : IntKind.u64.wrap (c.done.getD i Fid.zero).num = ((c.done.getD i Fid.zero).num.toNat : Int) := by rw [wrap_u64]; omega
              (have zx1 := @hid; have zx2 := @w3; have zx3 := @w4; all_goals (try ((first | (with_reducible refine wp_id ?_) | (with_reducible refine does_id ?_)); refine walk ?_; (repeat' (first | exact trivial | with_reducible refine And.intro ?_ ?_)); all_goals (repeat (first | (with_reducible refine ImpB.mk fun hb => ?_) | (with_reducible refine ImpK.mk fun hK => ?_) | (with_reducible refine ImpF.mk fun hF => ?_) | (with_reducible refine AllK.mk fun K => ?_))))); repeat' (with_reducible refine And.intro ?_ ?_))
              all_goals first | exact Int.natCast_nonneg _ | omega | (simp only [List.length_append, be_len]; omega) | skip
              refine ⟨i + 1, ⟨by first | omega | (dsimp only; omega), by first | omega | (dsimp only; omega)⟩, ?m2⟩
              have e1 : (c.done.take (i + 1)).flatMap fidE = (c.done.take i).flatMap fidE ++ (be (c.done.getD i Fid.zero).src.toNat 1 ++ be (c.done.getD i Fid.zero).num.toNat 2) := by rw [fid_take hi, List.flatMap_append, List.flatMap_singleton]; rfl
              simp only [e1]
              (focus (refine ⟨_, _, Gh.refl, [0, 1, 2], rfl, ?_⟩; (refine ⟨?_, ?_, ?_⟩ <;> simp only [go_sem, List.range, List.range.loop, List.nodup_cons, List.nodup_nil, List.mem_cons, List.not_mem_nil, or_false, or_self, Int.reduceToNat, Nat.min_eq_left, Nat.min_eq_right, Int.reducePow, Nat.reducePow, Int.reduceLE, Int.reduceLT, Int.reduceMul, Int.reduceAdd, Int.reduceSub, Int.reduceNeg, Bool.not_true, Bool.not_false, Bool.not_not, ↓reduceIte, Nat.reduceAdd, Nat.reduceSub, Nat.reduceMul, Nat.reduceEqDiff, reduceCtorEq, Nat.reduceLT, Nat.reduceLeDiff, Nat.reduceGT]); (try any_goals (refine ⟨?_, ?_⟩)); (try any_goals (with_reducible rfl))))
              all_goals first | (first | with_reducible rfl | omega | ((simp (disch := omega) only [wrap_i64]); first | done | omega) | (simp only [List.append_assoc, List.cons_append, List.nil_append]; done)) | (simp only [List.append_assoc]; done) | skip
            · have hid : decide ((i : Int) < c.done.length) = false := decide_eq_false (by omega)
              rw [List.take_of_length_le (by omega)] at hfl ⊢
              (have zx1 := @hid; all_goals (try ((first | (with_reducible refine wp_id ?_) | (with_reducible refine does_id ?_)); refine walk ?_; (repeat' (first | exact trivial | with_reducible refine And.intro ?_ ?_)); all_goals (repeat (first | (with_reducible refine ImpB.mk fun hb => ?_) | (with_reducible refine ImpK.mk fun hK => ?_) | (with_reducible refine ImpF.mk fun hF => ?_) | (with_reducible refine AllK.mk fun K => ?_))))); repeat' (with_reducible refine And.intro ?_ ?_))
              all_goals first | exact Int.natCast_nonneg _ | omega | (simp only [List.length_append, be_len]; omega) | skip
              unfold encK
              (focus (refine ⟨_, _, Gh.refl, [3], rfl, ?_⟩; (refine ⟨?_, ?_, ?_⟩ <;> simp only [go_sem, List.range, List.range.loop, List.nodup_cons, List.nodup_nil, List.mem_cons, List.not_mem_nil, or_false, or_self, Int.reduceToNat, Nat.min_eq_left, Nat.min_eq_right, Int.reducePow, Nat.reducePow, Int.reduceLE, Int.reduceLT, Int.reduceMul, Int.reduceAdd, Int.reduceSub, Int.reduceNeg, Bool.not_true, Bool.not_false, Bool.not_not, ↓reduceIte, Nat.reduceAdd, Nat.reduceSub, Nat.reduceMul, Nat.reduceEqDiff, reduceCtorEq, Nat.reduceLT, Nat.reduceLeDiff, Nat.reduceGT]); (try any_goals (refine ⟨?_, ?_⟩)); (try any_goals (with_reducible rfl))))
        · simp only [List.length_append]; omega
  all_goals
    simp only [List.length_append, be_len]
    omega
theorem c_cencF {h : List Ch} {K : KT} {n1 n2 n3 n4 : Int} {led : List UInt8} {ents : List Ent} {sides : List Int} {done : List Fid} {d1 d2 d3 d4 : AV} (H : K (.tup [.lit (.slice none 0 0), .int .i64 1]) h) (b1 : brA [] h (.ro .byte led) d1) (b2 : brA [] h (.ro .ent ents) d2) (b3 : brA [] h (.ro .int sides) d3) (b4 : brA [] h (.ro .fid done) d4) (e1 : ckV ⟨n1, n2, n3, led, ents, sides, done, n4⟩ = false) (s1 : CkS ⟨n1, n2, n3, led, ents, sides, done, n4⟩) : Does Try.prog 9 [.agg [.int .i64 n1, .int .i64 n2, .int .i64 n3, d1, d2, d3, d4, .int .i64 n4]] h K :=
  frame_pure (b_cencF ⟨n1, n2, n3, led, ents, sides, done, n4⟩ s1 e1) (br_ck ⟨n1, n2, n3, led, ents, sides, done, n4⟩ b1 b2 b3 b4) (.inr rfl) (fun _ => rfl) H
abbrev i_cencF := Ctr.mk (i := 0) (g := 9) @c_cencF
attribute [instance] i_cencF
theorem c_cencT {h : List Ch} {K : KT} {n1 n2 n3 n4 : Int} {led : List UInt8} {ents : List Ent} {sides : List Int} {done : List Fid} {d1 d2 d3 d4 : AV} (H : K (.tup [.sl h.length .byte 0 (encK ⟨n1, n2, n3, led, ents, sides, done, n4⟩).length, .int .i64 0]) (h ++ [.rows .byte (encK ⟨n1, n2, n3, led, ents, sides, done, n4⟩)])) (b1 : brA [] h (.ro .byte led) d1) (b2 : brA [] h (.ro .ent ents) d2) (b3 : brA [] h (.ro .int sides) d3) (b4 : brA [] h (.ro .fid done) d4) (e1 : ckV ⟨n1, n2, n3, led, ents, sides, done, n4⟩ = true) (s1 : CkS ⟨n1, n2, n3, led, ents, sides, done, n4⟩) : Does Try.prog 9 [.agg [.int .i64 n1, .int .i64 n2, .int .i64 n3, d1, d2, d3, d4, .int .i64 n4]] h K :=
  frame_new (ret' := .tup [.sl h.length .byte 0 (encK ⟨n1, n2, n3, led, ents, sides, done, n4⟩).length, .int .i64 0]) (b_cencT ⟨n1, n2, n3, led, ents, sides, done, n4⟩ s1 e1) (br_ck ⟨n1, n2, n3, led, ents, sides, done, n4⟩ b1 b2 b3 b4) (.inr rfl) (fun _ => rfl) rfl H
abbrev i_cencT := Ctr.mk (i := 1) (g := 9) @c_cencT
attribute [instance] i_cencT
end Go.V

set_option maxRecDepth 100000
namespace Go.V
open Go.Proofs
attribute [-go_sem] Wr
theorem sideE_one {x : Int} (h : sideB x = true) (r : List UInt8) : uintR (some (sideE x ++ r)) 1 = (x.toNat, some r) := by
  have := side_ne h
  exact uintR_be x.toNat 1 (by omega) r
theorem countR_enc {n : Nat} (h : n ≤ 256) (r : List UInt8) : countR (some (encI n ++ r)) 256 = ((n : Int), some r) := by
  unfold countR
  rw [intR_enc _ (by constructor <;> omega)]
  simp only
  rw [if_neg (by omega)]
/-- how an encoding is read, step by step -/
structure RdK (c : Ck) (b rest : List UInt8) (r1 r2 r3 r4 r5 r6 r7 r8 r9 : List UInt8) : Prop where
  e1 : intR (some b) = (c.boots, some r1)
  e2 : uintR (some r1) 1 = (c.mode.toNat, some r2)
  e3 : intR (some r2) = (c.time, some r3)
  e4 : ∀ m : Int, 160 ≤ m → blobR (some r3) m = (c.led, some r4)
  e5 : ∀ m : Int, ((encE c.ents).length : Int) ≤ m → blobR (some r4) m = (encE c.ents, some r5)
  e6 : countR (some r5) 256 = ((c.sides.length : Int), some r6)
  e7 : r6 = c.sides.flatMap sideE ++ r7
  e8 : countR (some r7) 256 = ((c.done.length : Int), some r8)
  e9 : r8 = c.done.flatMap fidE ++ r9
  e10 : intR (some r9) = (c.next, some rest)
theorem rdK {c : Ck} (h : ckV c = true) (rest : List UInt8) : ∃ r1 r2 r3 r4 r5 r6 r7 r8 r9, RdK c (encK c ++ rest) rest r1 r2 r3 r4 r5 r6 r7 r8 r9 := by
  obtain ⟨hB, hS, hF, hN, hL, hc⟩ := (ckV_iff c).1 h
  have hl := ledV_len hL
  have he := encE_len hc
  unfold ckB at hB
  have i1 : I64 c.boots := by constructor <;> omega
  have i2 : I64 c.time := by constructor <;> omega
  have i5 : I64 c.next := by constructor <;> omega
  refine ⟨be c.mode.toNat 1 ++ (encI c.time ++ (encI c.led.length ++ c.led ++ (encI (encE c.ents).length ++ encE c.ents ++ (encI c.sides.length ++ (c.sides.flatMap sideE ++ (encI c.done.length ++ (c.done.flatMap fidE ++ (encI c.next ++ rest)))))))),
    encI c.time ++ (encI c.led.length ++ c.led ++ (encI (encE c.ents).length ++ encE c.ents ++ (encI c.sides.length ++ (c.sides.flatMap sideE ++ (encI c.done.length ++ (c.done.flatMap fidE ++ (encI c.next ++ rest))))))),
    encI c.led.length ++ c.led ++ (encI (encE c.ents).length ++ encE c.ents ++ (encI c.sides.length ++ (c.sides.flatMap sideE ++ (encI c.done.length ++ (c.done.flatMap fidE ++ (encI c.next ++ rest)))))),
    encI (encE c.ents).length ++ encE c.ents ++ (encI c.sides.length ++ (c.sides.flatMap sideE ++ (encI c.done.length ++ (c.done.flatMap fidE ++ (encI c.next ++ rest))))),
    encI c.sides.length ++ (c.sides.flatMap sideE ++ (encI c.done.length ++ (c.done.flatMap fidE ++ (encI c.next ++ rest)))),
    c.sides.flatMap sideE ++ (encI c.done.length ++ (c.done.flatMap fidE ++ (encI c.next ++ rest))),
    encI c.done.length ++ (c.done.flatMap fidE ++ (encI c.next ++ rest)),
    c.done.flatMap fidE ++ (encI c.next ++ rest),
    encI c.next ++ rest,
    ⟨?_, ?_, ?_, ?_, ?_, ?_, rfl, ?_, rfl, ?_⟩⟩
  · have e : encK c ++ rest = encI c.boots ++ (be c.mode.toNat 1 ++ (encI c.time ++ (encI c.led.length ++ c.led ++ (encI (encE c.ents).length ++ encE c.ents ++ (encI c.sides.length ++ (c.sides.flatMap sideE ++ (encI c.done.length ++ (c.done.flatMap fidE ++ (encI c.next ++ rest))))))))) := by
      unfold encK headK
      simp only [List.append_assoc]
    rw [e]
    exact intR_enc _ i1 _
  · exact uintR_be _ 1 (by omega) _
  · exact intR_enc _ i2 _
  · exact fun m hm => blobR_enc _ _ m (by omega) (by omega)
  · exact fun m hm => blobR_enc _ _ m hm (by omega)
  · exact countR_enc (by omega) _
  · exact countR_enc (by omega) _
  · exact intR_enc _ i5 _
theorem RdK.len {c : Ck} {b rest r1 r2 r3 r4 r5 r6 r7 r8 r9 : List UInt8} (h : RdK c b rest r1 r2 r3 r4 r5 r6 r7 r8 r9) : r1.length ≤ b.length ∧ r2.length ≤ b.length ∧ r3.length ≤ b.length ∧ r4.length ≤ b.length ∧ r5.length ≤ b.length ∧ r6.length ≤ b.length ∧ r7.length ≤ b.length ∧ r8.length ≤ b.length ∧ r9.length ≤ b.length := by
  have h1 := intR_len (some b)
  have h2 := uintR_lenR (some r1) 1
  have h3 := intR_len (some r2)
  have h4 := (blobR_lens (some r3) 160).2
  have h5 := (blobR_lens (some r4) (encE c.ents).length).2
  have h6 := countR_len (some r5) 256
  have h8 := countR_len (some r7) 256
  rw [h.e1] at h1
  rw [h.e2] at h2
  rw [h.e3] at h3
  rw [h.e4 160 (by decide)] at h4
  rw [h.e5 _ (Int.le_refl _)] at h5
  rw [h.e6] at h6
  rw [h.e8] at h8
  have h7 := congrArg List.length h.e7
  have h9 := congrArg List.length h.e9
  rw [List.length_append] at h7 h9
  simp only [lenR, Option.getD_some] at h1 h2 h3 h4 h5 h6 h8
  omega
theorem sides_inj : ∀ {l m : List Int} {x y : List UInt8}, l.all sideB = true → m.all sideB = true → l.length = m.length → l.flatMap sideE ++ x = m.flatMap sideE ++ y → l = m ∧ x = y
  | [], [], x, y, _, _, _, h => ⟨rfl, h⟩
  | a :: l, b :: m, x, y, hl, hm, hn, h => by
    simp only [List.all_cons, Bool.and_eq_true] at hl hm
    simp only [List.flatMap_cons, List.append_assoc] at h
    have h1 := sideE_one hl.1 (l.flatMap sideE ++ x)
    rw [h, sideE_one hm.1] at h1
    simp only [Prod.mk.injEq, Option.some.injEq] at h1
    obtain ⟨h2, h3⟩ := sides_inj hl.2 hm.2 (by simpa using hn) h1.2.symm
    have := side_ne hl.1
    have := side_ne hm.1
    exact ⟨by rw [h2, show a = b from by omega], h3⟩
  | [], _ :: _, _, _, _, _, h, _ => by simp at h
  | _ :: _, [], _, _, _, _, h, _ => by simp at h
theorem fid_bd {f : Fid} (h : fidB f = true) : 0 ≤ f.src ∧ f.src ≤ 15 ∧ 0 ≤ f.num ∧ f.num ≤ 65535 := by
  simp only [fidB, Bool.and_eq_true, decide_eq_true_eq] at h
  omega
theorem fidE_two {f : Fid} (h : fidB f = true) (r : List UInt8) : uintR (some (fidE f ++ r)) 1 = (f.src.toNat, some (be f.num.toNat 2 ++ r)) ∧ uintR (some (be f.num.toNat 2 ++ r)) 2 = (f.num.toNat, some r) := by
  have := fid_bd h
  unfold fidE
  rw [List.append_assoc]
  exact ⟨uintR_be _ 1 (by omega) _, uintR_be _ 2 (by omega) _⟩
theorem fids_inj : ∀ {l m : List Fid} {x y : List UInt8}, l.all fidB = true → m.all fidB = true → l.length = m.length → l.flatMap fidE ++ x = m.flatMap fidE ++ y → l = m ∧ x = y
  | [], [], x, y, _, _, _, h => ⟨rfl, h⟩
  | a :: l, b :: m, x, y, hl, hm, hn, h => by
    simp only [List.all_cons, Bool.and_eq_true] at hl hm
    simp only [List.flatMap_cons, List.append_assoc] at h
    have h1 := fidE_two hl.1 (l.flatMap fidE ++ x)
    have h2 := fidE_two hm.1 (m.flatMap fidE ++ y)
    rw [h, h2.1] at h1
    simp only [Prod.mk.injEq, Option.some.injEq] at h1
    have h3 := h1.2
    rw [← h1.1.2, h2.2] at h3
    simp only [Prod.mk.injEq, Option.some.injEq] at h3
    obtain ⟨h4, h5⟩ := fids_inj hl.2 hm.2 (by simpa using hn) h3.2.symm
    have := fid_bd hl.1
    have := fid_bd hm.1
    exact ⟨by rw [h4, show a = b from fid_eq (by omega) (by omega)], h5⟩
  | [], _ :: _, _, _, _, _, h, _ => by simp at h
  | _ :: _, [], _, _, _, _, h, _ => by simp at h
theorem encE_inj {l m : List Ent} (hl : chkE l 256 = 0) (hm : chkE m 256 = 0) (h : encE l = encE m) : l = m := by
  have h1 := decE_iff.2 ⟨hl, h⟩
  have h2 := decE_iff.2 ⟨hm, rfl⟩
  rw [h1] at h2
  exact Option.some.inj h2
/-- no encoding begins another one -/
theorem encK_inj {c d : Ck} (hc : ckV c = true) (hd : ckV d = true) {x y : List UInt8} (h : encK c ++ x = encK d ++ y) : c = d ∧ x = y := by
  obtain ⟨r1, r2, r3, r4, r5, r6, r7, r8, r9, p⟩ := rdK hc x
  obtain ⟨s1, s2, s3, s4, s5, s6, s7, s8, s9, q⟩ := rdK hd y
  rw [h] at p
  obtain ⟨hB, hS, hF, hN, hL, hE⟩ := (ckV_iff c).1 hc
  obtain ⟨hB', hS', hF', hN', hL', hE'⟩ := (ckV_iff d).1 hd
  have e1 := p.e1
  rw [q.e1] at e1
  simp only [Prod.mk.injEq, Option.some.injEq] at e1
  obtain ⟨a1, rfl⟩ := e1
  have e2 := p.e2
  rw [q.e2] at e2
  simp only [Prod.mk.injEq, Option.some.injEq] at e2
  obtain ⟨a2, rfl⟩ := e2
  have e3 := p.e3
  rw [q.e3] at e3
  simp only [Prod.mk.injEq, Option.some.injEq] at e3
  obtain ⟨a3, rfl⟩ := e3
  have e4 := p.e4 160 (by decide)
  rw [q.e4 160 (by decide)] at e4
  simp only [Prod.mk.injEq, Option.some.injEq] at e4
  obtain ⟨a4, rfl⟩ := e4
  have e5 := p.e5 (max ((encE c.ents).length : Int) (encE d.ents).length) (by omega)
  rw [q.e5 _ (by omega)] at e5
  simp only [Prod.mk.injEq, Option.some.injEq] at e5
  obtain ⟨a5, rfl⟩ := e5
  have e6 := p.e6
  rw [q.e6] at e6
  simp only [Prod.mk.injEq, Option.some.injEq] at e6
  obtain ⟨a6, rfl⟩ := e6
  have e7 := p.e7
  rw [q.e7] at e7
  obtain ⟨a7, rfl⟩ := sides_inj hS' hS (by omega) e7
  have e8 := p.e8
  rw [q.e8] at e8
  simp only [Prod.mk.injEq, Option.some.injEq] at e8
  obtain ⟨a8, rfl⟩ := e8
  have e9 := p.e9
  rw [q.e9] at e9
  obtain ⟨a9, rfl⟩ := fids_inj hF' hF (by omega) e9
  have e10 := p.e10
  rw [q.e10] at e10
  simp only [Prod.mk.injEq, Option.some.injEq] at e10
  have a11 := encE_inj hE' hE a5
  unfold ckB at hB hB'
  refine ⟨?_, e10.2.symm⟩
  have a12 : c.mode = d.mode := by omega
  have a13 := e10.1
  cases c; cases d
  simp only at *
  subst a1; subst a3; subst a4; subst a7; subst a9; subst a11; subst a12; subst a13
  rfl
end Go.V
