/-
  schedule: Shift.
  schedule: Due, Restore.
  schedule: Restore.
  The specification of the schedule: New, clock, off, before, insert, Insert.
  The specification of the schedule: Insert, Delete, Enable.
  The specification of the schedule: Delete, Enable.
  The specification of the schedule: Due, Shift, Restore.
  The schedule and its specification: plain laws.
  The schedule and its specification: the invariant, step by step.
  A step on the schedule and on its specification.
  The laws of the schedule: the examples of the chapter.
  The laws of the schedule: SchedulePlays.
-/
import Derived.Test.YtnhhgmoadpiklaaPart21
set_option linter.unusedVariables false
set_option linter.unusedSimpArgs false
set_option maxRecDepth 100000
set_option maxHeartbeats 8000000
namespace Go.V
open Go.Proofs
def shBad (now g by' : Int) (x : Ent) : Bool := decide (x.group = g) && (decide (1099511627776 - x.time < by') || decide (by' ≤ now - x.time))
def shOne (g by' : Int) (x : Ent) : Ent := if x.group = g then { x with time := x.time + by' } else x
def shE (now g by' : Int) (l : List Ent) : Int := if ¬ (0 ≤ g ∧ g < 16) then 1 else if l.any (shBad now g by') then 10 else 0
def shL (now g by' : Int) (l : List Ent) : List Ent := if shE now g by' l = 0 then srtE (l.map (shOne g by')) else l
theorem shOne_id (g by' : Int) (x : Ent) : (shOne g by' x).id = x.id := by unfold shOne; split <;> rfl
theorem sh_ids (g by' : Int) (l : List Ent) : (l.map (shOne g by')).map (·.id) = l.map (·.id) := by
  rw [List.map_map]; exact List.map_congr_left fun x _ => shOne_id g by' x
def timeE (l : List Ent) : Prop := ∀ x ∈ l, 0 ≤ x.time ∧ x.time ≤ 1099511627776
theorem map_set {l m : List Ent} {g by' : Int} {j : Nat} (hj : j < l.length) (hm : m = (l.take j).map (shOne g by') ++ l.drop j) : m.set j (shOne g by' (eAt l j)) = (l.take (j + 1)).map (shOne g by') ++ l.drop (j + 1) := by
  subst hm
  have hk : ((l.take j).map (shOne g by')).length = j := by simp; omega
  rw [List.set_append, if_neg (by omega), hk, Nat.sub_self, List.drop_eq_getElem_cons hj, List.set_cons_zero, List.take_succ_eq_append_getElem hj, List.map_append, ← eAt_eq hj, List.append_assoc]
  rfl
theorem b_sshift (most now next : Int) (o : List Bool) (l : List Ent) (n g by' : Int) (hl : l.length ≤ 1000000) (hn : (l.map (·.id)).Nodup) (ht : timeE l) (hnow : 0 ≤ now ∧ now ≤ 1099511627776) : DoesK Try.prog 1 20 [.ptr 0 0, .int .i64 n, .int .i64 g, .int .i64 by'] [.pack (ScO most now next o l)]
    (EndF 1 (.int .i64 (shE (passT now n) g by' l)) ([.pack (ScO most (passT now n) next o (shL (passT now n) g by' l))] ++ [])) := by
  refine DoesK.close ?_
  obtain ⟨nw, hnw⟩ : ∃ nw, passT now n = nw := ⟨_, rfl⟩
  have hnr : 0 ≤ nw ∧ nw ≤ 1099511627776 := by rw [← hnw]; unfold passT; split <;> omega
  rw [hnw]
  by_cases c1 : 0 ≤ g ∧ g < 16
  · have d1 : (decide (0 ≤ g) && decide (g < 16)) = true := by rw [decide_eq_true c1.1, decide_eq_true c1.2]; rfl
    refine w_body (rs := [.tmp 8]) (tm := [.ptr 0 0, .int .i64 n, .int .i64 g, .int .i64 by', .any, .any, .any, .any, .any, .any, .any, .any, .any, .any, .any, .any, .any, .any, .any, .any, .any, .any, .any, .any, .any, .any, .any, .any, .any, .any, .any, .any, .any, .any, .any, .any, .any, .any, .any, .any, .any, .any, .any, .any, .any, .any, .any, .any, .any, .any, .any, .any, .any, .any, .any, .any, .any, .any, .any, .any, .any, .any, .any, .any, .any, .any, .any, .any, .any, .any, .any, .any, .any, .any, .any, .any, .any, .any, .any, .any, .any, .any, .any, .any, .any, .any]) fn_20 rfl rfl rfl rfl fun R hR => ?_
    (have zx1 := @hnw; have zx2 := @d1; all_goals (try ((first | (with_reducible refine wp_id ?_) | (with_reducible refine does_id ?_) | (with_reducible refine ops_id ?_)); refine walk ?_; (repeat' (first | exact trivial | with_reducible refine And.intro ?_ ?_)); all_goals (repeat (first | (with_reducible refine ImpB.mk fun hb => ?_) | (with_reducible refine ImpK.mk fun hK => ?_) | (with_reducible refine ImpF.mk fun hF => ?_) | (with_reducible refine ImpQ.mk fun hp => ?_) | (with_reducible refine AllE.mk fun p => ?_) | (with_reducible refine AllR.mk fun rest => ?_) | (with_reducible refine AllK.mk fun K => ?_))))); repeat' (with_reducible refine And.intro ?_ ?_))
    any_goals ((try (refine w_seq fun K hK => ?_)); (try (refine w_block ?_)); refine w_loop (A := Nat) (fun k => (l.take k).any (shBad nw g by') = false ∧ k ≤ l.length) (fun k => l.length - k) (fun k => [(26, .int .i64 k)]) (fun k => [(0, .cells (scC most nw next o 1 l.length)), (1, .rows .ent l)]) (0) (ws := ?ws1) (tk := ?tk1) ?hw1 ?ht1 ?hi ?h0 ?LH1; (case hw1 => simp only [go_sem, decide_true, decide_false, Int.reduceToNat, Nat.min_eq_left, Nat.min_eq_right, Int.reducePow, Nat.reducePow, Int.reduceLE, Int.reduceLT, Int.reduceMul, Int.reduceAdd, Int.reduceSub, Int.reduceNeg, Bool.not_true, Bool.not_false, Bool.not_not, ↓reduceIte, Nat.reduceAdd, Nat.reduceSub, Nat.reduceMul, Nat.reduceEqDiff, reduceCtorEq, Nat.reduceLT, Nat.reduceLeDiff, Nat.reduceGT]; exact rfl); (case ht1 => simp only [go_sem, decide_true, decide_false, Int.reduceToNat, Nat.min_eq_left, Nat.min_eq_right, Int.reducePow, Nat.reducePow, Int.reduceLE, Int.reduceLT, Int.reduceMul, Int.reduceAdd, Int.reduceSub, Int.reduceNeg, Bool.not_true, Bool.not_false, Bool.not_not, ↓reduceIte, Nat.reduceAdd, Nat.reduceSub, Nat.reduceMul, Nat.reduceEqDiff, reduceCtorEq, Nat.reduceLT, Nat.reduceLeDiff, Nat.reduceGT]; exact rfl); (case' LH1 => rintro k E t hx hE ht; simp only [go_sem] at ht; subst ht; simp only [go_sem]; try dsimp only at hx))
    case LH1 =>
      obtain ⟨ha, hk⟩ := hx
      by_cases c2 : k < l.length
      · have d2 : decide ((k : Int) < (l.length : Int)) = true := decide_eq_true (by omega)
        have htk : 0 ≤ (eAt l k).time ∧ (eAt l k).time ≤ 1099511627776 := by rw [eAt_eq c2]; exact ht _ (List.getElem_mem c2)
        have hst := take_ent c2
        have hw : IntKind.i64.wrap ((k : Int) + 1) = ((k + 1 : Nat) : Int) := wrap_i64 _ (by omega) (by omega)
        have hw1 : IntKind.i64.wrap (1099511627776 - (eAt l k).time) = 1099511627776 - (eAt l k).time := wrap_i64 _ (by omega) (by omega)
        have hw2 : IntKind.i64.wrap (nw - (eAt l k).time) = nw - (eAt l k).time := wrap_i64 _ (by omega) (by omega)
        have hbad : shBad nw g by' (eAt l k) = true → l.any (shBad nw g by') = true := fun q => List.any_eq_true.2 ⟨eAt l k, by rw [eAt_eq c2]; exact List.getElem_mem c2, q⟩
        have hE : l.any (shBad nw g by') = true → shE nw g by' l = 10 ∧ shL nw g by' l = l := by
          intro q
          have e : shE nw g by' l = 10 := by unfold shE; rw [if_neg (fun q => q c1), if_pos q]
          exact ⟨e, by unfold shL; rw [e]; rfl⟩
        have hnx : shBad nw g by' (eAt l k) = false → (l.take (k + 1)).any (shBad nw g by') = false := by
          intro q; rw [hst, List.any_append, ha, List.any_cons, q]; rfl
        (have zx1 := @d2; have zx2 := @hw; have zx3 := @hw1; have zx4 := @hw2; all_goals (try ((first | (with_reducible refine wp_id ?_) | (with_reducible refine does_id ?_) | (with_reducible refine ops_id ?_)); refine walk ?_; (repeat' (first | exact trivial | with_reducible refine And.intro ?_ ?_)); all_goals (repeat (first | (with_reducible refine ImpB.mk fun hb => ?_) | (with_reducible refine ImpK.mk fun hK => ?_) | (with_reducible refine ImpF.mk fun hF => ?_) | (with_reducible refine ImpQ.mk fun hp => ?_) | (with_reducible refine AllE.mk fun p => ?_) | (with_reducible refine AllR.mk fun rest => ?_) | (with_reducible refine AllK.mk fun K => ?_))))); repeat' (with_reducible refine And.intro ?_ ?_))
        · exact Int.natCast_nonneg _
        · exact_mod_cast c2
        · exact c2
        · rename_i q1
          have hq := hE (hbad (by simp only [shBad, hb, q1, Bool.true_or, Bool.and_self]))
          rw [hq.1, hq.2]
          (focus (refine ⟨_, _, gh_close (t := 0) (ts := [1]) (l := ScO most nw next o l) ⟨⟨_, _, rfl⟩, ?_, by simp⟩, [0], rfl, ?_⟩; all_goals (refine ⟨?_, ?_, ?_⟩ <;> simp only [go_sem, List.range, List.range.loop, List.nodup_cons, List.nodup_nil, List.mem_cons, List.not_mem_nil, or_false, or_self, decide_true, decide_false, Int.reduceToNat, Nat.min_eq_left, Nat.min_eq_right, Int.reducePow, Nat.reducePow, Int.reduceLE, Int.reduceLT, Int.reduceMul, Int.reduceAdd, Int.reduceSub, Int.reduceNeg, Bool.not_true, Bool.not_false, Bool.not_not, ↓reduceIte, Nat.reduceAdd, Nat.reduceSub, Nat.reduceMul, Nat.reduceEqDiff, reduceCtorEq, Nat.reduceLT, Nat.reduceLeDiff, Nat.reduceGT]); (try any_goals (refine ⟨?_, ?_⟩)); (try any_goals (with_reducible rfl))))
        · rename_i q1 q2
          have hq := hE (hbad (by simp only [shBad, hb, q1, q2, Bool.or_true, Bool.and_self]))
          rw [hq.1, hq.2]
          (focus (refine ⟨_, _, gh_close (t := 0) (ts := [1]) (l := ScO most nw next o l) ⟨⟨_, _, rfl⟩, ?_, by simp⟩, [0], rfl, ?_⟩; all_goals (refine ⟨?_, ?_, ?_⟩ <;> simp only [go_sem, List.range, List.range.loop, List.nodup_cons, List.nodup_nil, List.mem_cons, List.not_mem_nil, or_false, or_self, decide_true, decide_false, Int.reduceToNat, Nat.min_eq_left, Nat.min_eq_right, Int.reducePow, Nat.reducePow, Int.reduceLE, Int.reduceLT, Int.reduceMul, Int.reduceAdd, Int.reduceSub, Int.reduceNeg, Bool.not_true, Bool.not_false, Bool.not_not, ↓reduceIte, Nat.reduceAdd, Nat.reduceSub, Nat.reduceMul, Nat.reduceEqDiff, reduceCtorEq, Nat.reduceLT, Nat.reduceLeDiff, Nat.reduceGT]); (try any_goals (refine ⟨?_, ?_⟩)); (try any_goals (with_reducible rfl))))
        · rename_i q1 q2
          refine ⟨k + 1, ⟨⟨hnx (by simp only [shBad, hb, q2, Bool.or_self, Bool.and_false]), c2⟩, by dsimp only; omega⟩, ?_⟩
          (focus (refine ⟨_, _, Gh.refl, [0, 1], rfl, ?_⟩; (refine ⟨?_, ?_, ?_⟩ <;> simp only [go_sem, List.range, List.range.loop, List.nodup_cons, List.nodup_nil, List.mem_cons, List.not_mem_nil, or_false, or_self, decide_true, decide_false, Int.reduceToNat, Nat.min_eq_left, Nat.min_eq_right, Int.reducePow, Nat.reducePow, Int.reduceLE, Int.reduceLT, Int.reduceMul, Int.reduceAdd, Int.reduceSub, Int.reduceNeg, Bool.not_true, Bool.not_false, Bool.not_not, ↓reduceIte, Nat.reduceAdd, Nat.reduceSub, Nat.reduceMul, Nat.reduceEqDiff, reduceCtorEq, Nat.reduceLT, Nat.reduceLeDiff, Nat.reduceGT]); (try any_goals (refine ⟨?_, ?_⟩)); (try any_goals (with_reducible rfl))))
        · refine ⟨k + 1, ⟨⟨hnx (by simp only [shBad, hb, Bool.false_and]), c2⟩, by dsimp only; omega⟩, ?_⟩
          (focus (refine ⟨_, _, Gh.refl, [0, 1], rfl, ?_⟩; (refine ⟨?_, ?_, ?_⟩ <;> simp only [go_sem, List.range, List.range.loop, List.nodup_cons, List.nodup_nil, List.mem_cons, List.not_mem_nil, or_false, or_self, decide_true, decide_false, Int.reduceToNat, Nat.min_eq_left, Nat.min_eq_right, Int.reducePow, Nat.reducePow, Int.reduceLE, Int.reduceLT, Int.reduceMul, Int.reduceAdd, Int.reduceSub, Int.reduceNeg, Bool.not_true, Bool.not_false, Bool.not_not, ↓reduceIte, Nat.reduceAdd, Nat.reduceSub, Nat.reduceMul, Nat.reduceEqDiff, reduceCtorEq, Nat.reduceLT, Nat.reduceLeDiff, Nat.reduceGT]); (try any_goals (refine ⟨?_, ?_⟩)); (try any_goals (with_reducible rfl))))
      · have d2 : decide ((k : Int) < (l.length : Int)) = false := decide_eq_false (by omega)
        have hkl : k = l.length := by omega
        have hno : l.any (shBad nw g by') = false := by rw [hkl, List.take_length] at ha; exact ha
        have hgd : ∀ x ∈ l, x.group = g → by' ≤ 1099511627776 - x.time ∧ nw - x.time < by' := by
          intro x hx hg
          have := List.any_eq_false.1 hno x hx
          simp only [shBad, hg, decide_true, Bool.true_and, Bool.or_eq_true, decide_eq_true_eq] at this
          omega
        have e1 : shE nw g by' l = 0 := by unfold shE; rw [if_neg (fun q => q c1), hno]; rfl
        have e2 : shL nw g by' l = srtE (l.map (shOne g by')) := by unfold shL; rw [e1]; rfl
        (have zx1 := @d2; all_goals (try ((first | (with_reducible refine wp_id ?_) | (with_reducible refine does_id ?_) | (with_reducible refine ops_id ?_)); refine walk ?_; (repeat' (first | exact trivial | with_reducible refine And.intro ?_ ?_)); all_goals (repeat (first | (with_reducible refine ImpB.mk fun hb => ?_) | (with_reducible refine ImpK.mk fun hK => ?_) | (with_reducible refine ImpF.mk fun hF => ?_) | (with_reducible refine ImpQ.mk fun hp => ?_) | (with_reducible refine AllE.mk fun p => ?_) | (with_reducible refine AllR.mk fun rest => ?_) | (with_reducible refine AllK.mk fun K => ?_))))); repeat' (with_reducible refine And.intro ?_ ?_))
        any_goals ((try (refine w_seq fun K hK => ?_)); (try (refine w_block ?_)); refine w_loop (A := Nat × List Ent) (fun p => p.2 = (l.take p.1).map (shOne g by') ++ l.drop p.1 ∧ p.1 ≤ l.length) (fun p => l.length - p.1) (fun p => [(58, .int .i64 p.1)]) (fun p => [(0, .cells (scC most nw next o 1 l.length)), (1, .rows .ent p.2)]) ((0, l)) (ws := ?ws2) (tk := ?tk2) ?hw2 ?ht2 ?hi_1 ?h0_1 ?LH2; (case hw2 => simp only [go_sem, decide_true, decide_false, Int.reduceToNat, Nat.min_eq_left, Nat.min_eq_right, Int.reducePow, Nat.reducePow, Int.reduceLE, Int.reduceLT, Int.reduceMul, Int.reduceAdd, Int.reduceSub, Int.reduceNeg, Bool.not_true, Bool.not_false, Bool.not_not, ↓reduceIte, Nat.reduceAdd, Nat.reduceSub, Nat.reduceMul, Nat.reduceEqDiff, reduceCtorEq, Nat.reduceLT, Nat.reduceLeDiff, Nat.reduceGT]; exact rfl); (case ht2 => simp only [go_sem, decide_true, decide_false, Int.reduceToNat, Nat.min_eq_left, Nat.min_eq_right, Int.reducePow, Nat.reducePow, Int.reduceLE, Int.reduceLT, Int.reduceMul, Int.reduceAdd, Int.reduceSub, Int.reduceNeg, Bool.not_true, Bool.not_false, Bool.not_not, ↓reduceIte, Nat.reduceAdd, Nat.reduceSub, Nat.reduceMul, Nat.reduceEqDiff, reduceCtorEq, Nat.reduceLT, Nat.reduceLeDiff, Nat.reduceGT]; exact rfl); (case' LH2 => rintro ⟨j, m⟩ E t hx hE ht; simp only [go_sem] at ht; subst ht; simp only [go_sem]; try dsimp only at hx))
        case LH2 =>
          obtain ⟨hm, hj⟩ := hx
          have hml : m.length = l.length := by rw [hm]; simp; omega
          by_cases c3 : j < l.length
          · have d3 : decide ((j : Int) < (l.length : Int)) = true := decide_eq_true (by omega)
            have hmj : eAt m j = eAt l j := by
              rw [eAt_eq (by omega), eAt_eq c3]
              simp only [hm]
              rw [List.getElem_append_right (by simp; omega), List.getElem_drop]
              congr 1
              simp only [List.length_map, List.length_take]
              omega
            have hgj := hgd (eAt l j) (by rw [eAt_eq c3]; exact List.getElem_mem c3)
            have htj : 0 ≤ (eAt l j).time ∧ (eAt l j).time ≤ 1099511627776 := by rw [eAt_eq c3]; exact ht _ (List.getElem_mem c3)
            have hw : IntKind.i64.wrap ((j : Int) + 1) = ((j + 1 : Nat) : Int) := wrap_i64 _ (by omega) (by omega)
            by_cases c4 : (eAt l j).group = g
            · have d4 : decide ((eAt l j).group = g) = true := decide_eq_true c4
              have hgg := hgj c4
              have hw1 : IntKind.i64.wrap ((eAt l j).time + by') = (eAt l j).time + by' := wrap_i64 _ (by omega) (by omega)
              have hf : ({ eAt l j with time := (eAt l j).time + by' } : Ent) = shOne g by' (eAt l j) := by unfold shOne; rw [if_pos c4]
              have hnm := map_set (g := g) (by' := by') c3 hm
              rw [← hf] at hnm
              (have zx1 := @d3; have zx2 := @hw; have zx3 := @hmj; have zx4 := @d4; have zx5 := @hw1; all_goals (try ((first | (with_reducible refine wp_id ?_) | (with_reducible refine does_id ?_) | (with_reducible refine ops_id ?_)); refine walk ?_; (repeat' (first | exact trivial | with_reducible refine And.intro ?_ ?_)); all_goals (repeat (first | (with_reducible refine ImpB.mk fun hb => ?_) | (with_reducible refine ImpK.mk fun hK => ?_) | (with_reducible refine ImpF.mk fun hF => ?_) | (with_reducible refine ImpQ.mk fun hp => ?_) | (with_reducible refine AllE.mk fun p => ?_) | (with_reducible refine AllR.mk fun rest => ?_) | (with_reducible refine AllK.mk fun K => ?_))))); repeat' (with_reducible refine And.intro ?_ ?_))
              · exact Int.natCast_nonneg _
              · exact_mod_cast c3
              · omega
              · refine ⟨(j + 1, m.set j { eAt l j with time := (eAt l j).time + by' }), ⟨⟨hnm, c3⟩, by dsimp only; omega⟩, ?_⟩
                (focus (refine ⟨_, _, Gh.refl, [0, 1], rfl, ?_⟩; (refine ⟨?_, ?_, ?_⟩ <;> simp only [go_sem, List.range, List.range.loop, List.nodup_cons, List.nodup_nil, List.mem_cons, List.not_mem_nil, or_false, or_self, decide_true, decide_false, Int.reduceToNat, Nat.min_eq_left, Nat.min_eq_right, Int.reducePow, Nat.reducePow, Int.reduceLE, Int.reduceLT, Int.reduceMul, Int.reduceAdd, Int.reduceSub, Int.reduceNeg, Bool.not_true, Bool.not_false, Bool.not_not, ↓reduceIte, Nat.reduceAdd, Nat.reduceSub, Nat.reduceMul, Nat.reduceEqDiff, reduceCtorEq, Nat.reduceLT, Nat.reduceLeDiff, Nat.reduceGT]); (try any_goals (refine ⟨?_, ?_⟩)); (try any_goals (with_reducible rfl))))
            · have d4 : decide ((eAt l j).group = g) = false := decide_eq_false c4
              have hf : eAt l j = shOne g by' (eAt l j) := by unfold shOne; rw [if_neg c4]
              have hnm := map_set (g := g) (by' := by') c3 hm
              rw [← hf, ← hmj, eAt_eq (by omega), List.set_getElem_self] at hnm
              (have zx1 := @d3; have zx2 := @hw; have zx3 := @hmj; have zx4 := @d4; all_goals (try ((first | (with_reducible refine wp_id ?_) | (with_reducible refine does_id ?_) | (with_reducible refine ops_id ?_)); refine walk ?_; (repeat' (first | exact trivial | with_reducible refine And.intro ?_ ?_)); all_goals (repeat (first | (with_reducible refine ImpB.mk fun hb => ?_) | (with_reducible refine ImpK.mk fun hK => ?_) | (with_reducible refine ImpF.mk fun hF => ?_) | (with_reducible refine ImpQ.mk fun hp => ?_) | (with_reducible refine AllE.mk fun p => ?_) | (with_reducible refine AllR.mk fun rest => ?_) | (with_reducible refine AllK.mk fun K => ?_))))); repeat' (with_reducible refine And.intro ?_ ?_))
              · exact Int.natCast_nonneg _
              · exact_mod_cast c3
              · omega
              · refine ⟨(j + 1, m), ⟨⟨hnm, c3⟩, by dsimp only; omega⟩, ?_⟩
                (focus (refine ⟨_, _, Gh.refl, [0, 1], rfl, ?_⟩; (refine ⟨?_, ?_, ?_⟩ <;> simp only [go_sem, List.range, List.range.loop, List.nodup_cons, List.nodup_nil, List.mem_cons, List.not_mem_nil, or_false, or_self, decide_true, decide_false, Int.reduceToNat, Nat.min_eq_left, Nat.min_eq_right, Int.reducePow, Nat.reducePow, Int.reduceLE, Int.reduceLT, Int.reduceMul, Int.reduceAdd, Int.reduceSub, Int.reduceNeg, Bool.not_true, Bool.not_false, Bool.not_not, ↓reduceIte, Nat.reduceAdd, Nat.reduceSub, Nat.reduceMul, Nat.reduceEqDiff, reduceCtorEq, Nat.reduceLT, Nat.reduceLeDiff, Nat.reduceGT]); (try any_goals (refine ⟨?_, ?_⟩)); (try any_goals (with_reducible rfl))))
          · have d3 : decide ((j : Int) < (l.length : Int)) = false := decide_eq_false (by omega)
            have hme : m = l.map (shOne g by') := by rw [hm, List.take_of_length_le (by omega), List.drop_eq_nil_of_le (by omega), List.append_nil]
            subst hme
            (have zx1 := @d3; all_goals (try ((first | (with_reducible refine wp_id ?_) | (with_reducible refine does_id ?_) | (with_reducible refine ops_id ?_)); refine walk ?_; (repeat' (first | exact trivial | with_reducible refine And.intro ?_ ?_)); all_goals (repeat (first | (with_reducible refine ImpB.mk fun hb => ?_) | (with_reducible refine ImpK.mk fun hK => ?_) | (with_reducible refine ImpF.mk fun hF => ?_) | (with_reducible refine ImpQ.mk fun hp => ?_) | (with_reducible refine AllE.mk fun p => ?_) | (with_reducible refine AllR.mk fun rest => ?_) | (with_reducible refine AllK.mk fun K => ?_))))); repeat' (with_reducible refine And.intro ?_ ?_))
            · rw [e1, e2]
              (focus (refine ⟨_, _, Gh.refl, [0], rfl, ?_⟩; (refine ⟨?_, ?_, ?_⟩ <;> simp only [go_sem, List.range, List.range.loop, List.nodup_cons, List.nodup_nil, List.mem_cons, List.not_mem_nil, or_false, or_self, decide_true, decide_false, Int.reduceToNat, Nat.min_eq_left, Nat.min_eq_right, Int.reducePow, Nat.reducePow, Int.reduceLE, Int.reduceLT, Int.reduceMul, Int.reduceAdd, Int.reduceSub, Int.reduceNeg, Bool.not_true, Bool.not_false, Bool.not_not, ↓reduceIte, Nat.reduceAdd, Nat.reduceSub, Nat.reduceMul, Nat.reduceEqDiff, reduceCtorEq, Nat.reduceLT, Nat.reduceLeDiff, Nat.reduceGT]); (try any_goals (refine ⟨?_, ?_⟩)); (try any_goals (with_reducible rfl))))
            · rw [sh_ids]; exact hn
        · exact ⟨rfl, Nat.zero_le _⟩
        · (focus (refine ⟨_, _, Gh.refl, [0, 1], rfl, ?_⟩; (refine ⟨?_, ?_, ?_⟩ <;> simp only [go_sem, List.range, List.range.loop, List.nodup_cons, List.nodup_nil, List.mem_cons, List.not_mem_nil, or_false, or_self, decide_true, decide_false, Int.reduceToNat, Nat.min_eq_left, Nat.min_eq_right, Int.reducePow, Nat.reducePow, Int.reduceLE, Int.reduceLT, Int.reduceMul, Int.reduceAdd, Int.reduceSub, Int.reduceNeg, Bool.not_true, Bool.not_false, Bool.not_not, ↓reduceIte, Nat.reduceAdd, Nat.reduceSub, Nat.reduceMul, Nat.reduceEqDiff, reduceCtorEq, Nat.reduceLT, Nat.reduceLeDiff, Nat.reduceGT]); (try any_goals (refine ⟨?_, ?_⟩)); (try any_goals (with_reducible rfl))))
    · exact ⟨rfl, Nat.zero_le _⟩
    · (focus (refine ⟨_, _, Gh.refl, [0, 1], rfl, ?_⟩; (refine ⟨?_, ?_, ?_⟩ <;> simp only [go_sem, List.range, List.range.loop, List.nodup_cons, List.nodup_nil, List.mem_cons, List.not_mem_nil, or_false, or_self, decide_true, decide_false, Int.reduceToNat, Nat.min_eq_left, Nat.min_eq_right, Int.reducePow, Nat.reducePow, Int.reduceLE, Int.reduceLT, Int.reduceMul, Int.reduceAdd, Int.reduceSub, Int.reduceNeg, Bool.not_true, Bool.not_false, Bool.not_not, ↓reduceIte, Nat.reduceAdd, Nat.reduceSub, Nat.reduceMul, Nat.reduceEqDiff, reduceCtorEq, Nat.reduceLT, Nat.reduceLeDiff, Nat.reduceGT]); (try any_goals (refine ⟨?_, ?_⟩)); (try any_goals (with_reducible rfl))))
  · have d1 : (decide (0 ≤ g) && decide (g < 16)) = false := by
      rw [Bool.eq_false_iff]; intro q; simp at q; exact c1 q
    have e1 : shE nw g by' l = 1 := if_pos c1
    have e2 : shL nw g by' l = l := by unfold shL; rw [e1]; rfl
    rw [e1, e2]
    refine w_body (rs := [.tmp 8]) (tm := [.ptr 0 0, .int .i64 n, .int .i64 g, .int .i64 by', .any, .any, .any, .any, .any, .any, .any, .any, .any, .any, .any, .any, .any, .any, .any, .any, .any, .any, .any, .any, .any, .any, .any, .any, .any, .any, .any, .any, .any, .any, .any, .any, .any, .any, .any, .any, .any, .any, .any, .any, .any, .any, .any, .any, .any, .any, .any, .any, .any, .any, .any, .any, .any, .any, .any, .any, .any, .any, .any, .any, .any, .any, .any, .any, .any, .any, .any, .any, .any, .any, .any, .any, .any, .any, .any, .any, .any, .any, .any, .any, .any, .any]) fn_20 rfl rfl rfl rfl fun R hR => ?_
    (have zx1 := @hnw; have zx2 := @d1; all_goals (try ((first | (with_reducible refine wp_id ?_) | (with_reducible refine does_id ?_) | (with_reducible refine ops_id ?_)); refine walk ?_; (repeat' (first | exact trivial | with_reducible refine And.intro ?_ ?_)); all_goals (repeat (first | (with_reducible refine ImpB.mk fun hb => ?_) | (with_reducible refine ImpK.mk fun hK => ?_) | (with_reducible refine ImpF.mk fun hF => ?_) | (with_reducible refine ImpQ.mk fun hp => ?_) | (with_reducible refine AllE.mk fun p => ?_) | (with_reducible refine AllR.mk fun rest => ?_) | (with_reducible refine AllK.mk fun K => ?_))))); repeat' (with_reducible refine And.intro ?_ ?_))
    (focus (refine ⟨_, _, Gh.refl, [0], rfl, ?_⟩; (refine ⟨?_, ?_, ?_⟩ <;> simp only [go_sem, List.range, List.range.loop, List.nodup_cons, List.nodup_nil, List.mem_cons, List.not_mem_nil, or_false, or_self, decide_true, decide_false, Int.reduceToNat, Nat.min_eq_left, Nat.min_eq_right, Int.reducePow, Nat.reducePow, Int.reduceLE, Int.reduceLT, Int.reduceMul, Int.reduceAdd, Int.reduceSub, Int.reduceNeg, Bool.not_true, Bool.not_false, Bool.not_not, ↓reduceIte, Nat.reduceAdd, Nat.reduceSub, Nat.reduceMul, Nat.reduceEqDiff, reduceCtorEq, Nat.reduceLT, Nat.reduceLeDiff, Nat.reduceGT]); (try any_goals (refine ⟨?_, ?_⟩)); (try any_goals (with_reducible rfl))))
theorem c_sshift {h : List Ch} {K : KT} {u : Nat} {most now next n g by' : Int} {o : List Bool} {l : List Ent} (H : K (.int .i64 (shE (passT now n) g by' l)) (h.set u (.pack (ScO most (passT now n) next o (shL (passT now n) g by' l))))) (o1 : hth h u = .pack (ScO most now next o l)) (s1 : l.length ≤ 1000000) (s2 : (l.map (·.id)).Nodup) (s3 : timeE l) (s4 : 0 ≤ now ∧ now ≤ 1099511627776) : Does Try.prog 20 [.ptr u 0, .int .i64 n, .int .i64 g, .int .i64 by'] h K :=
  frame_obj0 (b_sshift most now next o l n g by' s1 s2 s3 s4) o1 (by simp) (fitC_pack _) (br_cons (br_ptr rfl) (br_cons br_int (br_cons br_int (br_cons br_int br_nil)))) (.inl rfl) (fun _ => rfl) rfl H
end Go.V

set_option maxRecDepth 100000
set_option maxHeartbeats 8000000
namespace Go.V
open Go.Proofs
/-! ### Due -/
def dueW (now : Int) (x : Ent) : Bool := decide (x.time ≤ now)
def dueR (now : Int) (l : List Ent) : List Ent := l.dropWhile (dueW now)
def dueO (now : Int) (o : List Bool) (l : List Ent) : List Ent := (l.takeWhile (dueW now)).filter fun x => !o.getD x.group.toNat false
def grpE (l : List Ent) : Prop := ∀ x ∈ l, 0 ≤ x.group ∧ x.group < 16
theorem b_sdue (most now next : Int) (o : List Bool) (l : List Ent) (n : Int) (hl : l.length ≤ 1000000) (hs : smallE l) (hg : grpE l) : DoesK Try.prog 1 18 [.ptr 0 0, .int .i64 n] [.pack (ScO most now next o l)]
    (EndF 1 (.sl 1 .ent 0 (dueO (passT now n) o l).length) ([.pack (ScO most (passT now n) next o (dueR (passT now n) l))] ++ [.rows .ent (dueO (passT now n) o l)])) := by
  refine DoesK.close ?_
  obtain ⟨nw, hnw⟩ : ∃ nw, passT now n = nw := ⟨_, rfl⟩
  rw [hnw]
  refine w_body (rs := [.tmp 4]) (tm := [.ptr 0 0, .int .i64 n, .any, .any, .any, .any, .any, .any, .any, .any, .any, .any, .any, .any, .any, .any, .any, .any, .any, .any, .any, .any, .any, .any, .any, .any, .any, .any, .any, .any, .any, .any, .any, .any, .any, .any, .any, .any, .any, .any, .any, .any, .any, .any, .any, .any, .any, .any, .any, .any, .any, .any, .any, .any, .any, .any, .any, .any, .any, .any, .any, .any, .any, .any]) fn_18 rfl rfl rfl rfl fun R hR => ?_
  (have zx1 := @hnw; all_goals (try ((first | (with_reducible refine wp_id ?_) | (with_reducible refine does_id ?_) | (with_reducible refine ops_id ?_)); refine walk ?_; (repeat' (first | exact trivial | with_reducible refine And.intro ?_ ?_)); all_goals (repeat (first | (with_reducible refine ImpB.mk fun hb => ?_) | (with_reducible refine ImpK.mk fun hK => ?_) | (with_reducible refine ImpF.mk fun hF => ?_) | (with_reducible refine ImpQ.mk fun hp => ?_) | (with_reducible refine AllE.mk fun p => ?_) | (with_reducible refine AllR.mk fun rest => ?_) | (with_reducible refine AllK.mk fun K => ?_))))); repeat' (with_reducible refine And.intro ?_ ?_))
  refine Wp.ghost (gh_adopt (s := 5) .ent trivial) ?_
  any_goals ((try (refine w_seq fun K hK => ?_)); (try (refine w_block ?_)); refine w_loop (A := List Ent × List Ent) (fun p => dueO nw o l = p.2 ++ dueO nw o p.1 ∧ dueR nw l = dueR nw p.1 ∧ (∃ d, l = d ++ p.1) ∧ p.2.length + p.1.length ≤ l.length) (fun p => p.1.length) (fun p => [(5, .sl 1 .ent 0 p.2.length)]) (fun p => [(0, .pack (ScO most nw next o p.1)), (1, .rows .ent p.2)]) ((l, [])) (ws := ?ws1) (tk := ?tk1) ?hw1 ?ht1 ?hi ?h0 ?LH1; (case hw1 => simp only [go_sem, decide_true, decide_false, Int.reduceToNat, Nat.min_eq_left, Nat.min_eq_right, Int.reducePow, Nat.reducePow, Int.reduceLE, Int.reduceLT, Int.reduceMul, Int.reduceAdd, Int.reduceSub, Int.reduceNeg, Bool.not_true, Bool.not_false, Bool.not_not, ↓reduceIte, Nat.reduceAdd, Nat.reduceSub, Nat.reduceMul, Nat.reduceEqDiff, reduceCtorEq, Nat.reduceLT, Nat.reduceLeDiff, Nat.reduceGT]; exact rfl); (case ht1 => simp only [go_sem, decide_true, decide_false, Int.reduceToNat, Nat.min_eq_left, Nat.min_eq_right, Int.reducePow, Nat.reducePow, Int.reduceLE, Int.reduceLT, Int.reduceMul, Int.reduceAdd, Int.reduceSub, Int.reduceNeg, Bool.not_true, Bool.not_false, Bool.not_not, ↓reduceIte, Nat.reduceAdd, Nat.reduceSub, Nat.reduceMul, Nat.reduceEqDiff, reduceCtorEq, Nat.reduceLT, Nat.reduceLeDiff, Nat.reduceGT]; exact rfl); (case' LH1 => rintro ⟨r, out⟩ E t hx hE ht; simp only [go_sem] at ht; subst ht; simp only [go_sem]; try dsimp only at hx))
  case LH1 =>
    obtain ⟨e1, e2, ⟨d, hd⟩, hlen⟩ := hx
    cases r with
    | nil =>
      have e3 : dueR nw ([] : List Ent) = [] := rfl
      have e4 : dueO nw o ([] : List Ent) = [] := rfl
      rw [e4, List.append_nil] at e1
      (all_goals (try ((first | (with_reducible refine wp_id ?_) | (with_reducible refine does_id ?_) | (with_reducible refine ops_id ?_)); refine walk ?_; (repeat' (first | exact trivial | with_reducible refine And.intro ?_ ?_)); all_goals (repeat (first | (with_reducible refine ImpB.mk fun hb => ?_) | (with_reducible refine ImpK.mk fun hK => ?_) | (with_reducible refine ImpF.mk fun hF => ?_) | (with_reducible refine ImpQ.mk fun hp => ?_) | (with_reducible refine AllE.mk fun p => ?_) | (with_reducible refine AllR.mk fun rest => ?_) | (with_reducible refine AllK.mk fun K => ?_))))); repeat' (with_reducible refine And.intro ?_ ?_))
      rw [e1, e2, e3]
      (focus (refine ⟨_, _, gh_close (t := 0) (ts := [2]) (l := ScO most nw next o []) ⟨⟨_, _, rfl⟩, ?_, by simp⟩, [0, 1], rfl, ?_⟩; all_goals (refine ⟨?_, ?_, ?_⟩ <;> simp only [go_sem, List.range, List.range.loop, List.nodup_cons, List.nodup_nil, List.mem_cons, List.not_mem_nil, or_false, or_self, decide_true, decide_false, Int.reduceToNat, Nat.min_eq_left, Nat.min_eq_right, Int.reducePow, Nat.reducePow, Int.reduceLE, Int.reduceLT, Int.reduceMul, Int.reduceAdd, Int.reduceSub, Int.reduceNeg, Bool.not_true, Bool.not_false, Bool.not_not, ↓reduceIte, Nat.reduceAdd, Nat.reduceSub, Nat.reduceMul, Nat.reduceEqDiff, reduceCtorEq, Nat.reduceLT, Nat.reduceLeDiff, Nat.reduceGT]); (try any_goals (refine ⟨?_, ?_⟩)); (try any_goals (with_reducible rfl))))
    | cons x t =>
      have hxl : x ∈ l := by rw [hd]; simp
      have hx1 := hs x hxl
      have hx0 : (x :: t).getD 0 Ent.zero = x := rfl
      have hp0 : decide ((0 : Int) < ((t.length + 1 : Nat) : Int)) = true := decide_eq_true (by omega)
      have hx2 := hg x hxl
      by_cases c1 : x.time ≤ nw
      · have d1 : decide (x.time ≤ nw) = true := decide_eq_true c1
        have e3 : dueR nw (x :: t) = dueR nw t := by unfold dueR; rw [List.dropWhile_cons]; simp only [dueW, d1, if_true]
        obtain ⟨k, hk, hkg⟩ : ∃ k : Nat, k < 16 ∧ x.group = (k : Int) := ⟨x.group.toNat, by omega, by omega⟩
        have hgt := fun a b => scC_get (most := most) (now := nw) (next := next) (o := o) (g := a) (n := b) (k := k) hk
        simp only [scC] at hgt
        cases hb : o.getD k false
        · have e4 : dueO nw o (x :: t) = x :: dueO nw o t := by
            unfold dueO; rw [List.takeWhile_cons]; simp only [dueW, d1, if_true, List.filter_cons, hkg, Int.toNat_natCast, hb, Bool.not_false]
          have hxe : ({ x with group := (k : Int) } : Ent) = x := by rw [← hkg]
          (have zx1 := @d1; have zx2 := @hkg; have zx3 := @hgt; have zx4 := @hb; have zx5 := @hx0; have zx6 := @hp0; have zx7 := @Int.toNat_natCast; all_goals (try ((first | (with_reducible refine wp_id ?_) | (with_reducible refine does_id ?_) | (with_reducible refine ops_id ?_)); refine walk ?_; (repeat' (first | exact trivial | with_reducible refine And.intro ?_ ?_)); all_goals (repeat (first | (with_reducible refine ImpB.mk fun hb => ?_) | (with_reducible refine ImpK.mk fun hK => ?_) | (with_reducible refine ImpF.mk fun hF => ?_) | (with_reducible refine ImpQ.mk fun hp => ?_) | (with_reducible refine AllE.mk fun p => ?_) | (with_reducible refine AllR.mk fun rest => ?_) | (with_reducible refine AllK.mk fun K => ?_))))); repeat' (with_reducible refine And.intro ?_ ?_))
          (all_goals first | exact Int.natCast_nonneg _ | exact Int.ofNat_lt.2 (by assumption) | assumption | omega | exact Nat.le_refl _ | (exfalso; simp at hb; done) | (simp only [go_sem, decide_true, decide_false, Int.reduceToNat, Nat.min_eq_left, Nat.min_eq_right, Int.reducePow, Nat.reducePow, Int.reduceLE, Int.reduceLT, Int.reduceMul, Int.reduceAdd, Int.reduceSub, Int.reduceNeg, Bool.not_true, Bool.not_false, Bool.not_not, ↓reduceIte, Nat.reduceAdd, Nat.reduceSub, Nat.reduceMul, Nat.reduceEqDiff, reduceCtorEq, Nat.reduceLT, Nat.reduceLeDiff, Nat.reduceGT]; done) | (unfold capM; omega) | (simp only [List.length_drop, List.length_take, List.length_append, List.length_cons, List.length_nil]; omega) | skip)
          refine ⟨(t, out ++ [{ x with group := (k : Int) }]), ⟨⟨by rw [hxe, e1, e4]; simp, by rw [e2, e3], ⟨d ++ [x], by rw [hd]; simp⟩, by simp only [List.length_append, List.length_cons, List.length_nil] at hlen ⊢; omega⟩, by simp⟩, ?_⟩
          (focus (refine ⟨_, _, gh_close (t := 0) (ts := [2]) (l := ScO most nw next o t) ⟨⟨_, _, rfl⟩, ?_, by simp⟩, [0, 5], rfl, ?_⟩; all_goals (refine ⟨?_, ?_, ?_⟩ <;> simp only [go_sem, List.range, List.range.loop, List.nodup_cons, List.nodup_nil, List.mem_cons, List.not_mem_nil, or_false, or_self, decide_true, decide_false, Int.reduceToNat, Nat.min_eq_left, Nat.min_eq_right, Int.reducePow, Nat.reducePow, Int.reduceLE, Int.reduceLT, Int.reduceMul, Int.reduceAdd, Int.reduceSub, Int.reduceNeg, Bool.not_true, Bool.not_false, Bool.not_not, ↓reduceIte, Nat.reduceAdd, Nat.reduceSub, Nat.reduceMul, Nat.reduceEqDiff, reduceCtorEq, Nat.reduceLT, Nat.reduceLeDiff, Nat.reduceGT]); (try any_goals (refine ⟨?_, ?_⟩)); (try any_goals (with_reducible rfl))))
        · have e4 : dueO nw o (x :: t) = dueO nw o t := by
            unfold dueO; rw [List.takeWhile_cons]; simp only [dueW, d1, if_true, List.filter_cons, hkg, Int.toNat_natCast, hb, Bool.not_true, Bool.false_eq_true, if_false]
          (have zx1 := @d1; have zx2 := @hkg; have zx3 := @hgt; have zx4 := @hb; have zx5 := @hx0; have zx6 := @hp0; have zx7 := @Int.toNat_natCast; all_goals (try ((first | (with_reducible refine wp_id ?_) | (with_reducible refine does_id ?_) | (with_reducible refine ops_id ?_)); refine walk ?_; (repeat' (first | exact trivial | with_reducible refine And.intro ?_ ?_)); all_goals (repeat (first | (with_reducible refine ImpB.mk fun hb => ?_) | (with_reducible refine ImpK.mk fun hK => ?_) | (with_reducible refine ImpF.mk fun hF => ?_) | (with_reducible refine ImpQ.mk fun hp => ?_) | (with_reducible refine AllE.mk fun p => ?_) | (with_reducible refine AllR.mk fun rest => ?_) | (with_reducible refine AllK.mk fun K => ?_))))); repeat' (with_reducible refine And.intro ?_ ?_))
          (all_goals first | exact Int.natCast_nonneg _ | exact Int.ofNat_lt.2 (by assumption) | assumption | omega | exact Nat.le_refl _ | (exfalso; simp at hb; done) | (simp only [go_sem, decide_true, decide_false, Int.reduceToNat, Nat.min_eq_left, Nat.min_eq_right, Int.reducePow, Nat.reducePow, Int.reduceLE, Int.reduceLT, Int.reduceMul, Int.reduceAdd, Int.reduceSub, Int.reduceNeg, Bool.not_true, Bool.not_false, Bool.not_not, ↓reduceIte, Nat.reduceAdd, Nat.reduceSub, Nat.reduceMul, Nat.reduceEqDiff, reduceCtorEq, Nat.reduceLT, Nat.reduceLeDiff, Nat.reduceGT]; done) | (unfold capM; omega) | (simp only [List.length_drop, List.length_take, List.length_append, List.length_cons, List.length_nil]; omega) | skip)
          refine ⟨(t, out), ⟨⟨by rw [e1, e4], by rw [e2, e3], ⟨d ++ [x], by rw [hd]; simp⟩, by simp only [List.length_cons] at hlen ⊢; omega⟩, by simp⟩, ?_⟩
          (focus (refine ⟨_, _, gh_close (t := 0) (ts := [2]) (l := ScO most nw next o t) ⟨⟨_, _, rfl⟩, ?_, by simp⟩, [0, 1], rfl, ?_⟩; all_goals (refine ⟨?_, ?_, ?_⟩ <;> simp only [go_sem, List.range, List.range.loop, List.nodup_cons, List.nodup_nil, List.mem_cons, List.not_mem_nil, or_false, or_self, decide_true, decide_false, Int.reduceToNat, Nat.min_eq_left, Nat.min_eq_right, Int.reducePow, Nat.reducePow, Int.reduceLE, Int.reduceLT, Int.reduceMul, Int.reduceAdd, Int.reduceSub, Int.reduceNeg, Bool.not_true, Bool.not_false, Bool.not_not, ↓reduceIte, Nat.reduceAdd, Nat.reduceSub, Nat.reduceMul, Nat.reduceEqDiff, reduceCtorEq, Nat.reduceLT, Nat.reduceLeDiff, Nat.reduceGT]); (try any_goals (refine ⟨?_, ?_⟩)); (try any_goals (with_reducible rfl))))
      · have d1 : decide (x.time ≤ nw) = false := decide_eq_false c1
        have e3 : dueR nw (x :: t) = x :: t := by unfold dueR; rw [List.dropWhile_cons]; simp only [dueW, d1, Bool.false_eq_true, if_false]
        have e4 : dueO nw o (x :: t) = [] := by unfold dueO; rw [List.takeWhile_cons]; simp only [dueW, d1, Bool.false_eq_true, if_false, List.filter_nil]
        rw [e4, List.append_nil] at e1
        (have zx1 := @d1; have zx2 := @hx0; have zx3 := @hp0; all_goals (try ((first | (with_reducible refine wp_id ?_) | (with_reducible refine does_id ?_) | (with_reducible refine ops_id ?_)); refine walk ?_; (repeat' (first | exact trivial | with_reducible refine And.intro ?_ ?_)); all_goals (repeat (first | (with_reducible refine ImpB.mk fun hb => ?_) | (with_reducible refine ImpK.mk fun hK => ?_) | (with_reducible refine ImpF.mk fun hF => ?_) | (with_reducible refine ImpQ.mk fun hp => ?_) | (with_reducible refine AllE.mk fun p => ?_) | (with_reducible refine AllR.mk fun rest => ?_) | (with_reducible refine AllK.mk fun K => ?_))))); repeat' (with_reducible refine And.intro ?_ ?_))
        (all_goals first | exact Int.natCast_nonneg _ | exact Int.ofNat_lt.2 (by assumption) | assumption | omega | exact Nat.le_refl _ | (exfalso; simp at hb; done) | (simp only [go_sem, decide_true, decide_false, Int.reduceToNat, Nat.min_eq_left, Nat.min_eq_right, Int.reducePow, Nat.reducePow, Int.reduceLE, Int.reduceLT, Int.reduceMul, Int.reduceAdd, Int.reduceSub, Int.reduceNeg, Bool.not_true, Bool.not_false, Bool.not_not, ↓reduceIte, Nat.reduceAdd, Nat.reduceSub, Nat.reduceMul, Nat.reduceEqDiff, reduceCtorEq, Nat.reduceLT, Nat.reduceLeDiff, Nat.reduceGT]; done) | (unfold capM; omega) | (simp only [List.length_drop, List.length_take, List.length_append, List.length_cons, List.length_nil]; omega) | skip)
        rw [e1, e2, e3]
        (focus (refine ⟨_, _, gh_close (t := 0) (ts := [2]) (l := ScO most nw next o (x :: t)) ⟨⟨_, _, rfl⟩, ?_, by simp⟩, [0, 1], rfl, ?_⟩; all_goals (refine ⟨?_, ?_, ?_⟩ <;> simp only [go_sem, List.range, List.range.loop, List.nodup_cons, List.nodup_nil, List.mem_cons, List.not_mem_nil, or_false, or_self, decide_true, decide_false, Int.reduceToNat, Nat.min_eq_left, Nat.min_eq_right, Int.reducePow, Nat.reducePow, Int.reduceLE, Int.reduceLT, Int.reduceMul, Int.reduceAdd, Int.reduceSub, Int.reduceNeg, Bool.not_true, Bool.not_false, Bool.not_not, ↓reduceIte, Nat.reduceAdd, Nat.reduceSub, Nat.reduceMul, Nat.reduceEqDiff, reduceCtorEq, Nat.reduceLT, Nat.reduceLeDiff, Nat.reduceGT]); (try any_goals (refine ⟨?_, ?_⟩)); (try any_goals (with_reducible rfl))))
  · exact ⟨rfl, rfl, ⟨[], rfl⟩, by simp⟩
  · (focus (refine ⟨_, _, Gh.refl, [0, 1], rfl, ?_⟩; (refine ⟨?_, ?_, ?_⟩ <;> simp only [go_sem, List.range, List.range.loop, List.nodup_cons, List.nodup_nil, List.mem_cons, List.not_mem_nil, or_false, or_self, decide_true, decide_false, Int.reduceToNat, Nat.min_eq_left, Nat.min_eq_right, Int.reducePow, Nat.reducePow, Int.reduceLE, Int.reduceLT, Int.reduceMul, Int.reduceAdd, Int.reduceSub, Int.reduceNeg, Bool.not_true, Bool.not_false, Bool.not_not, ↓reduceIte, Nat.reduceAdd, Nat.reduceSub, Nat.reduceMul, Nat.reduceEqDiff, reduceCtorEq, Nat.reduceLT, Nat.reduceLeDiff, Nat.reduceGT]); (try any_goals (refine ⟨?_, ?_⟩)); (try any_goals (with_reducible rfl))))
theorem c_sdue {h : List Ch} {K : KT} {u : Nat} {most now next n : Int} {o : List Bool} {l : List Ent} (H : K (.sl h.length .ent 0 (dueO (passT now n) o l).length) (h.set u (.pack (ScO most (passT now n) next o (dueR (passT now n) l))) ++ [.rows .ent (dueO (passT now n) o l)])) (o1 : hth h u = .pack (ScO most now next o l)) (s1 : l.length ≤ 1000000) (s2 : smallE l) (s3 : grpE l) : Does Try.prog 18 [.ptr u 0, .int .i64 n] h K :=
  frame_obj (ret' := .sl h.length .ent 0 (dueO (passT now n) o l).length) (b_sdue most now next o l n s1 s2 s3) o1 (by simp) (fitC_pack _) (br_cons (br_ptr rfl) (br_cons br_int br_nil)) (.inl rfl) (fun _ => rfl) (fun _ => rfl) (by simp [renA, rhoC]) H
end Go.V

set_option maxRecDepth 100000
set_option maxHeartbeats 8000000
namespace Go.V
open Go.Proofs
abbrev capS (most : Int) : Int := min (max most 0) 256
end Go.V

set_option maxRecDepth 100000
set_option maxHeartbeats 8000000
namespace Go.V
open Go.Proofs
/-- the specification's schedule -/
def RS (most next now : Int) (l : List Ent) (off : List Int) : Ch := .cells [.int .i64 most, .int .i64 next, .int .i64 now, .ro .ent l, .ro .int off]
attribute [go_sem] RS
/-- a disabled group -/
def offG (off : List Int) (g : Int) : Bool := decide (g ∈ off)
def insB (l : List Ent) (x : Ent) : List Ent := l.takeWhile (fun y => befE y x) ++ x :: l.dropWhile (fun y => befE y x)
end Go.V

set_option maxRecDepth 100000
set_option maxHeartbeats 8000000
namespace Go.V
open Go.Proofs
def rinsLst (e : Int) (l : List Ent) (x : Ent) : List Ent := if e = 0 then insB l x else l
end Go.V

set_option maxRecDepth 100000
set_option maxHeartbeats 8000000
namespace Go.V
open Go.Proofs
/-! ### Enable -/
def enaR (off : List Int) (g : Int) (b : Bool) : List Int := if 0 ≤ g ∧ g < 16 then off.filter (fun x => !decide (x = g)) ++ (if b then [] else [g]) else off
end Go.V

set_option maxRecDepth 100000
set_option maxHeartbeats 8000000
namespace Go.V
open Go.Proofs
/-! ### Shift -/
theorem insB_len (l : List Ent) (x : Ent) : (insB l x).length = l.length + 1 := by
  have h := congrArg List.length (List.takeWhile_append_dropWhile (p := fun y => befE y x) (l := l))
  unfold insB
  simp only [List.length_append, List.length_cons] at h ⊢
  omega
end Go.V

set_option maxRecDepth 100000
set_option maxHeartbeats 4000000
namespace Go.V
open Go.Proofs
abbrev sortE (l : List Ent) : Prop := l.Pairwise fun x y => befE y x = false
theorem bef_iff (x y : Ent) : befE x y = true ↔ (x.time < y.time ∨ (x.time = y.time ∧ x.id < y.id)) := by unfold befE; simp
theorem bef_not (x y : Ent) : befE x y = false ↔ ¬ (x.time < y.time ∨ (x.time = y.time ∧ x.id < y.id)) := by unfold befE; simp
theorem insB_perm (l : List Ent) (x : Ent) : (insB l x).Perm (l ++ [x]) := by
  unfold insB
  have h := List.takeWhile_append_dropWhile (p := fun y => befE y x) (l := l)
  refine List.perm_middle.trans ?_
  rw [h]
  exact (List.perm_append_comm (l₁ := [x]) (l₂ := l))
theorem drop_ge {l : List Ent} {x : Ent} (h : sortE l) : ∀ y ∈ l.dropWhile (fun y => befE y x), befE y x = false := by
  induction l with
  | nil => simp
  | cons a l ih =>
    rw [List.dropWhile_cons]
    have h' := List.pairwise_cons.1 h
    cases hb : befE a x
    · simp only [Bool.false_eq_true, if_false]
      intro y hy
      rcases List.mem_cons.1 hy with rfl | hy
      · exact hb
      · have h1 := h'.1 y hy
        rw [bef_not] at h1 hb ⊢
        omega
    · simp only [if_true]
      exact ih h'.2
theorem insB_sort {l : List Ent} {x : Ent} (h : sortE l) : sortE (insB l x) := by
  unfold insB
  have hsp : l.takeWhile (fun y => befE y x) ++ l.dropWhile (fun y => befE y x) = l := List.takeWhile_append_dropWhile
  have h2 := h
  rw [← hsp] at h2
  have h3 := List.pairwise_append.1 h2
  refine List.pairwise_append.2 ⟨h3.1, List.pairwise_cons.2 ⟨fun y hy => drop_ge h y hy, h3.2.1⟩, ?_⟩
  intro a ha b hb
  rcases List.mem_cons.1 hb with rfl | hb
  · have := List.all_takeWhile (p := fun y => befE y b) (l := l)
    have := List.all_eq_true.1 this a ha
    rw [bef_iff] at this
    rw [bef_not]
    omega
  · exact h3.2.2 a ha b hb
theorem insB_srt {l : List Ent} {x : Ent} (h : sortE l) (hn : ((l ++ [x]).map (·.id)).Nodup) : srtE (l ++ [x]) = insB l x :=
  (srt_eq (insB_perm l x) hn (insB_sort h)).symm
theorem insLst_eq {e : Int} {l : List Ent} {x : Ent} (h : sortE l) (hn : ((l ++ [x]).map (·.id)).Nodup) : insLst e l x = rinsLst e l x := by
  unfold insLst rinsLst
  split
  · exact insB_srt h hn
  · rfl
/-! ### Due -/
end Go.V

set_option maxRecDepth 100000
set_option maxHeartbeats 4000000
namespace Go.V
open Go.Proofs
structure S42 where
  now : Int
  next : Int
  o : List Bool
  l : List Ent
  off : List Int
structure J42 (cap : Int) (i : Nat) (s : S42) : Prop where
  srt : sortE s.l
  nd : (s.l.map (·.id)).Nodup
  ids : ∀ x ∈ s.l, 1 ≤ x.id ∧ x.id < s.next
  nx : 1 ≤ s.next ∧ s.next ≤ 2147483649
  val : ∀ x ∈ s.l, entV x = true
  now : 0 ≤ s.now ∧ s.now ≤ 1099511627776
  sm : ∀ x ∈ s.l, x.c.args.length ≤ 40 ∧ x.c.data.length ≤ 1000
  len : (s.l.length : Int) ≤ cap
  cp : 0 ≤ cap ∧ cap ≤ 256
  ol : s.o.length = 16
  oo : ∀ k : Nat, k < 16 → s.o.getD k false = offG s.off k
  fl : s.off.length ≤ i
def insS (cap : Int) (s : S42) (n t g : Int) (c : Cmd) : S42 :=
  let e := insErr cap (passT s.now n) s.next s.l.length t g c
  ⟨passT s.now n, insNext e s.next, s.o, insLst e s.l ⟨s.next, t, g, c⟩, s.off⟩
def delS (s : S42) (n : Int) : S42 := ⟨s.now, s.next, s.o, delL n s.l, s.off⟩
def shS (s : S42) (n g by' : Int) : S42 := ⟨passT s.now n, s.next, s.o, shL (passT s.now n) g by' s.l, s.off⟩
def enaS (s : S42) (g : Int) (b : Bool) : S42 := ⟨s.now, s.next, enaO s.o g b, s.l, enaR s.off g b⟩
def dueS (s : S42) (n : Int) : S42 := ⟨passT s.now n, s.next, s.o, dueR (passT s.now n) s.l, s.off⟩
theorem pass_now {now n : Int} (h : 0 ≤ now ∧ now ≤ 1099511627776) : 0 ≤ passT now n ∧ passT now n ≤ 1099511627776 := by
  unfold passT; split <;> omega
theorem entV_if4 (x : Ent) : entV x = true ↔ ((1 ≤ x.id ∧ x.id ≤ 2147483648) ∧ (0 ≤ x.time ∧ x.time ≤ 1099511627776) ∧ (0 ≤ x.group ∧ x.group < 16) ∧ validC x.c = true) := by
  unfold entV
  simp only [Bool.and_eq_true, decide_eq_true_eq]
  constructor
  · rintro ⟨⟨⟨⟨⟨⟨a, b⟩, c⟩, d⟩, e⟩, f⟩, g⟩; exact ⟨⟨a, b⟩, ⟨c, d⟩, ⟨e, f⟩, g⟩
  · rintro ⟨⟨a, b⟩, ⟨c, d⟩, ⟨e, f⟩, g⟩; exact ⟨⟨⟨⟨⟨⟨a, b⟩, c⟩, d⟩, e⟩, f⟩, g⟩
section
variable {cap : Int} {i : Nat} {s : S42}
theorem J42.time (h : J42 cap i s) : timeE s.l := fun x hx => ((entV_if4 x).1 (h.val x hx)).2.1
theorem J42.mono (h : J42 cap i s) : J42 cap (i + 1) s := { h with fl := by have := h.fl; omega }
theorem J42.newnd (h : J42 cap i s) (t g : Int) (c : Cmd) : ((s.l ++ [(⟨s.next, t, g, c⟩ : Ent)]).map (·.id)).Nodup := by
  rw [List.map_append, List.nodup_append]
  refine ⟨h.nd, by simp, ?_⟩
  intro a ha b hb
  obtain ⟨x, hx, rfl⟩ := List.mem_map.1 ha
  simp only [List.map_cons, List.map_nil, List.mem_singleton] at hb
  subst hb
  have := (h.ids x hx).2
  omega
theorem J42.ins (h : J42 cap i s) (n t g : Int) (c : Cmd) (hc : c.args.length ≤ 40 ∧ c.data.length ≤ 1000) : J42 cap i (insS cap s n t g c) := by
  have hpn := pass_now (n := n) h.now
  by_cases he : insErr cap (passT s.now n) s.next s.l.length t g c = 0
  · have hok : (0 ≤ g ∧ g < 16) ∧ validC c = true ∧ passT s.now n < t ∧ t ≤ 1099511627776 ∧ (s.l.length : Int) < cap ∧ s.next ≤ 2147483648 := by
      unfold insErr at he
      split at he
      · cases he
      · rename_i q1
        split at he
        · cases he
        · rename_i q2
          split at he
          · cases he
          · rename_i q3
            have q4 : validC c = true := by
              cases hv : validC c
              · exact absurd (.inr hv) q1
              · rfl
            have q5 : 0 ≤ g ∧ g < 16 := Decidable.not_not.1 fun w => q1 (.inl w)
            exact ⟨q5, q4, by omega, by omega, by omega, by omega⟩
    have e1 : insS cap s n t g c = ⟨passT s.now n, s.next + 1, s.o, insB s.l ⟨s.next, t, g, c⟩, s.off⟩ := by
      unfold insS
      simp only [he]
      rw [insLst_eq h.srt (h.newnd t g c)]
      rfl
    rw [e1]
    have hm : ∀ x ∈ insB s.l ⟨s.next, t, g, c⟩, x ∈ s.l ∨ x = ⟨s.next, t, g, c⟩ := fun x hx => by
      have := (insB_perm s.l ⟨s.next, t, g, c⟩).mem_iff.1 hx
      simpa using this
    have hnx := h.nx
    exact {
      srt := insB_sort h.srt
      nd := (((insB_perm s.l ⟨s.next, t, g, c⟩).map _).nodup_iff).2 (h.newnd t g c)
      ids := fun x hx => by
        dsimp only
        rcases hm x hx with q | q
        · have := h.ids x q; omega
        · subst q; dsimp only; omega
      nx := by dsimp only; omega
      val := fun x hx => by
        rcases hm x hx with q | q
        · exact h.val x q
        · subst q
          rw [entV_if4]
          dsimp only
          exact ⟨by omega, by omega, hok.1, hok.2.1⟩
      now := hpn
      sm := fun x hx => by
        rcases hm x hx with q | q
        · exact h.sm x q
        · subst q; exact hc
      len := by
        dsimp only
        rw [insB_len]; omega
      cp := h.cp
      ol := h.ol
      oo := h.oo
      fl := h.fl }
  · have hb := ins_bad (l := s.l) (x := ⟨s.next, t, g, c⟩) rfl he
    have e1 : insS cap s n t g c = ⟨passT s.now n, s.next, s.o, s.l, s.off⟩ := by
      unfold insS
      simp only [hb.1, hb.2.2]
    rw [e1]
    exact { h with now := hpn }
theorem J42.del (h : J42 cap i s) (n : Int) : J42 cap i (delS s n) := by
  have hsub : (delL n s.l).Sublist s.l := List.filter_sublist
  exact {
    srt := h.srt.sublist hsub
    nd := h.nd.sublist (hsub.map _)
    ids := fun x hx => h.ids x (hsub.subset hx)
    nx := h.nx
    val := fun x hx => h.val x (hsub.subset hx)
    now := h.now
    sm := fun x hx => h.sm x (hsub.subset hx)
    len := by have := hsub.length_le; have := h.len; show ((delL n s.l).length : Int) ≤ cap; omega
    cp := h.cp
    ol := h.ol
    oo := h.oo
    fl := h.fl }
theorem J42.due (h : J42 cap i s) (n : Int) : J42 cap i (dueS s n) := by
  have hsub : (dueR (passT s.now n) s.l).Sublist s.l := List.dropWhile_sublist _
  exact {
    srt := h.srt.sublist hsub
    nd := h.nd.sublist (hsub.map _)
    ids := fun x hx => h.ids x (hsub.subset hx)
    nx := h.nx
    val := fun x hx => h.val x (hsub.subset hx)
    now := pass_now h.now
    sm := fun x hx => h.sm x (hsub.subset hx)
    len := by have := hsub.length_le; have := h.len; show ((dueR (passT s.now n) s.l).length : Int) ≤ cap; omega
    cp := h.cp
    ol := h.ol
    oo := h.oo
    fl := h.fl }
theorem J42.sh (h : J42 cap i s) (n g by' : Int) : J42 cap i (shS s n g by') := by
  have hpn := pass_now (n := n) h.now
  by_cases he : shE (passT s.now n) g by' s.l = 0
  · have hno : s.l.any (shBad (passT s.now n) g by') = false := by
      unfold shE at he
      split at he
      · cases he
      · split at he
        · cases he
        · rename_i q; simpa using q
    have e1 : shL (passT s.now n) g by' s.l = srtE (s.l.map (shOne g by')) := by unfold shL; rw [if_pos he]
    have hp := srt_perm (s.l.map (shOne g by'))
    have hm : ∀ x ∈ srtE (s.l.map (shOne g by')), ∃ y ∈ s.l, shOne g by' y = x := fun x hx => List.mem_map.1 (hp.mem_iff.1 hx)
    have e2 : shS s n g by' = ⟨passT s.now n, s.next, s.o, srtE (s.l.map (shOne g by')), s.off⟩ := by unfold shS; rw [e1]
    rw [e2]
    exact {
      srt := srt_pw _
      nd := by
        refine ((hp.map _).nodup_iff).2 ?_
        rw [sh_ids]; exact h.nd
      ids := fun x hx => by
        obtain ⟨y, hy, rfl⟩ := hm x hx
        rw [shOne_id]; exact h.ids y hy
      nx := h.nx
      val := fun x hx => by
        obtain ⟨y, hy, rfl⟩ := hm x hx
        have hv := (entV_if4 y).1 (h.val y hy)
        have hb := List.any_eq_false.1 hno y hy
        unfold shOne
        split
        · rename_i q
          simp only [shBad, q, decide_true, Bool.true_and, Bool.or_eq_true, decide_eq_true_eq] at hb
          rw [entV_if4]
          dsimp only
          exact ⟨hv.1, by omega, hv.2.2⟩
        · exact h.val y hy
      now := hpn
      sm := fun x hx => by
        obtain ⟨y, hy, rfl⟩ := hm x hx
        have := h.sm y hy
        unfold shOne; split <;> exact this
      len := by
        have := h.len
        dsimp only
        rw [srt_len, List.length_map]; exact this
      cp := h.cp
      ol := h.ol
      oo := h.oo
      fl := h.fl }
  · have e2 : shS s n g by' = ⟨passT s.now n, s.next, s.o, s.l, s.off⟩ := by unfold shS shL; rw [if_neg he]
    rw [e2]
    exact { h with now := hpn }
theorem J42.ena (h : J42 cap i s) (g : Int) (b : Bool) : J42 cap (i + 1) (enaS s g b) := by
  by_cases hg : 0 ≤ g ∧ g < 16
  · have e1 : enaS s g b = ⟨s.now, s.next, s.o.set g.toNat (!b), s.l, s.off.filter (fun x => !decide (x = g)) ++ (if b then [] else [g])⟩ := by
      unfold enaS enaO enaR; rw [if_pos hg, if_pos hg]
    rw [e1]
    have hol := h.ol
    have hfl := h.fl
    exact { h with
      ol := by dsimp only; rw [List.length_set]; exact hol
      oo := fun k hk => by
        dsimp only
        have hk' := h.oo k hk
        rw [List.getD_eq_getElem?_getD, List.getElem?_set]
        unfold offG at hk' ⊢
        by_cases q : g.toNat = k
        · have q' : g = (k : Int) := by omega
          subst q'
          rw [if_pos q, if_pos (by omega)]
          cases b <;> simp
        · rw [if_neg q, ← List.getD_eq_getElem?_getD, hk']
          have q' : ¬ ((k : Int) = g) := by omega
          rw [decide_eq_decide]
          cases b <;> simp [q']
      fl := by
        have := List.length_filter_le (fun x => !decide (x = g)) s.off
        dsimp only
        rw [List.length_append]
        cases b <;> simp <;> omega }
  · have e1 : enaS s g b = s := by
      unfold enaS enaO enaR; rw [if_neg hg, if_neg hg]
    rw [e1]
    exact h.mono
end
end Go.V

set_option maxRecDepth 100000
set_option maxHeartbeats 8000000
namespace Go.V
open Go.Proofs
def stpS (cap : Int) (s : S42) (x : Stp) : S42 :=
  if x.kind.tmod 5 = 1 then insS cap s x.now x.n x.group x.c else if x.kind.tmod 5 = 2 then shS s x.now x.group x.n else if x.kind.tmod 5 = 3 then enaS s x.group x.on else if x.kind.tmod 5 = 4 then delS s x.n else dueS s x.now
theorem J42.step {cap : Int} {i : Nat} {s : S42} (h : J42 cap i s) (x : Stp) (hc : x.c.args.length ≤ 40 ∧ x.c.data.length ≤ 1000) : J42 cap (i + 1) (stpS cap s x) := by
  unfold stpS
  split
  · exact (h.ins _ _ _ _ hc).mono
  split
  · exact (h.sh _ _ _).mono
  split
  · exact h.ena _ _
  split
  · exact (h.del _).mono
  · exact (h.due _).mono
end Go.V

set_option maxRecDepth 100000
set_option maxHeartbeats 8000000
namespace Go.V
open Go.Proofs
abbrev pg : Cmd := ⟨1, 9, 1, [], []⟩
abbrev e1L : Ent := ⟨1, 10, 0, pg⟩
abbrev e2L : Ent := ⟨2, 5, 1, pg⟩
theorem liv1 : insErr 3 0 1 0 10 0 pg = 0 := by decide +kernel
theorem liv2 : srtE ([] ++ [e1L]) = [e1L] := (srt_eq (List.Perm.refl _) (by decide) (by simp)).symm
theorem liv3 : insErr 3 0 2 1 5 1 pg = 0 := by decide +kernel
theorem liv4 : srtE ([e1L] ++ [e2L]) = [e2L, e1L] := (srt_eq (List.Perm.swap _ _ _) (by decide) (by simp [befE])).symm
theorem liv5 : insErr 3 3 3 2 3 0 pg = 10 := by decide +kernel
theorem liv6 : shE 3 0 (-10) [e2L, e1L] = 10 := by decide +kernel
theorem liv7 : dueO 4 off0 [e2L, e1L] = [] ∧ dueR 4 [e2L, e1L] = [e2L, e1L] := by decide +kernel
theorem liv8 : dueO 7 off0 [e2L, e1L] = [e2L] ∧ dueR 7 [e2L, e1L] = [e1L] := by decide +kernel
theorem liv9 : dueO 10 off0 [e1L] = [e1L] ∧ dueR 10 [e1L] = [] := by decide +kernel
theorem liv10 : encE [⟨1, 10, 0, pg⟩] = [2, 2, 20, 0, 8, 1, 0, 9, 1] := by decide +kernel
theorem liv11 : chkE [⟨1, 10, 0, pg⟩] 256 = 0 := by decide +kernel
theorem c_sinsN {h : List Ch} {K : KT} {u k : Nat} {most now next nw : Int} {off : List Bool} {l m : List Ent} {n t g x y z : Int} (H : K (.tup [.int .i64 next, .int .i64 0]) (h.set u (.pack (ScO most nw (next + 1) off m)))) (o : hth h u = .pack [.cells (scC most now next off 1 k), .rows .ent l]) (e1 : passT now n = nw) (e2 : insErr most nw next k t g ⟨x, y, z, [], []⟩ = 0) (e3 : srtE (l ++ [⟨next, t, g, ⟨x, y, z, [], []⟩⟩]) = m) (s0 : k = l.length) (s1 : l.length ≤ 1000000) (s2 : ((l ++ [(⟨next, t, g, ⟨x, y, z, [], []⟩⟩ : Ent)]).map (·.id)).Nodup) (s3 : 0 ≤ next ∧ next ≤ 9223372036854775806) : Does Try.prog 17 [.ptr u 0, .int .i64 n, .int .i64 t, .int .i64 g, .agg [.int .i64 x, .int .i64 y, .int .i64 z, .lit (.slice none 0 0), .lit (.slice none 0 0)]] h K := by
  subst s0 e1 e3
  refine c_sins0 (l := l) ?_ o s1 s2 s3
  rw [e2]
  exact H
abbrev i_sinsN := Ctr.mk (i := 2) (g := 17) @c_sinsN
attribute [instance] i_sinsN
theorem c_sinsE {h : List Ch} {K : KT} {u k : Nat} {most now next nw er : Int} {off : List Bool} {l : List Ent} {n t g x y z : Int} (H : K (.tup [.int .i64 0, .int .i64 er]) (h.set u (.pack (ScO most nw next off l)))) (o : hth h u = .pack [.cells (scC most now next off 1 k), .rows .ent l]) (e1 : passT now n = nw) (e2 : insErr most nw next k t g ⟨x, y, z, [], []⟩ = er) (s0 : k = l.length) (s1 : l.length ≤ 1000000) (s2 : ((l ++ [(⟨next, t, g, ⟨x, y, z, [], []⟩⟩ : Ent)]).map (·.id)).Nodup) (s3 : 0 ≤ next ∧ next ≤ 9223372036854775806) (s4 : er ≠ 0) : Does Try.prog 17 [.ptr u 0, .int .i64 n, .int .i64 t, .int .i64 g, .agg [.int .i64 x, .int .i64 y, .int .i64 z, .lit (.slice none 0 0), .lit (.slice none 0 0)]] h K := by
  subst s0 e1
  refine c_sins0 (l := l) ?_ o s1 s2 s3
  have hb := ins_bad (l := l) (x := ⟨next, t, g, ⟨x, y, z, [], []⟩⟩) e2 s4
  rw [e2, hb.1, hb.2.1, hb.2.2]
  exact H
abbrev i_sinsE := Ctr.mk (i := 3) (g := 17) @c_sinsE
attribute [instance] i_sinsE
theorem c_sentsN {h : List Ch} {K : KT} {u k : Nat} {most now next : Int} {off : List Bool} {l : List Ent} (H : K (.sl h.length .ent 0 l.length) (h ++ [.rows .ent l])) (o : hth h u = .pack [.cells (scC most now next off 1 k), .rows .ent l]) (s0 : k = l.length) (s1 : l.length ≤ 1000000) (s2 : smallE l) : Does Try.prog 16 [.ptr u 0] h K := by
  subst s0
  exact c_sents H o s1 s2
abbrev i_sentsN := Ctr.mk (i := 1) (g := 16) @c_sentsN
attribute [instance] i_sentsN
theorem c_sshiftN {h : List Ch} {K : KT} {u k : Nat} {most now next n g by' nw er : Int} {off : List Bool} {l : List Ent} (H : K (.int .i64 er) (h.set u (.pack (ScO most nw next off l)))) (o : hth h u = .pack [.cells (scC most now next off 1 k), .rows .ent l]) (e1 : passT now n = nw) (e2 : shE nw g by' l = er) (s0 : k = l.length) (s1 : l.length ≤ 1000000) (s2 : (l.map (·.id)).Nodup) (s3 : timeE l) (s4 : 0 ≤ now ∧ now ≤ 1099511627776) (s5 : er ≠ 0) : Does Try.prog 20 [.ptr u 0, .int .i64 n, .int .i64 g, .int .i64 by'] h K := by
  subst s0 e1
  refine c_sshift (l := l) ?_ o s1 s2 s3 s4
  have hb : shL (passT now n) g by' l = l := by unfold shL; rw [e2, if_neg s5]
  rw [e2, hb]
  exact H
abbrev i_sshiftN := Ctr.mk (i := 1) (g := 20) @c_sshiftN
attribute [instance] i_sshiftN
theorem c_sdueN {h : List Ch} {K : KT} {u k : Nat} {most now next n nw : Int} {off : List Bool} {l a b : List Ent} (H : K (.sl h.length .ent 0 a.length) (h.set u (.pack (ScO most nw next off b)) ++ [.rows .ent a])) (o : hth h u = .pack [.cells (scC most now next off 1 k), .rows .ent l]) (e1 : passT now n = nw) (e2 : dueO nw off l = a) (e3 : dueR nw l = b) (s0 : k = l.length) (s1 : l.length ≤ 1000000) (s2 : smallE l) (s3 : grpE l) : Does Try.prog 18 [.ptr u 0, .int .i64 n] h K := by
  subst s0 e1 e2 e3
  exact c_sdue H o s1 s2 s3
abbrev i_sdueN := Ctr.mk (i := 1) (g := 18) @c_sdueN
attribute [instance] i_sdueN
theorem c_senaN {h : List Ch} {K : KT} {u k : Nat} {most now next g : Int} {off : List Bool} {b : Bool} {l : List Ent} (H : K (.int .i64 1) (h.set u (.pack (ScO most now next off l)))) (o : hth h u = .pack [.cells (scC most now next off 1 k), .rows .ent l]) (s0 : k = l.length) (s1 : off.length = 16) (s2 : 16 ≤ g) : Does Try.prog 21 [.ptr u 0, .int .i64 g, .bool b] h K := by
  subst s0
  refine c_sena (l := l) ?_ o s1
  have h1 : enaE g = 1 := if_neg (by omega)
  have h2 : enaO off g b = off := if_neg (by omega)
  rw [h1, h2]
  exact H
abbrev i_senaN := Ctr.mk (i := 1) (g := 21) @c_senaN
attribute [instance] i_senaN
theorem c_sdelN {h : List Ch} {K : KT} {u k : Nat} {most now next n : Int} {off : List Bool} {l : List Ent} (H : K (.int .i64 8) (h.set u (.pack (ScO most now next off l)))) (o : hth h u = .pack [.cells (scC most now next off 1 k), .rows .ent l]) (e1 : l = []) (s0 : k = l.length) : Does Try.prog 19 [.ptr u 0, .int .i64 n] h K := by
  subst s0 e1
  exact c_sdelete (l := []) H o (by simp) (by simp)
abbrev i_sdelN := Ctr.mk (i := 1) (g := 19) @c_sdelN
attribute [instance] i_sdelN
theorem b_lives : DoesK Try.prog 0 12 [] [] (EndF 0 (.bool true) []) := by
  refine DoesK.close ?_
  have hcap : min (max (3 : Int) 0) 256 = 3 := by decide
  have p1 : passT 0 0 = 0 := by decide
  have p3 : passT 0 3 = 3 := by decide
  have p4 : passT 3 0 = 3 := by decide
  have p5 : passT 3 4 = 4 := by decide
  have p6 : passT 4 7 = 7 := by decide
  have p7 : passT 7 10 = 10 := by decide
  have l1 := liv1
  have l2 := liv2
  have l3 := liv3
  have l4 := liv4
  have l5 := liv5
  have l6 := liv6
  have l71 := liv7.1
  have l72 := liv7.2
  have l81 := liv8.1
  have l82 := liv8.2
  have l91 := liv9.1
  have l92 := liv9.2
  have l10 := liv10
  have l11 := liv11
  refine w_body (rs := [.tmp 0]) (tm := [.any, .any, .any, .any, .any, .any, .any, .any, .any, .any, .any, .any, .any, .any, .any, .any, .any, .any, .any, .any, .any, .any, .any, .any, .any, .any, .any, .any, .any, .any, .any, .any, .any, .any, .any, .any, .any, .any, .any, .any, .any, .any, .any, .any, .any, .any, .any, .any, .any, .any, .any, .any, .any, .any, .any, .any, .any, .any, .any, .any, .any, .any, .any, .any, .any, .any, .any, .any, .any, .any, .any, .any, .any, .any, .any, .any, .any, .any, .any, .any, .any, .any, .any, .any, .any, .any, .any, .any, .any, .any, .any, .any, .any, .any, .any, .any, .any, .any, .any, .any, .any, .any, .any, .any, .any, .any, .any, .any, .any, .any, .any, .any, .any, .any, .any, .any, .any, .any, .any, .any, .any, .any, .any, .any, .any, .any, .any, .any, .any, .any, .any, .any, .any, .any, .any, .any, .any]) fn_12 rfl rfl rfl rfl fun R hR => ?_
  (have zx1 := @hcap; all_goals (try ((first | (with_reducible refine wp_id ?_) | (with_reducible refine does_id ?_) | (with_reducible refine ops_id ?_)); refine walk ?_; (repeat' (first | exact trivial | with_reducible refine And.intro ?_ ?_)); all_goals (repeat (first | (with_reducible refine ImpB.mk fun hb => ?_) | (with_reducible refine ImpK.mk fun hK => ?_) | (with_reducible refine ImpF.mk fun hF => ?_) | (with_reducible refine ImpQ.mk fun hp => ?_) | (with_reducible refine AllE.mk fun p => ?_) | (with_reducible refine AllR.mk fun rest => ?_) | (with_reducible refine AllK.mk fun K => ?_))))); repeat' (with_reducible refine And.intro ?_ ?_))
  all_goals first | rfl | decide | (simp only [List.append]) | skip
  have v0 : decide (((2 : Nat) : Int) = 2) = true := rfl
  have v1 : decide (([e2L, e1L].getD 0 Ent.zero).id = 2) = true := rfl
  have v2 : decide (([e2L].getD 0 Ent.zero).id = 2) = true := rfl
  have v3 : decide (([e1L].getD 0 Ent.zero).id = 1) = true := rfl
  (have zx1 := @hcap; have zx2 := @l10; have zx3 := @v0; have zx4 := @v1; have zx5 := @v2; have zx6 := @v3; all_goals (try ((first | (with_reducible refine wp_id ?_) | (with_reducible refine does_id ?_) | (with_reducible refine ops_id ?_)); refine walk ?_; (repeat' (first | exact trivial | with_reducible refine And.intro ?_ ?_)); all_goals (repeat (first | (with_reducible refine ImpB.mk fun hb => ?_) | (with_reducible refine ImpK.mk fun hK => ?_) | (with_reducible refine ImpF.mk fun hF => ?_) | (with_reducible refine ImpQ.mk fun hp => ?_) | (with_reducible refine AllE.mk fun p => ?_) | (with_reducible refine AllR.mk fun rest => ?_) | (with_reducible refine AllK.mk fun K => ?_))))); repeat' (with_reducible refine And.intro ?_ ?_))
  all_goals first | rfl | decide | (intro x hx; simp only [List.mem_cons, List.not_mem_nil, or_false] at hx; rcases hx with rfl | rfl <;> decide) | (intro x hx; simp only [List.mem_cons, List.not_mem_nil, or_false] at hx; subst hx; decide) | skip
  (focus (refine ⟨_, _, Gh.refl, [], rfl, ?_⟩; (refine ⟨?_, ?_, ?_⟩ <;> simp only [go_sem, List.range, List.range.loop, List.nodup_cons, List.nodup_nil, List.mem_cons, List.not_mem_nil, or_false, or_self, decide_true, decide_false, Int.reduceToNat, Nat.min_eq_left, Nat.min_eq_right, Int.reducePow, Nat.reducePow, Int.reduceLE, Int.reduceLT, Int.reduceMul, Int.reduceAdd, Int.reduceSub, Int.reduceNeg, Bool.not_true, Bool.not_false, Bool.not_not, ↓reduceIte, Nat.reduceAdd, Nat.reduceSub, Nat.reduceMul, Nat.reduceEqDiff, reduceCtorEq, Nat.reduceLT, Nat.reduceLeDiff, Nat.reduceGT]); (try any_goals (refine ⟨?_, ?_⟩)); (try any_goals (with_reducible rfl))))
theorem c_lives {h : List Ch} {K : KT} (H : K (.bool true) h) : Does Try.prog 12 [] h K :=
  frame_pure b_lives br_nil (.inl rfl) (fun _ => rfl) H
abbrev i_lives := Ctr.mk (i := 0) (g := 12) @c_lives
attribute [instance] i_lives
end Go.V

set_option maxRecDepth 100000
set_option maxHeartbeats 8000000
namespace Go.V
open Go.Proofs
def s0S : S42 := ⟨0, 1, off0, [], []⟩
theorem J42.zero (most : Int) : J42 (capS most) 0 s0S where
  srt := List.Pairwise.nil
  nd := by simp [s0S]
  ids := by simp [s0S]
  nx := by simp [s0S]
  val := by simp [s0S]
  now := by simp [s0S]
  sm := by simp [s0S]
  len := by show ((0 : Nat) : Int) ≤ min (max most 0) 256; omega
  cp := by show 0 ≤ min (max most 0) 256 ∧ min (max most 0) 256 ≤ 256; omega
  ol := rfl
  oo := fun k hk => by
    have : ∀ k : Nat, off0.getD k false = false := fun k => by
      unfold off0
      rw [List.getD_eq_getElem?_getD, List.getElem?_replicate]
      split <;> rfl
    show off0.getD k false = offG [] k
    rw [this]; simp [offG]
  fl := by simp [s0S]
end Go.V
