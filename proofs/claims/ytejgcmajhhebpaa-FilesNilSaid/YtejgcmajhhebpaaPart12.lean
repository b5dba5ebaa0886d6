/-
  The reference store: Names, Texts, Delete.
  The reference store: Put.
  files: Put of a slice that is the caller's own; alive.
-/
import Derived.Test.YtejgcmajhhebpaaPart11
set_option linter.unusedVariables false
set_option linter.unusedSimpArgs false
set_option maxRecDepth 100000
set_option maxHeartbeats 1000000
namespace Go.V
open Go.Proofs
def namF (l : List File) : List Str := l.map (·.name)
theorem b_rnames (m r : Int) (l : List File) (hl : l.length ≤ 1099511627776) : DoesK Try.prog 0 23 [RS m r l] [] (EndF 0 (.ro .str (namF l)) []) := by
  refine DoesK.close ?_
  have hnl : (namF l).length = l.length := List.length_map _
  refine w_body (rs := [.tmp 2]) (tm := [RS m r l, .any, .any, .any, .any, .any, .any, .any, .any, .any, .any, .any, .any, .any, .any, .any, .any, .any, .any, .any, .any, .any]) fn_23 rfl rfl rfl rfl fun R hR => ?_
  (all_goals (try ((first | (with_reducible refine wp_id ?_) | (with_reducible refine does_id ?_)); refine walk ?_; (repeat' (first | exact trivial | with_reducible refine And.intro ?_ ?_)); all_goals (repeat (first | (with_reducible refine ImpB.mk fun hb => ?_) | (with_reducible refine ImpK.mk fun hK => ?_) | (with_reducible refine ImpF.mk fun hF => ?_) | (with_reducible refine ImpQ.mk fun hp => ?_) | (with_reducible refine AllE.mk fun p => ?_) | (with_reducible refine AllR.mk fun rest => ?_) | (with_reducible refine AllK.mk fun K => ?_))))); repeat' (with_reducible refine And.intro ?_ ?_))
  refine Wp.ghost (gh_adopt (s := 3) .str trivial) ?_
  simp only [go_sem, Int.reduceToNat, Nat.min_eq_left, Nat.min_eq_right, Int.reducePow, Nat.reducePow, Int.reduceLE, Int.reduceLT, Int.reduceMul, Int.reduceAdd, Int.reduceSub, Int.reduceNeg, Bool.not_true, Bool.not_false, Bool.not_not, ↓reduceIte, Nat.reduceAdd, Nat.reduceSub, Nat.reduceMul, Nat.reduceEqDiff, reduceCtorEq, Nat.reduceLT, Nat.reduceLeDiff, Nat.reduceGT]
  any_goals (refine w_loop (A := Nat) (fun k => k ≤ l.length) (fun k => l.length - k) (fun k => [(3, .sl 1 .str 0 k), (4, .int .i64 k)]) (fun k => [(1, .rows .str (namF (l.take k)))]) (0) (ws := ?ws1) (tk := ?tk1) ?hw1 ?ht1 ?hi ?h0 ?LH1; (case hw1 => simp only [go_sem, Int.reduceToNat, Nat.min_eq_left, Nat.min_eq_right, Int.reducePow, Nat.reducePow, Int.reduceLE, Int.reduceLT, Int.reduceMul, Int.reduceAdd, Int.reduceSub, Int.reduceNeg, Bool.not_true, Bool.not_false, Bool.not_not, ↓reduceIte, Nat.reduceAdd, Nat.reduceSub, Nat.reduceMul, Nat.reduceEqDiff, reduceCtorEq, Nat.reduceLT, Nat.reduceLeDiff, Nat.reduceGT]; exact rfl); (case ht1 => simp only [go_sem, Int.reduceToNat, Nat.min_eq_left, Nat.min_eq_right, Int.reducePow, Nat.reducePow, Int.reduceLE, Int.reduceLT, Int.reduceMul, Int.reduceAdd, Int.reduceSub, Int.reduceNeg, Bool.not_true, Bool.not_false, Bool.not_not, ↓reduceIte, Nat.reduceAdd, Nat.reduceSub, Nat.reduceMul, Nat.reduceEqDiff, reduceCtorEq, Nat.reduceLT, Nat.reduceLeDiff, Nat.reduceGT]; exact rfl); (case' LH1 => rintro k E t hx hE ht; simp only [go_sem] at ht; subst ht; simp only [go_sem]; try dsimp only at hx))
  case hi => exact Nat.zero_le _
  case h0 =>
    (focus (refine ⟨_, _, Gh.refl, [0, 1], rfl, ?_⟩; (refine ⟨?_, ?_, ?_⟩ <;> simp only [go_sem, List.range, List.range.loop, List.nodup_cons, List.nodup_nil, List.mem_cons, List.not_mem_nil, or_false, or_self, Int.reduceToNat, Nat.min_eq_left, Nat.min_eq_right, Int.reducePow, Nat.reducePow, Int.reduceLE, Int.reduceLT, Int.reduceMul, Int.reduceAdd, Int.reduceSub, Int.reduceNeg, Bool.not_true, Bool.not_false, Bool.not_not, ↓reduceIte, Nat.reduceAdd, Nat.reduceSub, Nat.reduceMul, Nat.reduceEqDiff, reduceCtorEq, Nat.reduceLT, Nat.reduceLeDiff, Nat.reduceGT]); (try any_goals (refine ⟨?_, ?_⟩)); (try any_goals (with_reducible rfl))))
    all_goals rfl
  case LH1 =>
    have hw : IntKind.i64.wrap ((k : Int) + 1) = ((k + 1 : Nat) : Int) := by rw [wrap_i64 _ (by omega) (by omega)]; omega
    have hml : (namF (l.take k)).length = k := by unfold namF; rw [List.length_map, List.length_take]; omega
    by_cases hk : k < l.length
    · have hkd : decide ((k : Int) < l.length) = true := decide_eq_true (by omega)
      have e1 : namF (l.take (k + 1)) = namF (l.take k) ++ [(fAt l k).name] := by
        rw [List.take_succ_eq_append_getElem hk]
        unfold namF
        rw [List.map_append]
        simp [List.getD_eq_getElem?_getD, List.getElem?_eq_getElem hk]
      (have zx1 := @hkd; all_goals (try ((first | (with_reducible refine wp_id ?_) | (with_reducible refine does_id ?_)); refine walk ?_; (repeat' (first | exact trivial | with_reducible refine And.intro ?_ ?_)); all_goals (repeat (first | (with_reducible refine ImpB.mk fun hb => ?_) | (with_reducible refine ImpK.mk fun hK => ?_) | (with_reducible refine ImpF.mk fun hF => ?_) | (with_reducible refine ImpQ.mk fun hp => ?_) | (with_reducible refine AllE.mk fun p => ?_) | (with_reducible refine AllR.mk fun rest => ?_) | (with_reducible refine AllK.mk fun K => ?_))))); repeat' (with_reducible refine And.intro ?_ ?_))
      all_goals first | exact Int.natCast_nonneg _ | exact Int.ofNat_lt.2 hk | omega | skip
      refine ⟨k + 1, ⟨by first | omega | (dsimp only; omega), by first | omega | (dsimp only; omega)⟩, ?m1⟩
      (focus (refine ⟨_, _, Gh.refl, [0, 3], rfl, ?_⟩; (refine ⟨?_, ?_, ?_⟩ <;> simp only [go_sem, List.range, List.range.loop, List.nodup_cons, List.nodup_nil, List.mem_cons, List.not_mem_nil, or_false, or_self, Int.reduceToNat, Nat.min_eq_left, Nat.min_eq_right, Int.reducePow, Nat.reducePow, Int.reduceLE, Int.reduceLT, Int.reduceMul, Int.reduceAdd, Int.reduceSub, Int.reduceNeg, Bool.not_true, Bool.not_false, Bool.not_not, ↓reduceIte, Nat.reduceAdd, Nat.reduceSub, Nat.reduceMul, Nat.reduceEqDiff, reduceCtorEq, Nat.reduceLT, Nat.reduceLeDiff, Nat.reduceGT]); (try any_goals (refine ⟨?_, ?_⟩)); (try any_goals (with_reducible rfl))))
      all_goals first | exact hml.symm | exact hw.symm | exact e1 | omega
    · have hkd : decide ((k : Int) < l.length) = false := decide_eq_false (by omega)
      rw [List.take_of_length_le (by omega)]
      have hS : ((namF l).drop 0).take k = namF l := by
        rw [List.drop_zero, List.take_of_length_le (by omega)]
      (have zx1 := @hkd; all_goals (try ((first | (with_reducible refine wp_id ?_) | (with_reducible refine does_id ?_)); refine walk ?_; (repeat' (first | exact trivial | with_reducible refine And.intro ?_ ?_)); all_goals (repeat (first | (with_reducible refine ImpB.mk fun hb => ?_) | (with_reducible refine ImpK.mk fun hK => ?_) | (with_reducible refine ImpF.mk fun hF => ?_) | (with_reducible refine ImpQ.mk fun hp => ?_) | (with_reducible refine AllE.mk fun p => ?_) | (with_reducible refine AllR.mk fun rest => ?_) | (with_reducible refine AllK.mk fun K => ?_))))); repeat' (with_reducible refine And.intro ?_ ?_))
      refine ⟨_, _, gh_frz (t := 1) (e := .str) (xs := namF l) rfl ?f1 ?f2, [], rfl, ?ft⟩
      case' ft => (refine ⟨?_, ?_, ?_⟩ <;> simp only [go_sem, List.range, List.range.loop, List.nodup_cons, List.nodup_nil, List.mem_cons, List.not_mem_nil, or_false, or_self, Int.reduceToNat, Nat.min_eq_left, Nat.min_eq_right, Int.reducePow, Nat.reducePow, Int.reduceLE, Int.reduceLT, Int.reduceMul, Int.reduceAdd, Int.reduceSub, Int.reduceNeg, Bool.not_true, Bool.not_false, Bool.not_not, ↓reduceIte, Nat.reduceAdd, Nat.reduceSub, Nat.reduceMul, Nat.reduceEqDiff, reduceCtorEq, Nat.reduceLT, Nat.reduceLeDiff, Nat.reduceGT])
      case' f1 => simp only [go_sem, Int.reduceToNat, Nat.min_eq_left, Nat.min_eq_right, Int.reducePow, Nat.reducePow, Int.reduceLE, Int.reduceLT, Int.reduceMul, Int.reduceAdd, Int.reduceSub, Int.reduceNeg, Bool.not_true, Bool.not_false, Bool.not_not, ↓reduceIte, Nat.reduceAdd, Nat.reduceSub, Nat.reduceMul, Nat.reduceEqDiff, reduceCtorEq, Nat.reduceLT, Nat.reduceLeDiff, Nat.reduceGT]
      case' f2 => simp only [go_sem, Int.reduceToNat, Nat.min_eq_left, Nat.min_eq_right, Int.reducePow, Nat.reducePow, Int.reduceLE, Int.reduceLT, Int.reduceMul, Int.reduceAdd, Int.reduceSub, Int.reduceNeg, Bool.not_true, Bool.not_false, Bool.not_not, ↓reduceIte, Nat.reduceAdd, Nat.reduceSub, Nat.reduceMul, Nat.reduceEqDiff, reduceCtorEq, Nat.reduceLT, Nat.reduceLeDiff, Nat.reduceGT]
      case f1 => omega
      case ft => exact hS.symm
theorem c_rnames {h : List Ch} {K : KT} {m r : Int} {l : List File} (H : K (.ro .str (namF l)) h) (s1 : l.length ≤ 1099511627776) : Does Try.prog 23 [.agg [.int .i64 m, .int .i64 r, .ro .file l]] h K :=
  frame_pure (b_rnames m r l s1) (br_cons (br_agg (br_cons br_int (br_cons br_int (br_cons br_ro br_nil)))) br_nil) (.inl rfl) (fun _ => rfl) H
abbrev i_rnames := Ctr.mk (i := 0) (g := 23) @c_rnames
attribute [instance] i_rnames
theorem b_texts (a b : List Str) (ha : a.length ≤ 1099511627776) (hb : b.length ≤ 1099511627776) : DoesK Try.prog 0 22 [.ro .str a, .ro .str b] [] (EndF 0 (.bool (decide (a = b))) []) := by
  refine DoesK.close ?_
  by_cases hn : a.length = b.length
  · have hnd : decide (¬ (a.length : Int) = b.length) = false := decide_eq_false (by omega)
    refine w_body (rs := [.tmp 4]) (tm := [.ro .str a, .ro .str b, .any, .any, .any, .any, .any, .any, .any, .any, .any, .any, .any, .any, .any, .any, .any, .any, .any, .any, .any, .any, .any, .any, .any, .any]) fn_22 rfl rfl rfl rfl fun R hR => ?_
    (have zx1 := @hnd; all_goals (try ((first | (with_reducible refine wp_id ?_) | (with_reducible refine does_id ?_)); refine walk ?_; (repeat' (first | exact trivial | with_reducible refine And.intro ?_ ?_)); all_goals (repeat (first | (with_reducible refine ImpB.mk fun hb => ?_) | (with_reducible refine ImpK.mk fun hK => ?_) | (with_reducible refine ImpF.mk fun hF => ?_) | (with_reducible refine ImpQ.mk fun hp => ?_) | (with_reducible refine AllE.mk fun p => ?_) | (with_reducible refine AllR.mk fun rest => ?_) | (with_reducible refine AllK.mk fun K => ?_))))); repeat' (with_reducible refine And.intro ?_ ?_))
    any_goals (refine w_loop (A := Nat) (fun k => k ≤ a.length ∧ ∀ j, j < k → a.getD j [] = b.getD j []) (fun k => a.length - k) (fun k => [(5, .int .i64 k)]) (fun _ => []) (0) (ws := ?ws2) (tk := ?tk2) ?hw2 ?ht2 ?hi ?h0 ?LH2; (case hw2 => simp only [go_sem, Int.reduceToNat, Nat.min_eq_left, Nat.min_eq_right, Int.reducePow, Nat.reducePow, Int.reduceLE, Int.reduceLT, Int.reduceMul, Int.reduceAdd, Int.reduceSub, Int.reduceNeg, Bool.not_true, Bool.not_false, Bool.not_not, ↓reduceIte, Nat.reduceAdd, Nat.reduceSub, Nat.reduceMul, Nat.reduceEqDiff, reduceCtorEq, Nat.reduceLT, Nat.reduceLeDiff, Nat.reduceGT]; exact rfl); (case ht2 => simp only [go_sem, Int.reduceToNat, Nat.min_eq_left, Nat.min_eq_right, Int.reducePow, Nat.reducePow, Int.reduceLE, Int.reduceLT, Int.reduceMul, Int.reduceAdd, Int.reduceSub, Int.reduceNeg, Bool.not_true, Bool.not_false, Bool.not_not, ↓reduceIte, Nat.reduceAdd, Nat.reduceSub, Nat.reduceMul, Nat.reduceEqDiff, reduceCtorEq, Nat.reduceLT, Nat.reduceLeDiff, Nat.reduceGT]; exact rfl); (case' LH2 => rintro k E t hx hE ht; simp only [go_sem] at ht; subst ht; simp only [go_sem]; try dsimp only at hx))
    case hi => exact ⟨Nat.zero_le _, fun j hj => absurd hj (by omega)⟩
    case h0 => (focus (refine ⟨_, _, Gh.refl, [], rfl, ?_⟩; (refine ⟨?_, ?_, ?_⟩ <;> simp only [go_sem, List.range, List.range.loop, List.nodup_cons, List.nodup_nil, List.mem_cons, List.not_mem_nil, or_false, or_self, Int.reduceToNat, Nat.min_eq_left, Nat.min_eq_right, Int.reducePow, Nat.reducePow, Int.reduceLE, Int.reduceLT, Int.reduceMul, Int.reduceAdd, Int.reduceSub, Int.reduceNeg, Bool.not_true, Bool.not_false, Bool.not_not, ↓reduceIte, Nat.reduceAdd, Nat.reduceSub, Nat.reduceMul, Nat.reduceEqDiff, reduceCtorEq, Nat.reduceLT, Nat.reduceLeDiff, Nat.reduceGT]); (try any_goals (refine ⟨?_, ?_⟩)); (try any_goals (with_reducible rfl))))
    case LH2 =>
      have hw : IntKind.i64.wrap ((k : Int) + 1) = ((k + 1 : Nat) : Int) := by rw [wrap_i64 _ (by omega) (by omega)]; omega
      by_cases hk : k < a.length
      · have hkd : decide ((k : Int) < a.length) = true := decide_eq_true (by omega)
        (have zx1 := @hkd; all_goals (try ((first | (with_reducible refine wp_id ?_) | (with_reducible refine does_id ?_)); refine walk ?_; (repeat' (first | exact trivial | with_reducible refine And.intro ?_ ?_)); all_goals (repeat (first | (with_reducible refine ImpB.mk fun hb => ?_) | (with_reducible refine ImpK.mk fun hK => ?_) | (with_reducible refine ImpF.mk fun hF => ?_) | (with_reducible refine ImpQ.mk fun hp => ?_) | (with_reducible refine AllE.mk fun p => ?_) | (with_reducible refine AllR.mk fun rest => ?_) | (with_reducible refine AllK.mk fun K => ?_))))); repeat' (with_reducible refine And.intro ?_ ?_))
        all_goals first | exact Int.natCast_nonneg _ | exact Int.ofNat_lt.2 hk | exact Int.ofNat_lt.2 (hn ▸ hk) | skip
        · simp only [decide_eq_true_eq] at hb
          rw [decide_eq_false (fun e => hb (by rw [e]))]
          (focus (refine ⟨_, _, Gh.refl, [], rfl, ?_⟩; (refine ⟨?_, ?_, ?_⟩ <;> simp only [go_sem, List.range, List.range.loop, List.nodup_cons, List.nodup_nil, List.mem_cons, List.not_mem_nil, or_false, or_self, Int.reduceToNat, Nat.min_eq_left, Nat.min_eq_right, Int.reducePow, Nat.reducePow, Int.reduceLE, Int.reduceLT, Int.reduceMul, Int.reduceAdd, Int.reduceSub, Int.reduceNeg, Bool.not_true, Bool.not_false, Bool.not_not, ↓reduceIte, Nat.reduceAdd, Nat.reduceSub, Nat.reduceMul, Nat.reduceEqDiff, reduceCtorEq, Nat.reduceLT, Nat.reduceLeDiff, Nat.reduceGT]); (try any_goals (refine ⟨?_, ?_⟩)); (try any_goals (with_reducible rfl))))
        · simp only [decide_eq_false_iff_not, Decidable.not_not] at hb
          refine ⟨k + 1, ⟨⟨by first | omega | (dsimp only; omega), fun j hj => ?_⟩, by first | omega | (dsimp only; omega)⟩, ?m1⟩
          · by_cases e : j = k
            · rw [e]; exact hb
            · exact hx.2 j (by omega)
          (focus (refine ⟨_, _, Gh.refl, [], rfl, ?_⟩; (refine ⟨?_, ?_, ?_⟩ <;> simp only [go_sem, List.range, List.range.loop, List.nodup_cons, List.nodup_nil, List.mem_cons, List.not_mem_nil, or_false, or_self, Int.reduceToNat, Nat.min_eq_left, Nat.min_eq_right, Int.reducePow, Nat.reducePow, Int.reduceLE, Int.reduceLT, Int.reduceMul, Int.reduceAdd, Int.reduceSub, Int.reduceNeg, Bool.not_true, Bool.not_false, Bool.not_not, ↓reduceIte, Nat.reduceAdd, Nat.reduceSub, Nat.reduceMul, Nat.reduceEqDiff, reduceCtorEq, Nat.reduceLT, Nat.reduceLeDiff, Nat.reduceGT]); (try any_goals (refine ⟨?_, ?_⟩)); (try any_goals (with_reducible rfl))))
          exact hw.symm
      · have hkd : decide ((k : Int) < a.length) = false := decide_eq_false (by omega)
        have he : a = b := by
          apply List.ext_getElem hn
          intro j h1 h2
          have := hx.2 j (by omega)
          simpa [List.getD_eq_getElem?_getD, List.getElem?_eq_getElem h1, List.getElem?_eq_getElem h2] using this
        (have zx1 := @hkd; all_goals (try ((first | (with_reducible refine wp_id ?_) | (with_reducible refine does_id ?_)); refine walk ?_; (repeat' (first | exact trivial | with_reducible refine And.intro ?_ ?_)); all_goals (repeat (first | (with_reducible refine ImpB.mk fun hb => ?_) | (with_reducible refine ImpK.mk fun hK => ?_) | (with_reducible refine ImpF.mk fun hF => ?_) | (with_reducible refine ImpQ.mk fun hp => ?_) | (with_reducible refine AllE.mk fun p => ?_) | (with_reducible refine AllR.mk fun rest => ?_) | (with_reducible refine AllK.mk fun K => ?_))))); repeat' (with_reducible refine And.intro ?_ ?_))
        rw [decide_eq_true he]
        (focus (refine ⟨_, _, Gh.refl, [], rfl, ?_⟩; (refine ⟨?_, ?_, ?_⟩ <;> simp only [go_sem, List.range, List.range.loop, List.nodup_cons, List.nodup_nil, List.mem_cons, List.not_mem_nil, or_false, or_self, Int.reduceToNat, Nat.min_eq_left, Nat.min_eq_right, Int.reducePow, Nat.reducePow, Int.reduceLE, Int.reduceLT, Int.reduceMul, Int.reduceAdd, Int.reduceSub, Int.reduceNeg, Bool.not_true, Bool.not_false, Bool.not_not, ↓reduceIte, Nat.reduceAdd, Nat.reduceSub, Nat.reduceMul, Nat.reduceEqDiff, reduceCtorEq, Nat.reduceLT, Nat.reduceLeDiff, Nat.reduceGT]); (try any_goals (refine ⟨?_, ?_⟩)); (try any_goals (with_reducible rfl))))
  · have hnd : decide (¬ (a.length : Int) = b.length) = true := decide_eq_true (by omega)
    refine w_body (rs := [.tmp 4]) (tm := [.ro .str a, .ro .str b, .any, .any, .any, .any, .any, .any, .any, .any, .any, .any, .any, .any, .any, .any, .any, .any, .any, .any, .any, .any, .any, .any, .any, .any]) fn_22 rfl rfl rfl rfl fun R hR => ?_
    (have zx1 := @hnd; all_goals (try ((first | (with_reducible refine wp_id ?_) | (with_reducible refine does_id ?_)); refine walk ?_; (repeat' (first | exact trivial | with_reducible refine And.intro ?_ ?_)); all_goals (repeat (first | (with_reducible refine ImpB.mk fun hb => ?_) | (with_reducible refine ImpK.mk fun hK => ?_) | (with_reducible refine ImpF.mk fun hF => ?_) | (with_reducible refine ImpQ.mk fun hp => ?_) | (with_reducible refine AllE.mk fun p => ?_) | (with_reducible refine AllR.mk fun rest => ?_) | (with_reducible refine AllK.mk fun K => ?_))))); repeat' (with_reducible refine And.intro ?_ ?_))
    rw [decide_eq_false (fun e => hn (by rw [e]))]
    (focus (refine ⟨_, _, Gh.refl, [], rfl, ?_⟩; (refine ⟨?_, ?_, ?_⟩ <;> simp only [go_sem, List.range, List.range.loop, List.nodup_cons, List.nodup_nil, List.mem_cons, List.not_mem_nil, or_false, or_self, Int.reduceToNat, Nat.min_eq_left, Nat.min_eq_right, Int.reducePow, Nat.reducePow, Int.reduceLE, Int.reduceLT, Int.reduceMul, Int.reduceAdd, Int.reduceSub, Int.reduceNeg, Bool.not_true, Bool.not_false, Bool.not_not, ↓reduceIte, Nat.reduceAdd, Nat.reduceSub, Nat.reduceMul, Nat.reduceEqDiff, reduceCtorEq, Nat.reduceLT, Nat.reduceLeDiff, Nat.reduceGT]); (try any_goals (refine ⟨?_, ?_⟩)); (try any_goals (with_reducible rfl))))
theorem c_texts {h : List Ch} {K : KT} {a b : List Str} {x y : AV} (H : K (.bool (decide (a = b))) h) (b1 : brA [] h (.ro .str a) x) (b2 : brA [] h (.ro .str b) y) (s1 : a.length ≤ 1099511627776) (s2 : b.length ≤ 1099511627776) : Does Try.prog 22 [x, y] h K :=
  frame_pure (b_texts a b s1 s2) (br_cons b1 (br_cons b2 br_nil)) (.inr rfl) (fun _ => rfl) H
abbrev i_texts := Ctr.mk (i := 0) (g := 22) @c_texts
attribute [instance] i_texts
def rdelL (l : List File) (s : Str) : List File := if (rgetE l s).2 = 0 then l.take (fIx l s) ++ l.drop (fIx l s + 1) else l
theorem b_rdel (m r : Int) (l : List File) (s : Str) (hl : l.length ≤ 1000000000) (hs : s.length ≤ 9223372036854775807) : DoesK Try.prog 0 16 [RS m r l, .str s] [] (EndF 0 (.tup [RS m r (rdelL l s), .int .i64 (rgetE l s).2]) []) := by
  refine DoesK.close ?_
  rcases e : rgetE l s with ⟨d, n⟩
  by_cases hn : n = 0
  · subst hn
    have e1 : rdelL l s = l.take (fIx l s) ++ l.drop (fIx l s + 1) := by unfold rdelL; rw [e]; rfl
    have hi : fIx l s < l.length := by
      unfold rgetE at e
      split at e
      · split at e
        · rename_i hh
          rw [fHas_eq] at hh
          simp only [Bool.and_eq_true, decide_eq_true_eq] at hh
          exact hh.1
        · simp at e
      · simp at e
    have hw : IntKind.i64.wrap ((fIx l s : Int) + 1) = ((fIx l s + 1 : Nat) : Int) := by rw [wrap_i64 _ (by omega) (by omega)]; omega
    rw [e1]
    refine w_body (rs := [.cell 4 40, .tmp 5]) (tm := [RS m r l, .str s, .any, .any, .any, .any, .any, .any, .any, .any, .any, .any, .any, .any, .any, .any, .any, .any, .any, .any, .any, .any, .any, .any, .any, .any, .any, .any, .any, .any, .any, .any, .any, .any, .any, .any, .any, .any, .any, .any]) fn_16 rfl rfl rfl rfl fun R hR => ?_
    (have zx1 := @hw; all_goals (try ((first | (with_reducible refine wp_id ?_) | (with_reducible refine does_id ?_)); refine walk ?_; (repeat' (first | exact trivial | with_reducible refine And.intro ?_ ?_)); all_goals (repeat (first | (with_reducible refine ImpB.mk fun hb => ?_) | (with_reducible refine ImpK.mk fun hK => ?_) | (with_reducible refine ImpF.mk fun hF => ?_) | (with_reducible refine ImpQ.mk fun hp => ?_) | (with_reducible refine AllE.mk fun p => ?_) | (with_reducible refine AllR.mk fun rest => ?_) | (with_reducible refine AllK.mk fun K => ?_))))); repeat' (with_reducible refine And.intro ?_ ?_))
    · exact absurd hb (by simp)
    · have hL : min (fIx l s) l.length + (l.drop (fIx l s + 1)).length = (l.take (fIx l s) ++ l.drop (fIx l s + 1)).length := by rw [List.length_append, List.length_take]
      have hS : ((l.take (fIx l s) ++ l.drop (fIx l s + 1)).drop 0).take (min (fIx l s) l.length + (l.drop (fIx l s + 1)).length) = l.take (fIx l s) ++ l.drop (fIx l s + 1) := by
        rw [List.drop_zero, List.take_of_length_le (by rw [hL]; exact Nat.le_refl _)]
      refine ⟨_, _, gh_frz (t := 4) (e := .file) (xs := l.take (fIx l s) ++ l.drop (fIx l s + 1)) rfl ?f1 ?f2, [], rfl, ?ft⟩
      case' ft => (refine ⟨?_, ?_, ?_⟩ <;> simp only [go_sem, List.range, List.range.loop, List.nodup_cons, List.nodup_nil, List.mem_cons, List.not_mem_nil, or_false, or_self, Int.reduceToNat, Nat.min_eq_left, Nat.min_eq_right, Int.reducePow, Nat.reducePow, Int.reduceLE, Int.reduceLT, Int.reduceMul, Int.reduceAdd, Int.reduceSub, Int.reduceNeg, Bool.not_true, Bool.not_false, Bool.not_not, ↓reduceIte, Nat.reduceAdd, Nat.reduceSub, Nat.reduceMul, Nat.reduceEqDiff, reduceCtorEq, Nat.reduceLT, Nat.reduceLeDiff, Nat.reduceGT])
      case' f1 => simp only [go_sem, Int.reduceToNat, Nat.min_eq_left, Nat.min_eq_right, Int.reducePow, Nat.reducePow, Int.reduceLE, Int.reduceLT, Int.reduceMul, Int.reduceAdd, Int.reduceSub, Int.reduceNeg, Bool.not_true, Bool.not_false, Bool.not_not, ↓reduceIte, Nat.reduceAdd, Nat.reduceSub, Nat.reduceMul, Nat.reduceEqDiff, reduceCtorEq, Nat.reduceLT, Nat.reduceLeDiff, Nat.reduceGT]
      case' f2 => simp only [go_sem, Int.reduceToNat, Nat.min_eq_left, Nat.min_eq_right, Int.reducePow, Nat.reducePow, Int.reduceLE, Int.reduceLT, Int.reduceMul, Int.reduceAdd, Int.reduceSub, Int.reduceNeg, Bool.not_true, Bool.not_false, Bool.not_not, ↓reduceIte, Nat.reduceAdd, Nat.reduceSub, Nat.reduceMul, Nat.reduceEqDiff, reduceCtorEq, Nat.reduceLT, Nat.reduceLeDiff, Nat.reduceGT]
      all_goals first | exact Nat.le_refl _ | exact hS.symm
    all_goals (try simp only [List.length_drop])
    all_goals omega
  · have hnd : decide (¬ n = 0) = true := decide_eq_true hn
    have e1 : rdelL l s = l := by unfold rdelL; rw [e]; exact if_neg hn
    rw [e1]
    refine w_body (rs := [.cell 4 40, .tmp 5]) (tm := [RS m r l, .str s, .any, .any, .any, .any, .any, .any, .any, .any, .any, .any, .any, .any, .any, .any, .any, .any, .any, .any, .any, .any, .any, .any, .any, .any, .any, .any, .any, .any, .any, .any, .any, .any, .any, .any, .any, .any, .any, .any]) fn_16 rfl rfl rfl rfl fun R hR => ?_
    (have zx1 := @hnd; all_goals (try ((first | (with_reducible refine wp_id ?_) | (with_reducible refine does_id ?_)); refine walk ?_; (repeat' (first | exact trivial | with_reducible refine And.intro ?_ ?_)); all_goals (repeat (first | (with_reducible refine ImpB.mk fun hb => ?_) | (with_reducible refine ImpK.mk fun hK => ?_) | (with_reducible refine ImpF.mk fun hF => ?_) | (with_reducible refine ImpQ.mk fun hp => ?_) | (with_reducible refine AllE.mk fun p => ?_) | (with_reducible refine AllR.mk fun rest => ?_) | (with_reducible refine AllK.mk fun K => ?_))))); repeat' (with_reducible refine And.intro ?_ ?_))
    (focus (refine ⟨_, _, Gh.refl, [], rfl, ?_⟩; (refine ⟨?_, ?_, ?_⟩ <;> simp only [go_sem, List.range, List.range.loop, List.nodup_cons, List.nodup_nil, List.mem_cons, List.not_mem_nil, or_false, or_self, Int.reduceToNat, Nat.min_eq_left, Nat.min_eq_right, Int.reducePow, Nat.reducePow, Int.reduceLE, Int.reduceLT, Int.reduceMul, Int.reduceAdd, Int.reduceSub, Int.reduceNeg, Bool.not_true, Bool.not_false, Bool.not_not, ↓reduceIte, Nat.reduceAdd, Nat.reduceSub, Nat.reduceMul, Nat.reduceEqDiff, reduceCtorEq, Nat.reduceLT, Nat.reduceLeDiff, Nat.reduceGT]); (try any_goals (refine ⟨?_, ?_⟩)); (try any_goals (with_reducible rfl))))
theorem c_rdel {h : List Ch} {K : KT} {m r : Int} {l : List File} {s : Str} (H : K (.tup [.agg [.int .i64 m, .int .i64 r, .ro .file (rdelL l s)], .int .i64 (rgetE l s).2]) h) (s1 : l.length ≤ 1000000000) (s2 : s.length ≤ 9223372036854775807) : Does Try.prog 16 [.agg [.int .i64 m, .int .i64 r, .ro .file l], .str s] h K :=
  frame_pure (b_rdel m r l s s1 s2) (br_cons (br_agg (br_cons br_int (br_cons br_int (br_cons br_ro br_nil)))) (br_cons br_str br_nil)) (.inl rfl) (fun _ => rfl) H
abbrev i_rdel := Ctr.mk (i := 0) (g := 16) @c_rdel
attribute [instance] i_rdel
end Go.V

set_option maxRecDepth 100000
set_option maxHeartbeats 1000000
namespace Go.V
open Go.Proofs
/-- what the reference's Put answers -/
def rputE (m r : Int) (l : List File) (s d : Str) : Int :=
  if nameB s then (if 65536 < d.length then 6 else if m ≤ (rdelL l s).length ∨ r - sumL (kvF (rdelL l s)) < d.length then 7 else 0) else 1
def rputL (m r : Int) (l : List File) (s d : Str) : List File :=
  if rputE m r l s d = 0 then (rdelL l s).take (fIx (rdelL l s) s) ++ [⟨s, d⟩] ++ (rdelL l s).drop (fIx (rdelL l s) s) else l
theorem rdel_len (l : List File) (s : Str) : (rdelL l s).length ≤ l.length := by
  unfold rdelL
  split
  · rw [List.length_append, List.length_take, List.length_drop]
    omega
  · exact Nat.le_refl _
theorem sumL_take_drop (l : List File) (k : Nat) : sumL (kvF (l.take k ++ l.drop (k + 1))) ≤ sumL (kvF l) := by
  have h1 : kvF (l.take k ++ l.drop (k + 1)) = kvF (l.take k) ++ kvF (l.drop (k + 1)) := by unfold kvF; rw [List.map_append]
  have h2 : kvF l = kvF (l.take k) ++ kvF (l.drop k) := by unfold kvF; rw [← List.map_append, List.take_append_drop]
  have h3 : sumL (kvF (l.drop (k + 1))) ≤ sumL (kvF (l.drop k)) := by
    rw [← List.drop_drop]
    cases l.drop k with
    | nil => exact Nat.le_refl _
    | cons f t => simp [kvF, sumL]
  rw [h1, h2, sumL_app, sumL_app]
  omega
theorem rdel_sum (l : List File) (s : Str) : sumL (kvF (rdelL l s)) ≤ sumL (kvF l) := by
  unfold rdelL
  split
  · exact sumL_take_drop _ _
  · exact Nat.le_refl _
theorem b_rput (m r : Int) (l : List File) (s d : Str) (hl : l.length ≤ 1000000) (hs : s.length ≤ 9223372036854775807) (hd : d.length ≤ 1099511627776) (hr : 0 ≤ r ∧ r ≤ 2147483648) (hk : (sumL (kvF l) : Int) ≤ r) : DoesK Try.prog 0 15 [RS m r l, .str s, .ro .byte d] [] (EndF 0 (.tup [RS m r (rputL m r l s d), .int .i64 (rputE m r l s d)]) []) := by
  refine DoesK.close ?_
  cases hn : nameB s
  · have h0 : rputE m r l s d = 1 := by unfold rputE; rw [if_neg (by rw [hn]; decide)]
    have h1 : rputL m r l s d = l := by unfold rputL; rw [if_neg (by rw [h0]; decide)]
    rw [h0, h1]
    refine w_body (rs := [.cell 6 40, .tmp 7]) (tm := [RS m r l, .str s, .ro .byte d, .any, .any, .any, .any, .any, .any, .any, .any, .any, .any, .any, .any, .any, .any, .any, .any, .any, .any, .any, .any, .any, .any, .any, .any, .any, .any, .any, .any, .any, .any, .any, .any, .any, .any, .any, .any, .any, .any, .any, .any, .any, .any, .any, .any, .any, .any, .any, .any, .any, .any, .any, .any, .any, .any, .any, .any, .any, .any, .any, .any, .any, .any, .any, .any, .any]) fn_15 rfl rfl rfl rfl fun R hR => ?_
    (have zx1 := @hn; all_goals (try ((first | (with_reducible refine wp_id ?_) | (with_reducible refine does_id ?_)); refine walk ?_; (repeat' (first | exact trivial | with_reducible refine And.intro ?_ ?_)); all_goals (repeat (first | (with_reducible refine ImpB.mk fun hb => ?_) | (with_reducible refine ImpK.mk fun hK => ?_) | (with_reducible refine ImpF.mk fun hF => ?_) | (with_reducible refine ImpQ.mk fun hp => ?_) | (with_reducible refine AllE.mk fun p => ?_) | (with_reducible refine AllR.mk fun rest => ?_) | (with_reducible refine AllK.mk fun K => ?_))))); repeat' (with_reducible refine And.intro ?_ ?_))
    (focus (refine ⟨_, _, Gh.refl, [], rfl, ?_⟩; (refine ⟨?_, ?_, ?_⟩ <;> simp only [go_sem, List.range, List.range.loop, List.nodup_cons, List.nodup_nil, List.mem_cons, List.not_mem_nil, or_false, or_self, Int.reduceToNat, Nat.min_eq_left, Nat.min_eq_right, Int.reducePow, Nat.reducePow, Int.reduceLE, Int.reduceLT, Int.reduceMul, Int.reduceAdd, Int.reduceSub, Int.reduceNeg, Bool.not_true, Bool.not_false, Bool.not_not, ↓reduceIte, Nat.reduceAdd, Nat.reduceSub, Nat.reduceMul, Nat.reduceEqDiff, reduceCtorEq, Nat.reduceLT, Nat.reduceLeDiff, Nat.reduceGT]); (try any_goals (refine ⟨?_, ?_⟩)); (try any_goals (with_reducible rfl))))
  · by_cases hl6 : 65536 < d.length
    · have hld : decide ((65536 : Int) < d.length) = true := decide_eq_true (by omega)
      have h0 : rputE m r l s d = 6 := by unfold rputE; rw [if_pos hn, if_pos hl6]
      have h1 : rputL m r l s d = l := by unfold rputL; rw [if_neg (by rw [h0]; decide)]
      rw [h0, h1]
      refine w_body (rs := [.cell 6 40, .tmp 7]) (tm := [RS m r l, .str s, .ro .byte d, .any, .any, .any, .any, .any, .any, .any, .any, .any, .any, .any, .any, .any, .any, .any, .any, .any, .any, .any, .any, .any, .any, .any, .any, .any, .any, .any, .any, .any, .any, .any, .any, .any, .any, .any, .any, .any, .any, .any, .any, .any, .any, .any, .any, .any, .any, .any, .any, .any, .any, .any, .any, .any, .any, .any, .any, .any, .any, .any, .any, .any, .any, .any, .any, .any]) fn_15 rfl rfl rfl rfl fun R hR => ?_
      (have zx1 := @hn; have zx2 := @hld; all_goals (try ((first | (with_reducible refine wp_id ?_) | (with_reducible refine does_id ?_)); refine walk ?_; (repeat' (first | exact trivial | with_reducible refine And.intro ?_ ?_)); all_goals (repeat (first | (with_reducible refine ImpB.mk fun hb => ?_) | (with_reducible refine ImpK.mk fun hK => ?_) | (with_reducible refine ImpF.mk fun hF => ?_) | (with_reducible refine ImpQ.mk fun hp => ?_) | (with_reducible refine AllE.mk fun p => ?_) | (with_reducible refine AllR.mk fun rest => ?_) | (with_reducible refine AllK.mk fun K => ?_))))); repeat' (with_reducible refine And.intro ?_ ?_))
      (focus (refine ⟨_, _, Gh.refl, [], rfl, ?_⟩; (refine ⟨?_, ?_, ?_⟩ <;> simp only [go_sem, List.range, List.range.loop, List.nodup_cons, List.nodup_nil, List.mem_cons, List.not_mem_nil, or_false, or_self, Int.reduceToNat, Nat.min_eq_left, Nat.min_eq_right, Int.reducePow, Nat.reducePow, Int.reduceLE, Int.reduceLT, Int.reduceMul, Int.reduceAdd, Int.reduceSub, Int.reduceNeg, Bool.not_true, Bool.not_false, Bool.not_not, ↓reduceIte, Nat.reduceAdd, Nat.reduceSub, Nat.reduceMul, Nat.reduceEqDiff, reduceCtorEq, Nat.reduceLT, Nat.reduceLeDiff, Nat.reduceGT]); (try any_goals (refine ⟨?_, ?_⟩)); (try any_goals (with_reducible rfl))))
    · have hld : decide ((65536 : Int) < d.length) = false := decide_eq_false (by omega)
      have hdl := rdel_len l s
      have hds := rdel_sum l s
      by_cases hc : m ≤ (rdelL l s).length
      · have hcd : decide (m ≤ ((rdelL l s).length : Int)) = true := decide_eq_true hc
        have h0 : rputE m r l s d = 7 := by unfold rputE; rw [if_pos hn, if_neg hl6, if_pos (.inl hc)]
        have h1 : rputL m r l s d = l := by unfold rputL; rw [if_neg (by rw [h0]; decide)]
        rw [h0, h1]
        refine w_body (rs := [.cell 6 40, .tmp 7]) (tm := [RS m r l, .str s, .ro .byte d, .any, .any, .any, .any, .any, .any, .any, .any, .any, .any, .any, .any, .any, .any, .any, .any, .any, .any, .any, .any, .any, .any, .any, .any, .any, .any, .any, .any, .any, .any, .any, .any, .any, .any, .any, .any, .any, .any, .any, .any, .any, .any, .any, .any, .any, .any, .any, .any, .any, .any, .any, .any, .any, .any, .any, .any, .any, .any, .any, .any, .any, .any, .any, .any, .any]) fn_15 rfl rfl rfl rfl fun R hR => ?_
        (have zx1 := @hn; have zx2 := @hld; have zx3 := @hcd; all_goals (try ((first | (with_reducible refine wp_id ?_) | (with_reducible refine does_id ?_)); refine walk ?_; (repeat' (first | exact trivial | with_reducible refine And.intro ?_ ?_)); all_goals (repeat (first | (with_reducible refine ImpB.mk fun hb => ?_) | (with_reducible refine ImpK.mk fun hK => ?_) | (with_reducible refine ImpF.mk fun hF => ?_) | (with_reducible refine ImpQ.mk fun hp => ?_) | (with_reducible refine AllE.mk fun p => ?_) | (with_reducible refine AllR.mk fun rest => ?_) | (with_reducible refine AllK.mk fun K => ?_))))); repeat' (with_reducible refine And.intro ?_ ?_))
        (focus (refine ⟨_, _, Gh.refl, [], rfl, ?_⟩; (refine ⟨?_, ?_, ?_⟩ <;> simp only [go_sem, List.range, List.range.loop, List.nodup_cons, List.nodup_nil, List.mem_cons, List.not_mem_nil, or_false, or_self, Int.reduceToNat, Nat.min_eq_left, Nat.min_eq_right, Int.reducePow, Nat.reducePow, Int.reduceLE, Int.reduceLT, Int.reduceMul, Int.reduceAdd, Int.reduceSub, Int.reduceNeg, Bool.not_true, Bool.not_false, Bool.not_not, ↓reduceIte, Nat.reduceAdd, Nat.reduceSub, Nat.reduceMul, Nat.reduceEqDiff, reduceCtorEq, Nat.reduceLT, Nat.reduceLeDiff, Nat.reduceGT]); (try any_goals (refine ⟨?_, ?_⟩)); (try any_goals (with_reducible rfl))))
      · have hcd : decide (m ≤ ((rdelL l s).length : Int)) = false := decide_eq_false hc
        by_cases hf : r - sumL (kvF (rdelL l s)) < d.length
        · have hfd : decide (r - sumL (kvF (rdelL l s)) < (d.length : Int)) = true := decide_eq_true hf
          have h0 : rputE m r l s d = 7 := by unfold rputE; rw [if_pos hn, if_neg hl6, if_pos (.inr hf)]
          have h1 : rputL m r l s d = l := by unfold rputL; rw [if_neg (by rw [h0]; decide)]
          rw [h0, h1]
          refine w_body (rs := [.cell 6 40, .tmp 7]) (tm := [RS m r l, .str s, .ro .byte d, .any, .any, .any, .any, .any, .any, .any, .any, .any, .any, .any, .any, .any, .any, .any, .any, .any, .any, .any, .any, .any, .any, .any, .any, .any, .any, .any, .any, .any, .any, .any, .any, .any, .any, .any, .any, .any, .any, .any, .any, .any, .any, .any, .any, .any, .any, .any, .any, .any, .any, .any, .any, .any, .any, .any, .any, .any, .any, .any, .any, .any, .any, .any, .any, .any]) fn_15 rfl rfl rfl rfl fun R hR => ?_
          (have zx1 := @hn; have zx2 := @hld; have zx3 := @hcd; have zx4 := @hfd; all_goals (try ((first | (with_reducible refine wp_id ?_) | (with_reducible refine does_id ?_)); refine walk ?_; (repeat' (first | exact trivial | with_reducible refine And.intro ?_ ?_)); all_goals (repeat (first | (with_reducible refine ImpB.mk fun hb => ?_) | (with_reducible refine ImpK.mk fun hK => ?_) | (with_reducible refine ImpF.mk fun hF => ?_) | (with_reducible refine ImpQ.mk fun hp => ?_) | (with_reducible refine AllE.mk fun p => ?_) | (with_reducible refine AllR.mk fun rest => ?_) | (with_reducible refine AllK.mk fun K => ?_))))); repeat' (with_reducible refine And.intro ?_ ?_))
          (focus (refine ⟨_, _, Gh.refl, [], rfl, ?_⟩; (refine ⟨?_, ?_, ?_⟩ <;> simp only [go_sem, List.range, List.range.loop, List.nodup_cons, List.nodup_nil, List.mem_cons, List.not_mem_nil, or_false, or_self, Int.reduceToNat, Nat.min_eq_left, Nat.min_eq_right, Int.reducePow, Nat.reducePow, Int.reduceLE, Int.reduceLT, Int.reduceMul, Int.reduceAdd, Int.reduceSub, Int.reduceNeg, Bool.not_true, Bool.not_false, Bool.not_not, ↓reduceIte, Nat.reduceAdd, Nat.reduceSub, Nat.reduceMul, Nat.reduceEqDiff, reduceCtorEq, Nat.reduceLT, Nat.reduceLeDiff, Nat.reduceGT]); (try any_goals (refine ⟨?_, ?_⟩)); (try any_goals (with_reducible rfl))))
        · have hfd : decide (r - sumL (kvF (rdelL l s)) < (d.length : Int)) = false := decide_eq_false hf
          have h0 : rputE m r l s d = 0 := by unfold rputE; rw [if_pos hn, if_neg hl6, if_neg (by rintro (q | q); exact hc q; exact hf q)]
          have h1 : rputL m r l s d = (rdelL l s).take (fIx (rdelL l s) s) ++ [⟨s, d⟩] ++ (rdelL l s).drop (fIx (rdelL l s) s) := by unfold rputL; rw [if_pos h0]
          rw [h0, h1]
          obtain ⟨t, ht⟩ : ∃ t, rdelL l s = t := ⟨_, rfl⟩
          rw [ht] at hcd hfd hdl hds ⊢
          have hix := fIx_le t s
          refine w_body (rs := [.cell 6 40, .tmp 7]) (tm := [RS m r l, .str s, .ro .byte d, .any, .any, .any, .any, .any, .any, .any, .any, .any, .any, .any, .any, .any, .any, .any, .any, .any, .any, .any, .any, .any, .any, .any, .any, .any, .any, .any, .any, .any, .any, .any, .any, .any, .any, .any, .any, .any, .any, .any, .any, .any, .any, .any, .any, .any, .any, .any, .any, .any, .any, .any, .any, .any, .any, .any, .any, .any, .any, .any, .any, .any, .any, .any, .any, .any]) fn_15 rfl rfl rfl rfl fun R hR => ?_
          (have zx1 := @hn; have zx2 := @hld; have zx3 := @ht; have zx4 := @hcd; have zx5 := @hfd; all_goals (try ((first | (with_reducible refine wp_id ?_) | (with_reducible refine does_id ?_)); refine walk ?_; (repeat' (first | exact trivial | with_reducible refine And.intro ?_ ?_)); all_goals (repeat (first | (with_reducible refine ImpB.mk fun hb => ?_) | (with_reducible refine ImpK.mk fun hK => ?_) | (with_reducible refine ImpF.mk fun hF => ?_) | (with_reducible refine ImpQ.mk fun hp => ?_) | (with_reducible refine AllE.mk fun p => ?_) | (with_reducible refine AllR.mk fun rest => ?_) | (with_reducible refine AllK.mk fun K => ?_))))); repeat' (with_reducible refine And.intro ?_ ?_))
          rotate_right
          · have hL : min (fIx t s) t.length + 1 + (t.drop (fIx t s)).length = (t.take (fIx t s) ++ [(⟨s, d⟩ : File)] ++ t.drop (fIx t s)).length := by simp only [List.length_append, List.length_take, List.length_cons, List.length_nil]
            have hS : ((t.take (fIx t s) ++ [(⟨s, d⟩ : File)] ++ t.drop (fIx t s)).drop 0).take (min (fIx t s) t.length + 1 + (t.drop (fIx t s)).length) = t.take (fIx t s) ++ [(⟨s, d⟩ : File)] ++ t.drop (fIx t s) := by
              rw [List.drop_zero, List.take_of_length_le (by rw [hL]; exact Nat.le_refl _)]
            refine ⟨_, _, gh_frz (t := 9) (e := .file) (xs := t.take (fIx t s) ++ [(⟨s, d⟩ : File)] ++ t.drop (fIx t s)) rfl ?f1 ?f2, [], rfl, ?ft⟩
            case' ft => (refine ⟨?_, ?_, ?_⟩ <;> simp only [go_sem, List.range, List.range.loop, List.nodup_cons, List.nodup_nil, List.mem_cons, List.not_mem_nil, or_false, or_self, Int.reduceToNat, Nat.min_eq_left, Nat.min_eq_right, Int.reducePow, Nat.reducePow, Int.reduceLE, Int.reduceLT, Int.reduceMul, Int.reduceAdd, Int.reduceSub, Int.reduceNeg, Bool.not_true, Bool.not_false, Bool.not_not, ↓reduceIte, Nat.reduceAdd, Nat.reduceSub, Nat.reduceMul, Nat.reduceEqDiff, reduceCtorEq, Nat.reduceLT, Nat.reduceLeDiff, Nat.reduceGT])
            case' f1 => simp only [go_sem, Int.reduceToNat, Nat.min_eq_left, Nat.min_eq_right, Int.reducePow, Nat.reducePow, Int.reduceLE, Int.reduceLT, Int.reduceMul, Int.reduceAdd, Int.reduceSub, Int.reduceNeg, Bool.not_true, Bool.not_false, Bool.not_not, ↓reduceIte, Nat.reduceAdd, Nat.reduceSub, Nat.reduceMul, Nat.reduceEqDiff, reduceCtorEq, Nat.reduceLT, Nat.reduceLeDiff, Nat.reduceGT]
            case' f2 => simp only [go_sem, Int.reduceToNat, Nat.min_eq_left, Nat.min_eq_right, Int.reducePow, Nat.reducePow, Int.reduceLE, Int.reduceLT, Int.reduceMul, Int.reduceAdd, Int.reduceSub, Int.reduceNeg, Bool.not_true, Bool.not_false, Bool.not_not, ↓reduceIte, Nat.reduceAdd, Nat.reduceSub, Nat.reduceMul, Nat.reduceEqDiff, reduceCtorEq, Nat.reduceLT, Nat.reduceLeDiff, Nat.reduceGT]
            all_goals first | exact Nat.le_refl _ | exact hS.symm
          all_goals (try simp only [List.length_drop])
          all_goals omega
theorem c_rput {h : List Ch} {K : KT} {m r : Int} {l : List File} {s d : Str} {a : AV} (H : K (.tup [.agg [.int .i64 m, .int .i64 r, .ro .file (rputL m r l s d)], .int .i64 (rputE m r l s d)]) h) (q1 : isRO .byte d a) (s1 : l.length ≤ 1000000) (s2 : s.length ≤ 9223372036854775807) (s3 : d.length ≤ 1099511627776) (s4 : 0 ≤ r ∧ r ≤ 2147483648) (s5 : (sumL (kvF l) : Int) ≤ r) : Does Try.prog 15 [.agg [.int .i64 m, .int .i64 r, .ro .file l], .str s, a] h K :=
  frame_pure (b_rput m r l s d s1 s2 s3 s4 s5) (br_cons (br_agg (br_cons br_int (br_cons br_int (br_cons br_ro br_nil)))) (br_cons br_str (br_cons q1.br br_nil))) (.inl (by simp only [brTL, q1.brT]; rfl)) (fun _ => rfl) H
abbrev i_rput := Ctr.mk (i := 0) (g := 15) @c_rput
attribute [instance] i_rput
end Go.V

set_option maxRecDepth 100000
set_option maxHeartbeats 1000000
namespace Go.V
open Go.Proofs
theorem frHs_len (t : Nat) (e : Ety) (xs : List e.T) : ∀ h : List Ch, (frHs t e xs h).length = h.length
  | [] => rfl
  | _ :: h => by simp [frHs, frHs_len t e xs h]
theorem hth_frHs (t : Nat) (e : Ety) (xs : List e.T) {l : List Ch} : ∀ {h : List Ch} {g : Nat}, hth h g = .pack l → hth (frHs t e xs h) g = .pack l
  | [], _, h => by cases h
  | c :: h, 0, q => by
    have : c = .pack l := q
    subst this
    rfl
  | _ :: h, g + 1, q => hth_frHs t e xs (h := h) (g := g) q
theorem c_put_sl {h : List Ch} {K : KT} {t g n : Nat} {m r : Int} {kv : List (Str × Str)} {s d : Str} (H : K (.int .i64 (putE m r kv s d)) ((frHs g .byte d (h.set g .gone)).set t (.pack (St m r (putM m r kv s d))))) (o : hth h t = .pack (St m r kv)) (o1 : hth h g = .rows .byte d) (s1 : s.length ≤ 9223372036854775807) (s2 : d.length ≤ 9223372036854775807) (s3 : 0 ≤ r ∧ r ≤ 2147483648) (s4 : (sumL kv : Int) ≤ r) (s5 : n = d.length) (s6 : frObH g .byte d.length h) : Does Try.prog 9 [.ptr t 0, .str s, .sl g .byte 0 n] h K := by
  subst s5
  refine Does.ghost (gh_frz (t := g) (e := .byte) (xs := d) o1 (by simp [frObL, frOb]) s6) ?_
  have hne : g ≠ t := fun e => by subst e; rw [o] at o1; cases o1
  have ho : hth (frHs g .byte d (h.set g .gone)) t = .pack (St m r kv) := hth_frHs _ _ _ (by rw [hth_set_ne hne]; exact o)
  have e : frL g .byte d [.ptr t 0, .str s, .sl g .byte 0 d.length] = [.ptr t 0, .str s, .ro .byte d] := by
    simp [frL, frA]
  rw [e]
  exact c_put H ho isRO_ro s1 s2 s3 s4
abbrev i_put_sl := Ctr.mk (i := 1) (g := 9) @c_put_sl
attribute [instance] i_put_sl
theorem al_q1 : min (max 2 0) 256 = (2 : Int) := by decide
theorem al_q2 : min (max 10 0) 2147483648 = (10 : Int) := by decide
theorem al_p1 : putE 2 10 [] [97] [UInt8.ofNat 49, UInt8.ofNat 50, UInt8.ofNat 51, UInt8.ofNat 52, UInt8.ofNat 53, UInt8.ofNat 54] = 0 := by decide
theorem al_m1 : putM 2 10 [] [97] [UInt8.ofNat 49, UInt8.ofNat 50, UInt8.ofNat 51, UInt8.ofNat 52, UInt8.ofNat 53, UInt8.ofNat 54] = [([97], [UInt8.ofNat 49, UInt8.ofNat 50, UInt8.ofNat 51, UInt8.ofNat 52, UInt8.ofNat 53, UInt8.ofNat 54])] := by decide
theorem al_p2 : putE 2 10 [([97], [UInt8.ofNat 49, UInt8.ofNat 50, UInt8.ofNat 51, UInt8.ofNat 52, UInt8.ofNat 53, UInt8.ofNat 54])] [98] [UInt8.ofNat 49, UInt8.ofNat 50, UInt8.ofNat 51, UInt8.ofNat 52, UInt8.ofNat 53] = 7 := by decide
theorem al_m2 : putM 2 10 [([97], [UInt8.ofNat 49, UInt8.ofNat 50, UInt8.ofNat 51, UInt8.ofNat 52, UInt8.ofNat 53, UInt8.ofNat 54])] [98] [UInt8.ofNat 49, UInt8.ofNat 50, UInt8.ofNat 51, UInt8.ofNat 52, UInt8.ofNat 53] = [([97], [UInt8.ofNat 49, UInt8.ofNat 50, UInt8.ofNat 51, UInt8.ofNat 52, UInt8.ofNat 53, UInt8.ofNat 54])] := by decide
theorem al_p3 : putE 2 10 [([97], [UInt8.ofNat 49, UInt8.ofNat 50, UInt8.ofNat 51, UInt8.ofNat 52, UInt8.ofNat 53, UInt8.ofNat 54])] [97] [UInt8.ofNat 49, UInt8.ofNat 50, UInt8.ofNat 51, UInt8.ofNat 52, UInt8.ofNat 53, UInt8.ofNat 54, UInt8.ofNat 55, UInt8.ofNat 56, UInt8.ofNat 57] = 0 := by decide
theorem al_m3 : putM 2 10 [([97], [UInt8.ofNat 49, UInt8.ofNat 50, UInt8.ofNat 51, UInt8.ofNat 52, UInt8.ofNat 53, UInt8.ofNat 54])] [97] [UInt8.ofNat 49, UInt8.ofNat 50, UInt8.ofNat 51, UInt8.ofNat 52, UInt8.ofNat 53, UInt8.ofNat 54, UInt8.ofNat 55, UInt8.ofNat 56, UInt8.ofNat 57] = [([97], [UInt8.ofNat 49, UInt8.ofNat 50, UInt8.ofNat 51, UInt8.ofNat 52, UInt8.ofNat 53, UInt8.ofNat 54, UInt8.ofNat 55, UInt8.ofNat 56, UInt8.ofNat 57])] := by decide
theorem al_s0 : (sumL [] : Int) ≤ 10 := by decide
theorem al_s1 : (sumL [([97], [UInt8.ofNat 49, UInt8.ofNat 50, UInt8.ofNat 51, UInt8.ofNat 52, UInt8.ofNat 53, UInt8.ofNat 54])] : Int) ≤ 10 := by decide
theorem al_s2 : (sumL [([97], [UInt8.ofNat 49, UInt8.ofNat 50, UInt8.ofNat 51, UInt8.ofNat 52, UInt8.ofNat 53, UInt8.ofNat 54, UInt8.ofNat 55, UInt8.ofNat 56, UInt8.ofNat 57])] : Int) ≤ 10 := by decide
theorem al_g1 : findE [([97], [UInt8.ofNat 49, UInt8.ofNat 50, UInt8.ofNat 51, UInt8.ofNat 52, UInt8.ofNat 53, UInt8.ofNat 54, UInt8.ofNat 55, UInt8.ofNat 56, UInt8.ofNat 57])] [97] = ([UInt8.ofNat 49, UInt8.ofNat 50, UInt8.ofNat 51, UInt8.ofNat 52, UInt8.ofNat 53, UInt8.ofNat 54, UInt8.ofNat 55, UInt8.ofNat 56, UInt8.ofNat 57], 0) := by decide
theorem al_g2 : findE [([97], [UInt8.ofNat 49, UInt8.ofNat 50, UInt8.ofNat 51, UInt8.ofNat 52, UInt8.ofNat 53, UInt8.ofNat 54, UInt8.ofNat 55, UInt8.ofNat 56, UInt8.ofNat 57])] [98] = ([], 8) := by decide
theorem al_g3 : findE [([97], [UInt8.ofNat 49, UInt8.ofNat 50, UInt8.ofNat 51, UInt8.ofNat 52, UInt8.ofNat 53, UInt8.ofNat 54, UInt8.ofNat 55, UInt8.ofNat 56, UInt8.ofNat 57])] [] = ([], 1) := by decide
theorem al_n : namesS [([97], [UInt8.ofNat 49, UInt8.ofNat 50, UInt8.ofNat 51, UInt8.ofNat 52, UInt8.ofNat 53, UInt8.ofNat 54, UInt8.ofNat 55, UInt8.ofNat 56, UInt8.ofNat 57])] = [[97]] := by simp [namesS, sortS]
theorem al_d : decide ([UInt8.ofNat 49, UInt8.ofNat 50, UInt8.ofNat 51, UInt8.ofNat 52, UInt8.ofNat 53, UInt8.ofNat 54, UInt8.ofNat 55, UInt8.ofNat 56, UInt8.ofNat 57] = [49, 50, 51, 52, 53, 54, 55, 56, 57]) = true := by decide
theorem al_sd : decide (10 - (sumL [([97], [UInt8.ofNat 49, UInt8.ofNat 50, UInt8.ofNat 51, UInt8.ofNat 52, UInt8.ofNat 53, UInt8.ofNat 54, UInt8.ofNat 55, UInt8.ofNat 56, UInt8.ofNat 57])] : Int) = 1) = true := by decide
theorem al_nd : decide (namesS [([97], [UInt8.ofNat 49, UInt8.ofNat 50, UInt8.ofNat 51, UInt8.ofNat 52, UInt8.ofNat 53, UInt8.ofNat 54, UInt8.ofNat 55, UInt8.ofNat 56, UInt8.ofNat 57])] = [[97]]) = true := by rw [al_n]; rfl
theorem al_nl : (namesS [([97], [UInt8.ofNat 49, UInt8.ofNat 50, UInt8.ofNat 51, UInt8.ofNat 52, UInt8.ofNat 53, UInt8.ofNat 54, UInt8.ofNat 55, UInt8.ofNat 56, UInt8.ofNat 57])]).length ≤ 1099511627776 := by rw [al_n]; decide
theorem b_alive : DoesK Try.prog 0 7 [] [] (EndF 0 (.bool true) []) := by
  refine DoesK.close ?_
  refine w_body (rs := [.tmp 0]) (tm := [.any, .any, .any, .any, .any, .any, .any, .any, .any, .any, .any, .any, .any, .any, .any, .any, .any, .any, .any, .any, .any, .any, .any, .any, .any, .any, .any, .any, .any, .any, .any, .any, .any, .any, .any, .any, .any, .any, .any, .any, .any, .any, .any, .any, .any, .any, .any, .any, .any, .any, .any, .any, .any, .any, .any, .any, .any, .any, .any, .any, .any, .any, .any, .any, .any, .any, .any, .any, .any, .any, .any]) fn_7 rfl rfl rfl rfl fun R hR => ?_
  (have zx1 := @al_q1; have zx2 := @al_q2; have zx3 := @al_p1; have zx4 := @al_m1; have zx5 := @al_p2; have zx6 := @al_m2; have zx7 := @al_p3; have zx8 := @al_m3; have zx9 := @al_s0; have zx10 := @al_s1; have zx11 := @al_s2; have zx12 := @al_g1; have zx13 := @al_g2; have zx14 := @al_g3; have zx15 := @al_d; have zx16 := @al_sd; have zx17 := @al_nd; all_goals (try ((first | (with_reducible refine wp_id ?_) | (with_reducible refine does_id ?_)); refine walk ?_; (repeat' (first | exact trivial | with_reducible refine And.intro ?_ ?_)); all_goals (repeat (first | (with_reducible refine ImpB.mk fun hb => ?_) | (with_reducible refine ImpK.mk fun hK => ?_) | (with_reducible refine ImpF.mk fun hF => ?_) | (with_reducible refine ImpQ.mk fun hp => ?_) | (with_reducible refine AllE.mk fun p => ?_) | (with_reducible refine AllR.mk fun rest => ?_) | (with_reducible refine AllK.mk fun K => ?_))))); repeat' (with_reducible refine And.intro ?_ ?_))
  all_goals first | exact al_nl | exact absurd (hb.symm.trans al_nd) (by decide) | exact absurd (hb.symm.trans al_sd) (by decide) | exact absurd (hb.symm.trans al_d) (by decide) | (exfalso; simp at hb; done) | skip
  simp only [decide_true]
  (focus (refine ⟨_, _, Gh.refl, [], rfl, ?_⟩; (refine ⟨?_, ?_, ?_⟩ <;> simp only [go_sem, List.range, List.range.loop, List.nodup_cons, List.nodup_nil, List.mem_cons, List.not_mem_nil, or_false, or_self, Int.reduceToNat, Nat.min_eq_left, Nat.min_eq_right, Int.reducePow, Nat.reducePow, Int.reduceLE, Int.reduceLT, Int.reduceMul, Int.reduceAdd, Int.reduceSub, Int.reduceNeg, Bool.not_true, Bool.not_false, Bool.not_not, ↓reduceIte, Nat.reduceAdd, Nat.reduceSub, Nat.reduceMul, Nat.reduceEqDiff, reduceCtorEq, Nat.reduceLT, Nat.reduceLeDiff, Nat.reduceGT]); (try any_goals (refine ⟨?_, ?_⟩)); (try any_goals (with_reducible rfl))))
theorem c_alive {h : List Ch} {K : KT} (H : K (.bool true) h) : Does Try.prog 7 [] h K :=
  frame_pure b_alive br_nil (.inl rfl) (fun _ => rfl) H
abbrev i_alive := Ctr.mk (i := 0) (g := 7) @c_alive
attribute [instance] i_alive
end Go.V
