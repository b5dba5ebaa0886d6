/-
  files: New, usable, Name, Clone of bytes, Free.
  files: find, Get, Delete, Put.
-/
import Derived.Test.YtejgcmajhhebpaaPart08
import Derived.Test.YtejgcmajhhebpaaPart09
import Derived.Test.YtejgcmajhhebpaaPart07
set_option linter.unusedVariables false
set_option linter.unusedSimpArgs false
set_option maxRecDepth 100000
set_option maxHeartbeats 1000000
namespace Go.V
open Go.Proofs
abbrev Str := List UInt8
/-- a store: its limits, and what it holds -/
def St (m r : Int) (kv : List (Str × Str)) : List Ch := [.cells [.int .i64 m, .int .i64 r, .mp 1], .map .str .bytes kv]
attribute [go_sem] St
theorem b_fnew (m r : Int) : DoesK Try.prog 0 8 [.int .i64 m, .int .i64 r] [] (EndF 0 (.ptr 0 0) [.pack (St (min (max m 0) 256) (min (max r 0) 2147483648) [])]) := by
  refine DoesK.close ?_
  refine w_body (rs := [.tmp 4]) (tm := [.int .i64 m, .int .i64 r, .any, .any, .any, .any, .any, .any, .any, .any, .any, .any, .any, .any]) fn_8 rfl rfl rfl rfl fun R hR => ?_
  (all_goals (try ((first | (with_reducible refine wp_id ?_) | (with_reducible refine does_id ?_)); refine walk ?_; (repeat' (first | exact trivial | with_reducible refine And.intro ?_ ?_)); all_goals (repeat (first | (with_reducible refine ImpB.mk fun hb => ?_) | (with_reducible refine ImpK.mk fun hK => ?_) | (with_reducible refine ImpF.mk fun hF => ?_) | (with_reducible refine ImpQ.mk fun hp => ?_) | (with_reducible refine AllE.mk fun p => ?_) | (with_reducible refine AllR.mk fun rest => ?_) | (with_reducible refine AllK.mk fun K => ?_))))); repeat' (with_reducible refine And.intro ?_ ?_))
  (focus (refine ⟨_, _, gh_close (t := 1) (ts := [0]) (l := St (min (max m 0) 256) (min (max r 0) 2147483648) []) ⟨⟨_, _, rfl⟩, ?_, by simp⟩, [1], rfl, ?_⟩; all_goals (refine ⟨?_, ?_, ?_⟩ <;> simp only [go_sem, List.range, List.range.loop, List.nodup_cons, List.nodup_nil, List.mem_cons, List.not_mem_nil, or_false, or_self, Int.reduceToNat, Nat.min_eq_left, Nat.min_eq_right, Int.reducePow, Nat.reducePow, Int.reduceLE, Int.reduceLT, Int.reduceMul, Int.reduceAdd, Int.reduceSub, Int.reduceNeg, Bool.not_true, Bool.not_false, Bool.not_not, ↓reduceIte, Nat.reduceAdd, Nat.reduceSub, Nat.reduceMul, Nat.reduceEqDiff, reduceCtorEq, Nat.reduceLT, Nat.reduceLeDiff, Nat.reduceGT]); (try any_goals (refine ⟨?_, ?_⟩)); (try any_goals (with_reducible rfl))))
theorem c_fnew {h : List Ch} {K : KT} {m r : Int} (H : K (.ptr h.length 0) (h ++ [.pack (St (min (max m 0) 256) (min (max r 0) 2147483648) [])])) : Does Try.prog 8 [.int .i64 m, .int .i64 r] h K :=
  frame_new (b_fnew m r) (br_cons br_int (br_cons br_int br_nil)) (.inl rfl) (fun _ => rfl) rfl H
abbrev i_fnew := Ctr.mk (i := 0) (g := 8) @c_fnew
attribute [instance] i_fnew
theorem b_usable (m r : Int) (kv : List (Str × Str)) : DoesK Try.prog 1 24 [.ptr 0 0] [.pack (St m r kv)] (EndF 1 (.bool true) ([.pack (St m r kv)] ++ [])) := by
  refine DoesK.close ?_
  refine w_body (rs := [.tmp 2]) (tm := [.ptr 0 0, .any, .any, .any, .any, .any, .any, .any, .any, .any, .any, .any]) fn_24 rfl rfl rfl rfl fun R hR => ?_
  (all_goals (try ((first | (with_reducible refine wp_id ?_) | (with_reducible refine does_id ?_)); refine walk ?_; (repeat' (first | exact trivial | with_reducible refine And.intro ?_ ?_)); all_goals (repeat (first | (with_reducible refine ImpB.mk fun hb => ?_) | (with_reducible refine ImpK.mk fun hK => ?_) | (with_reducible refine ImpF.mk fun hF => ?_) | (with_reducible refine ImpQ.mk fun hp => ?_) | (with_reducible refine AllE.mk fun p => ?_) | (with_reducible refine AllR.mk fun rest => ?_) | (with_reducible refine AllK.mk fun K => ?_))))); repeat' (with_reducible refine And.intro ?_ ?_))
  (focus (refine ⟨_, _, gh_close (t := 0) (ts := [1]) (l := St m r kv) ⟨⟨_, _, rfl⟩, ?_, by simp⟩, [0], rfl, ?_⟩; all_goals (refine ⟨?_, ?_, ?_⟩ <;> simp only [go_sem, List.range, List.range.loop, List.nodup_cons, List.nodup_nil, List.mem_cons, List.not_mem_nil, or_false, or_self, Int.reduceToNat, Nat.min_eq_left, Nat.min_eq_right, Int.reducePow, Nat.reducePow, Int.reduceLE, Int.reduceLT, Int.reduceMul, Int.reduceAdd, Int.reduceSub, Int.reduceNeg, Bool.not_true, Bool.not_false, Bool.not_not, ↓reduceIte, Nat.reduceAdd, Nat.reduceSub, Nat.reduceMul, Nat.reduceEqDiff, reduceCtorEq, Nat.reduceLT, Nat.reduceLeDiff, Nat.reduceGT]); (try any_goals (refine ⟨?_, ?_⟩)); (try any_goals (with_reducible rfl))))
theorem c_usable {h : List Ch} {K : KT} {t : Nat} {m r : Int} {kv : List (Str × Str)} (H : K (.bool true) h) (o : hth h t = .pack (St m r kv)) : Does Try.prog 24 [.ptr t 0] h K :=
  frame_look (b_usable m r kv) o (by simp) (fitC_pack _) (br_cons (br_ptr rfl) br_nil) (.inl rfl) (fun _ => rfl) rfl H
abbrev i_usable := Ctr.mk (i := 0) (g := 24) @c_usable
attribute [instance] i_usable
def chrB (c : UInt8) : Bool := decide (33 ≤ c.toNat) && decide (c.toNat ≤ 126)
/-- a file's name -/
def nameB (s : Str) : Bool := s.all chrB && (decide (1 ≤ s.length) && decide (s.length ≤ 64))
theorem name_no {s : Str} {k : Nat} (hk : k < s.length) (h : chrB (s.getD k 0) = false) : nameB s = false := by
  unfold nameB
  rw [Bool.and_eq_false_iff]
  left
  rw [Bool.eq_false_iff]
  intro q
  rw [List.all_eq_true] at q
  have := q _ (List.getElem_mem hk)
  rw [List.getD_eq_getElem?_getD, List.getElem?_eq_getElem hk] at h
  simp only [Option.getD_some] at h
  rw [h] at this
  cases this
theorem chr_next {s : Str} {k : Nat} (hk : k < s.length) (h : (s.take k).all chrB = true) (h1 : chrB (s.getD k 0) = true) : (s.take (k + 1)).all chrB = true := by
  rw [List.take_succ_eq_append_getElem hk, List.all_append, h]
  rw [List.getD_eq_getElem?_getD, List.getElem?_eq_getElem hk] at h1
  simpa using h1
theorem name_len {s : Str} (h : s.all chrB = true) : nameB s = (decide (1 ≤ s.length) && decide (s.length ≤ 64)) := by
  unfold nameB
  rw [h, Bool.true_and]
theorem b_name (s : Str) (hs : s.length ≤ 9223372036854775807) : DoesK Try.prog 0 19 [.str s] [] (EndF 0 (.bool (nameB s)) []) := by
  refine DoesK.close ?_
  refine w_body (rs := [.tmp 2]) (tm := [.str s, .any, .any, .any, .any, .any, .any, .any, .any, .any, .any, .any, .any, .any, .any, .any, .any, .any, .any, .any, .any, .any, .any, .any, .any, .any, .any, .any]) fn_19 rfl rfl rfl rfl fun R hR => ?_
  (all_goals (try ((first | (with_reducible refine wp_id ?_) | (with_reducible refine does_id ?_)); refine walk ?_; (repeat' (first | exact trivial | with_reducible refine And.intro ?_ ?_)); all_goals (repeat (first | (with_reducible refine ImpB.mk fun hb => ?_) | (with_reducible refine ImpK.mk fun hK => ?_) | (with_reducible refine ImpF.mk fun hF => ?_) | (with_reducible refine ImpQ.mk fun hp => ?_) | (with_reducible refine AllE.mk fun p => ?_) | (with_reducible refine AllR.mk fun rest => ?_) | (with_reducible refine AllK.mk fun K => ?_))))); repeat' (with_reducible refine And.intro ?_ ?_))
  any_goals (refine w_loop (A := Nat) (fun k => k ≤ s.length ∧ (s.take k).all chrB = true) (fun k => s.length - k) (fun k => [(6, .int .i64 k)]) (fun _ => []) (0) (ws := ?ws1) (tk := ?tk1) ?hw1 ?ht1 ?hi ?h0 ?LH1; (case hw1 => simp only [go_sem, Int.reduceToNat, Nat.min_eq_left, Nat.min_eq_right, Int.reducePow, Nat.reducePow, Int.reduceLE, Int.reduceLT, Int.reduceMul, Int.reduceAdd, Int.reduceSub, Int.reduceNeg, Bool.not_true, Bool.not_false, Bool.not_not, ↓reduceIte, Nat.reduceAdd, Nat.reduceSub, Nat.reduceMul, Nat.reduceEqDiff, reduceCtorEq, Nat.reduceLT, Nat.reduceLeDiff, Nat.reduceGT]; exact rfl); (case ht1 => simp only [go_sem, Int.reduceToNat, Nat.min_eq_left, Nat.min_eq_right, Int.reducePow, Nat.reducePow, Int.reduceLE, Int.reduceLT, Int.reduceMul, Int.reduceAdd, Int.reduceSub, Int.reduceNeg, Bool.not_true, Bool.not_false, Bool.not_not, ↓reduceIte, Nat.reduceAdd, Nat.reduceSub, Nat.reduceMul, Nat.reduceEqDiff, reduceCtorEq, Nat.reduceLT, Nat.reduceLeDiff, Nat.reduceGT]; exact rfl); (case' LH1 => rintro k E t hx hE ht; simp only [go_sem] at ht; subst ht; simp only [go_sem]; try dsimp only at hx))
  case hi => exact ⟨Nat.zero_le _, rfl⟩
  case h0 => (focus (refine ⟨_, _, Gh.refl, [], rfl, ?_⟩; (refine ⟨?_, ?_, ?_⟩ <;> simp only [go_sem, List.range, List.range.loop, List.nodup_cons, List.nodup_nil, List.mem_cons, List.not_mem_nil, or_false, or_self, Int.reduceToNat, Nat.min_eq_left, Nat.min_eq_right, Int.reducePow, Nat.reducePow, Int.reduceLE, Int.reduceLT, Int.reduceMul, Int.reduceAdd, Int.reduceSub, Int.reduceNeg, Bool.not_true, Bool.not_false, Bool.not_not, ↓reduceIte, Nat.reduceAdd, Nat.reduceSub, Nat.reduceMul, Nat.reduceEqDiff, reduceCtorEq, Nat.reduceLT, Nat.reduceLeDiff, Nat.reduceGT]); (try any_goals (refine ⟨?_, ?_⟩)); (try any_goals (with_reducible rfl))))
  case LH1 =>
    by_cases hk : k < s.length
    · have hkd : decide ((k : Int) < s.length) = true := decide_eq_true (by omega)
      (have zx1 := @hkd; all_goals (try ((first | (with_reducible refine wp_id ?_) | (with_reducible refine does_id ?_)); refine walk ?_; (repeat' (first | exact trivial | with_reducible refine And.intro ?_ ?_)); all_goals (repeat (first | (with_reducible refine ImpB.mk fun hb => ?_) | (with_reducible refine ImpK.mk fun hK => ?_) | (with_reducible refine ImpF.mk fun hF => ?_) | (with_reducible refine ImpQ.mk fun hp => ?_) | (with_reducible refine AllE.mk fun p => ?_) | (with_reducible refine AllR.mk fun rest => ?_) | (with_reducible refine AllK.mk fun K => ?_))))); repeat' (with_reducible refine And.intro ?_ ?_))
      all_goals first | exact Int.natCast_nonneg _ | omega | skip
      · rw [name_no hk (by simp only [decide_eq_true_eq] at hb; unfold chrB; simp only [Bool.and_eq_false_iff, decide_eq_false_iff_not]; omega)]
        (focus (refine ⟨_, _, Gh.refl, [], rfl, ?_⟩; (refine ⟨?_, ?_, ?_⟩ <;> simp only [go_sem, List.range, List.range.loop, List.nodup_cons, List.nodup_nil, List.mem_cons, List.not_mem_nil, or_false, or_self, Int.reduceToNat, Nat.min_eq_left, Nat.min_eq_right, Int.reducePow, Nat.reducePow, Int.reduceLE, Int.reduceLT, Int.reduceMul, Int.reduceAdd, Int.reduceSub, Int.reduceNeg, Bool.not_true, Bool.not_false, Bool.not_not, ↓reduceIte, Nat.reduceAdd, Nat.reduceSub, Nat.reduceMul, Nat.reduceEqDiff, reduceCtorEq, Nat.reduceLT, Nat.reduceLeDiff, Nat.reduceGT]); (try any_goals (refine ⟨?_, ?_⟩)); (try any_goals (with_reducible rfl))))
      · rw [name_no hk (by simp only [decide_eq_true_eq] at hb; unfold chrB; simp only [Bool.and_eq_false_iff, decide_eq_false_iff_not]; omega)]
        (focus (refine ⟨_, _, Gh.refl, [], rfl, ?_⟩; (refine ⟨?_, ?_, ?_⟩ <;> simp only [go_sem, List.range, List.range.loop, List.nodup_cons, List.nodup_nil, List.mem_cons, List.not_mem_nil, or_false, or_self, Int.reduceToNat, Nat.min_eq_left, Nat.min_eq_right, Int.reducePow, Nat.reducePow, Int.reduceLE, Int.reduceLT, Int.reduceMul, Int.reduceAdd, Int.reduceSub, Int.reduceNeg, Bool.not_true, Bool.not_false, Bool.not_not, ↓reduceIte, Nat.reduceAdd, Nat.reduceSub, Nat.reduceMul, Nat.reduceEqDiff, reduceCtorEq, Nat.reduceLT, Nat.reduceLeDiff, Nat.reduceGT]); (try any_goals (refine ⟨?_, ?_⟩)); (try any_goals (with_reducible rfl))))
      · rename_i hb2
        refine ⟨k + 1, ⟨⟨by first | omega | (dsimp only; omega), chr_next hk hx.2 (by simp only [decide_eq_false_iff_not] at hb hb2; unfold chrB; simp only [Bool.and_eq_true, decide_eq_true_eq]; omega)⟩, by first | omega | (dsimp only; omega)⟩, ?m1⟩
        (focus (refine ⟨_, _, Gh.refl, [], rfl, ?_⟩; (refine ⟨?_, ?_, ?_⟩ <;> simp only [go_sem, List.range, List.range.loop, List.nodup_cons, List.nodup_nil, List.mem_cons, List.not_mem_nil, or_false, or_self, Int.reduceToNat, Nat.min_eq_left, Nat.min_eq_right, Int.reducePow, Nat.reducePow, Int.reduceLE, Int.reduceLT, Int.reduceMul, Int.reduceAdd, Int.reduceSub, Int.reduceNeg, Bool.not_true, Bool.not_false, Bool.not_not, ↓reduceIte, Nat.reduceAdd, Nat.reduceSub, Nat.reduceMul, Nat.reduceEqDiff, reduceCtorEq, Nat.reduceLT, Nat.reduceLeDiff, Nat.reduceGT]); (try any_goals (refine ⟨?_, ?_⟩)); (try any_goals (with_reducible rfl))))
        all_goals first | (first | with_reducible rfl | omega | ((simp (disch := omega) only [wrap_i64]); first | done | omega) | (simp only [List.append_assoc, List.cons_append, List.nil_append]; done)) | skip
    · have hkd : decide ((k : Int) < s.length) = false := decide_eq_false (by omega)
      have hal := hx.2
      rw [List.take_of_length_le (by omega)] at hal
      (have zx1 := @hkd; all_goals (try ((first | (with_reducible refine wp_id ?_) | (with_reducible refine does_id ?_)); refine walk ?_; (repeat' (first | exact trivial | with_reducible refine And.intro ?_ ?_)); all_goals (repeat (first | (with_reducible refine ImpB.mk fun hb => ?_) | (with_reducible refine ImpK.mk fun hK => ?_) | (with_reducible refine ImpF.mk fun hF => ?_) | (with_reducible refine ImpQ.mk fun hp => ?_) | (with_reducible refine AllE.mk fun p => ?_) | (with_reducible refine AllR.mk fun rest => ?_) | (with_reducible refine AllK.mk fun K => ?_))))); repeat' (with_reducible refine And.intro ?_ ?_))
      all_goals
        rw [name_len hal]
        (focus (refine ⟨_, _, Gh.refl, [], rfl, ?_⟩; (refine ⟨?_, ?_, ?_⟩ <;> simp only [go_sem, List.range, List.range.loop, List.nodup_cons, List.nodup_nil, List.mem_cons, List.not_mem_nil, or_false, or_self, Int.reduceToNat, Nat.min_eq_left, Nat.min_eq_right, Int.reducePow, Nat.reducePow, Int.reduceLE, Int.reduceLT, Int.reduceMul, Int.reduceAdd, Int.reduceSub, Int.reduceNeg, Bool.not_true, Bool.not_false, Bool.not_not, ↓reduceIte, Nat.reduceAdd, Nat.reduceSub, Nat.reduceMul, Nat.reduceEqDiff, reduceCtorEq, Nat.reduceLT, Nat.reduceLeDiff, Nat.reduceGT]); (try any_goals (refine ⟨?_, ?_⟩)); (try any_goals (with_reducible rfl))))
        rw [Bool.eq_iff_iff]
        simp only [decide_eq_true_eq, decide_eq_false_iff_not, Bool.and_eq_true, Bool.false_eq_true, false_iff, iff_false] at hb ⊢
        first | omega | trace_state
theorem name_bad {s : Str} (h : ¬ (1 ≤ s.length ∧ s.length ≤ 64)) : nameB s = false := by
  unfold nameB
  rw [Bool.eq_false_iff]
  intro q
  simp only [Bool.and_eq_true, decide_eq_true_eq] at q
  exact h q.2
theorem b_rname (s : Str) (hs : s.length ≤ 9223372036854775807) : DoesK Try.prog 0 20 [.str s] [] (EndF 0 (.bool (nameB s)) []) := by
  refine DoesK.close ?_
  by_cases hl : 1 ≤ s.length ∧ s.length ≤ 64
  · have q1 : decide ((s.length : Int) < 1) = false := decide_eq_false (by omega)
    have q2 : decide ((64 : Int) < s.length) = false := decide_eq_false (by omega)
    refine w_body (rs := [.tmp 2]) (tm := [.str s, .any, .any, .any, .any, .any, .any, .any, .any, .any, .any, .any, .any, .any, .any, .any, .any, .any, .any, .any, .any, .any, .any, .any, .any, .any, .any, .any]) fn_20 rfl rfl rfl rfl fun R hR => ?_
    (have zx1 := @q1; have zx2 := @q2; all_goals (try ((first | (with_reducible refine wp_id ?_) | (with_reducible refine does_id ?_)); refine walk ?_; (repeat' (first | exact trivial | with_reducible refine And.intro ?_ ?_)); all_goals (repeat (first | (with_reducible refine ImpB.mk fun hb => ?_) | (with_reducible refine ImpK.mk fun hK => ?_) | (with_reducible refine ImpF.mk fun hF => ?_) | (with_reducible refine ImpQ.mk fun hp => ?_) | (with_reducible refine AllE.mk fun p => ?_) | (with_reducible refine AllR.mk fun rest => ?_) | (with_reducible refine AllK.mk fun K => ?_))))); repeat' (with_reducible refine And.intro ?_ ?_))
    any_goals (refine w_loop (A := Nat) (fun k => k ≤ s.length ∧ (s.take k).all chrB = true) (fun k => s.length - k) (fun k => [(3, .int .i64 k)]) (fun _ => []) (0) (ws := ?ws2) (tk := ?tk2) ?hw2 ?ht2 ?hi ?h0 ?LH2; (case hw2 => simp only [go_sem, Int.reduceToNat, Nat.min_eq_left, Nat.min_eq_right, Int.reducePow, Nat.reducePow, Int.reduceLE, Int.reduceLT, Int.reduceMul, Int.reduceAdd, Int.reduceSub, Int.reduceNeg, Bool.not_true, Bool.not_false, Bool.not_not, ↓reduceIte, Nat.reduceAdd, Nat.reduceSub, Nat.reduceMul, Nat.reduceEqDiff, reduceCtorEq, Nat.reduceLT, Nat.reduceLeDiff, Nat.reduceGT]; exact rfl); (case ht2 => simp only [go_sem, Int.reduceToNat, Nat.min_eq_left, Nat.min_eq_right, Int.reducePow, Nat.reducePow, Int.reduceLE, Int.reduceLT, Int.reduceMul, Int.reduceAdd, Int.reduceSub, Int.reduceNeg, Bool.not_true, Bool.not_false, Bool.not_not, ↓reduceIte, Nat.reduceAdd, Nat.reduceSub, Nat.reduceMul, Nat.reduceEqDiff, reduceCtorEq, Nat.reduceLT, Nat.reduceLeDiff, Nat.reduceGT]; exact rfl); (case' LH2 => rintro k E t hx hE ht; simp only [go_sem] at ht; subst ht; simp only [go_sem]; try dsimp only at hx))
    case hi => exact ⟨Nat.zero_le _, rfl⟩
    case h0 => (focus (refine ⟨_, _, Gh.refl, [], rfl, ?_⟩; (refine ⟨?_, ?_, ?_⟩ <;> simp only [go_sem, List.range, List.range.loop, List.nodup_cons, List.nodup_nil, List.mem_cons, List.not_mem_nil, or_false, or_self, Int.reduceToNat, Nat.min_eq_left, Nat.min_eq_right, Int.reducePow, Nat.reducePow, Int.reduceLE, Int.reduceLT, Int.reduceMul, Int.reduceAdd, Int.reduceSub, Int.reduceNeg, Bool.not_true, Bool.not_false, Bool.not_not, ↓reduceIte, Nat.reduceAdd, Nat.reduceSub, Nat.reduceMul, Nat.reduceEqDiff, reduceCtorEq, Nat.reduceLT, Nat.reduceLeDiff, Nat.reduceGT]); (try any_goals (refine ⟨?_, ?_⟩)); (try any_goals (with_reducible rfl))))
    case LH2 =>
      by_cases hk : k < s.length
      · have hkd : decide ((k : Int) < s.length) = true := decide_eq_true (by omega)
        (have zx1 := @hkd; all_goals (try ((first | (with_reducible refine wp_id ?_) | (with_reducible refine does_id ?_)); refine walk ?_; (repeat' (first | exact trivial | with_reducible refine And.intro ?_ ?_)); all_goals (repeat (first | (with_reducible refine ImpB.mk fun hb => ?_) | (with_reducible refine ImpK.mk fun hK => ?_) | (with_reducible refine ImpF.mk fun hF => ?_) | (with_reducible refine ImpQ.mk fun hp => ?_) | (with_reducible refine AllE.mk fun p => ?_) | (with_reducible refine AllR.mk fun rest => ?_) | (with_reducible refine AllK.mk fun K => ?_))))); repeat' (with_reducible refine And.intro ?_ ?_))
        all_goals first | exact Int.natCast_nonneg _ | omega | skip
        · rw [name_no hk (by simp only [decide_eq_true_eq] at hb; unfold chrB; simp only [Bool.and_eq_false_iff, decide_eq_false_iff_not]; omega)]
          (focus (refine ⟨_, _, Gh.refl, [], rfl, ?_⟩; (refine ⟨?_, ?_, ?_⟩ <;> simp only [go_sem, List.range, List.range.loop, List.nodup_cons, List.nodup_nil, List.mem_cons, List.not_mem_nil, or_false, or_self, Int.reduceToNat, Nat.min_eq_left, Nat.min_eq_right, Int.reducePow, Nat.reducePow, Int.reduceLE, Int.reduceLT, Int.reduceMul, Int.reduceAdd, Int.reduceSub, Int.reduceNeg, Bool.not_true, Bool.not_false, Bool.not_not, ↓reduceIte, Nat.reduceAdd, Nat.reduceSub, Nat.reduceMul, Nat.reduceEqDiff, reduceCtorEq, Nat.reduceLT, Nat.reduceLeDiff, Nat.reduceGT]); (try any_goals (refine ⟨?_, ?_⟩)); (try any_goals (with_reducible rfl))))
        · rw [name_no hk (by simp only [decide_eq_true_eq] at hb; unfold chrB; simp only [Bool.and_eq_false_iff, decide_eq_false_iff_not]; omega)]
          (focus (refine ⟨_, _, Gh.refl, [], rfl, ?_⟩; (refine ⟨?_, ?_, ?_⟩ <;> simp only [go_sem, List.range, List.range.loop, List.nodup_cons, List.nodup_nil, List.mem_cons, List.not_mem_nil, or_false, or_self, Int.reduceToNat, Nat.min_eq_left, Nat.min_eq_right, Int.reducePow, Nat.reducePow, Int.reduceLE, Int.reduceLT, Int.reduceMul, Int.reduceAdd, Int.reduceSub, Int.reduceNeg, Bool.not_true, Bool.not_false, Bool.not_not, ↓reduceIte, Nat.reduceAdd, Nat.reduceSub, Nat.reduceMul, Nat.reduceEqDiff, reduceCtorEq, Nat.reduceLT, Nat.reduceLeDiff, Nat.reduceGT]); (try any_goals (refine ⟨?_, ?_⟩)); (try any_goals (with_reducible rfl))))
        · rename_i hb2
          refine ⟨k + 1, ⟨⟨by first | omega | (dsimp only; omega), chr_next hk hx.2 (by simp only [decide_eq_false_iff_not] at hb hb2; unfold chrB; simp only [Bool.and_eq_true, decide_eq_true_eq]; omega)⟩, by first | omega | (dsimp only; omega)⟩, ?m2⟩
          (focus (refine ⟨_, _, Gh.refl, [], rfl, ?_⟩; (refine ⟨?_, ?_, ?_⟩ <;> simp only [go_sem, List.range, List.range.loop, List.nodup_cons, List.nodup_nil, List.mem_cons, List.not_mem_nil, or_false, or_self, Int.reduceToNat, Nat.min_eq_left, Nat.min_eq_right, Int.reducePow, Nat.reducePow, Int.reduceLE, Int.reduceLT, Int.reduceMul, Int.reduceAdd, Int.reduceSub, Int.reduceNeg, Bool.not_true, Bool.not_false, Bool.not_not, ↓reduceIte, Nat.reduceAdd, Nat.reduceSub, Nat.reduceMul, Nat.reduceEqDiff, reduceCtorEq, Nat.reduceLT, Nat.reduceLeDiff, Nat.reduceGT]); (try any_goals (refine ⟨?_, ?_⟩)); (try any_goals (with_reducible rfl))))
          all_goals first | (first | with_reducible rfl | omega | ((simp (disch := omega) only [wrap_i64]); first | done | omega) | (simp only [List.append_assoc, List.cons_append, List.nil_append]; done)) | skip
      · have hkd : decide ((k : Int) < s.length) = false := decide_eq_false (by omega)
        have hal := hx.2
        rw [List.take_of_length_le (by omega)] at hal
        (have zx1 := @hkd; all_goals (try ((first | (with_reducible refine wp_id ?_) | (with_reducible refine does_id ?_)); refine walk ?_; (repeat' (first | exact trivial | with_reducible refine And.intro ?_ ?_)); all_goals (repeat (first | (with_reducible refine ImpB.mk fun hb => ?_) | (with_reducible refine ImpK.mk fun hK => ?_) | (with_reducible refine ImpF.mk fun hF => ?_) | (with_reducible refine ImpQ.mk fun hp => ?_) | (with_reducible refine AllE.mk fun p => ?_) | (with_reducible refine AllR.mk fun rest => ?_) | (with_reducible refine AllK.mk fun K => ?_))))); repeat' (with_reducible refine And.intro ?_ ?_))
        rw [name_len hal, decide_eq_true hl.1, decide_eq_true hl.2]
        (focus (refine ⟨_, _, Gh.refl, [], rfl, ?_⟩; (refine ⟨?_, ?_, ?_⟩ <;> simp only [go_sem, List.range, List.range.loop, List.nodup_cons, List.nodup_nil, List.mem_cons, List.not_mem_nil, or_false, or_self, Int.reduceToNat, Nat.min_eq_left, Nat.min_eq_right, Int.reducePow, Nat.reducePow, Int.reduceLE, Int.reduceLT, Int.reduceMul, Int.reduceAdd, Int.reduceSub, Int.reduceNeg, Bool.not_true, Bool.not_false, Bool.not_not, ↓reduceIte, Nat.reduceAdd, Nat.reduceSub, Nat.reduceMul, Nat.reduceEqDiff, reduceCtorEq, Nat.reduceLT, Nat.reduceLeDiff, Nat.reduceGT]); (try any_goals (refine ⟨?_, ?_⟩)); (try any_goals (with_reducible rfl))))
        all_goals rfl
  · rw [name_bad hl]
    refine w_body (rs := [.tmp 2]) (tm := [.str s, .any, .any, .any, .any, .any, .any, .any, .any, .any, .any, .any, .any, .any, .any, .any, .any, .any, .any, .any, .any, .any, .any, .any, .any, .any, .any, .any]) fn_20 rfl rfl rfl rfl fun R hR => ?_
    (all_goals (try ((first | (with_reducible refine wp_id ?_) | (with_reducible refine does_id ?_)); refine walk ?_; (repeat' (first | exact trivial | with_reducible refine And.intro ?_ ?_)); all_goals (repeat (first | (with_reducible refine ImpB.mk fun hb => ?_) | (with_reducible refine ImpK.mk fun hK => ?_) | (with_reducible refine ImpF.mk fun hF => ?_) | (with_reducible refine ImpQ.mk fun hp => ?_) | (with_reducible refine AllE.mk fun p => ?_) | (with_reducible refine AllR.mk fun rest => ?_) | (with_reducible refine AllK.mk fun K => ?_))))); repeat' (with_reducible refine And.intro ?_ ?_))
    all_goals first | (focus ((focus (refine ⟨_, _, Gh.refl, [], rfl, ?_⟩; (refine ⟨?_, ?_, ?_⟩ <;> simp only [go_sem, List.range, List.range.loop, List.nodup_cons, List.nodup_nil, List.mem_cons, List.not_mem_nil, or_false, or_self, Int.reduceToNat, Nat.min_eq_left, Nat.min_eq_right, Int.reducePow, Nat.reducePow, Int.reduceLE, Int.reduceLT, Int.reduceMul, Int.reduceAdd, Int.reduceSub, Int.reduceNeg, Bool.not_true, Bool.not_false, Bool.not_not, ↓reduceIte, Nat.reduceAdd, Nat.reduceSub, Nat.reduceMul, Nat.reduceEqDiff, reduceCtorEq, Nat.reduceLT, Nat.reduceLeDiff, Nat.reduceGT]); (try any_goals (refine ⟨?_, ?_⟩)); (try any_goals (with_reducible rfl)))); done)) | (exfalso; simp only [decide_eq_false_iff_not] at *; omega)
theorem c_rname {h : List Ch} {K : KT} {s : Str} (H : K (.bool (nameB s)) h) (s1 : s.length ≤ 9223372036854775807) : Does Try.prog 20 [.str s] h K :=
  frame_pure (b_rname s s1) (br_cons br_str br_nil) (.inr rfl) (fun _ => rfl) H
abbrev i_rname := Ctr.mk (i := 0) (g := 20) @c_rname
attribute [instance] i_rname
theorem c_name {h : List Ch} {K : KT} {s : Str} (H : K (.bool (nameB s)) h) (s1 : s.length ≤ 9223372036854775807) : Does Try.prog 19 [.str s] h K :=
  frame_pure (b_name s s1) (br_cons br_str br_nil) (.inr rfl) (fun _ => rfl) H
abbrev i_name := Ctr.mk (i := 0) (g := 19) @c_name
attribute [instance] i_name
theorem b_bclone (xs : Str) (hs : xs.length ≤ 1099511627776) : DoesK Try.prog 0 25 [.ro .byte xs] [] (EndF 0 (.ro .byte xs) []) := by
  refine DoesK.close ?_
  refine w_body (rs := [.tmp 2]) (tm := [.ro .byte xs, .any, .any, .any, .any, .any, .any, .any]) fn_25 rfl rfl rfl rfl fun R hR => ?_
  (all_goals (try ((first | (with_reducible refine wp_id ?_) | (with_reducible refine does_id ?_)); refine walk ?_; (repeat' (first | exact trivial | with_reducible refine And.intro ?_ ?_)); all_goals (repeat (first | (with_reducible refine ImpB.mk fun hb => ?_) | (with_reducible refine ImpK.mk fun hK => ?_) | (with_reducible refine ImpF.mk fun hF => ?_) | (with_reducible refine ImpQ.mk fun hp => ?_) | (with_reducible refine AllE.mk fun p => ?_) | (with_reducible refine AllR.mk fun rest => ?_) | (with_reducible refine AllK.mk fun K => ?_))))); repeat' (with_reducible refine And.intro ?_ ?_))
  · exact ⟨_, rfl⟩
  · (focus (refine ⟨_, _, Gh.refl, [], rfl, ?_⟩; (refine ⟨?_, ?_, ?_⟩ <;> simp only [go_sem, List.range, List.range.loop, List.nodup_cons, List.nodup_nil, List.mem_cons, List.not_mem_nil, or_false, or_self, Int.reduceToNat, Nat.min_eq_left, Nat.min_eq_right, Int.reducePow, Nat.reducePow, Int.reduceLE, Int.reduceLT, Int.reduceMul, Int.reduceAdd, Int.reduceSub, Int.reduceNeg, Bool.not_true, Bool.not_false, Bool.not_not, ↓reduceIte, Nat.reduceAdd, Nat.reduceSub, Nat.reduceMul, Nat.reduceEqDiff, reduceCtorEq, Nat.reduceLT, Nat.reduceLeDiff, Nat.reduceGT]); (try any_goals (refine ⟨?_, ?_⟩)); (try any_goals (with_reducible rfl))))
    exact hb
  · omega
  · refine ⟨_, _, gh_frz (t := 1) (e := .byte) (xs := xs) rfl ?f1 ?f2, [], rfl, ?ft⟩
    case' ft => (refine ⟨?_, ?_, ?_⟩ <;> simp only [go_sem, List.range, List.range.loop, List.nodup_cons, List.nodup_nil, List.mem_cons, List.not_mem_nil, or_false, or_self, Int.reduceToNat, Nat.min_eq_left, Nat.min_eq_right, Int.reducePow, Nat.reducePow, Int.reduceLE, Int.reduceLT, Int.reduceMul, Int.reduceAdd, Int.reduceSub, Int.reduceNeg, Bool.not_true, Bool.not_false, Bool.not_not, ↓reduceIte, Nat.reduceAdd, Nat.reduceSub, Nat.reduceMul, Nat.reduceEqDiff, reduceCtorEq, Nat.reduceLT, Nat.reduceLeDiff, Nat.reduceGT])
    case' f1 => simp only [go_sem, Int.reduceToNat, Nat.min_eq_left, Nat.min_eq_right, Int.reducePow, Nat.reducePow, Int.reduceLE, Int.reduceLT, Int.reduceMul, Int.reduceAdd, Int.reduceSub, Int.reduceNeg, Bool.not_true, Bool.not_false, Bool.not_not, ↓reduceIte, Nat.reduceAdd, Nat.reduceSub, Nat.reduceMul, Nat.reduceEqDiff, reduceCtorEq, Nat.reduceLT, Nat.reduceLeDiff, Nat.reduceGT]
    case' f2 => simp only [go_sem, Int.reduceToNat, Nat.min_eq_left, Nat.min_eq_right, Int.reducePow, Nat.reducePow, Int.reduceLE, Int.reduceLT, Int.reduceMul, Int.reduceAdd, Int.reduceSub, Int.reduceNeg, Bool.not_true, Bool.not_false, Bool.not_not, ↓reduceIte, Nat.reduceAdd, Nat.reduceSub, Nat.reduceMul, Nat.reduceEqDiff, reduceCtorEq, Nat.reduceLT, Nat.reduceLeDiff, Nat.reduceGT]
    all_goals first | exact Nat.le_refl _ | simp
theorem c_bclone {h : List Ch} {K : KT} {xs : Str} {a : AV} (H : K (.ro .byte xs) h) (q1 : isRO .byte xs a) (s1 : xs.length ≤ 1099511627776) : Does Try.prog 25 [a] h K :=
  frame_pure (b_bclone xs s1) (br_cons q1.br br_nil) (.inl (by rw [brTL, q1.brT]; rfl)) (fun _ => rfl) H
abbrev i_bclone := Ctr.mk (i := 0) (g := 25) @c_bclone
attribute [instance] i_bclone
/-- bytes in all -/
def sumL (l : List (Str × Str)) : Nat := (l.map fun p => p.2.length).sum
theorem sumL_perm {l m : List (Str × Str)} (h : l.Perm m) : sumL l = sumL m := (h.map _).sum_nat
theorem sumL_app (l m : List (Str × Str)) : sumL (l ++ m) = sumL l + sumL m := by
  unfold sumL
  rw [List.map_append, List.sum_append]
theorem b_free (m r : Int) (kv : List (Str × Str)) (hr : 0 ≤ r ∧ r ≤ 2147483648) (hk : (sumL kv : Int) ≤ r) : DoesK Try.prog 1 12 [.ptr 0 0] [.pack (St m r kv)] (EndF 1 (.int .i64 (r - sumL kv)) ([.pack (St m r kv)] ++ [])) := by
  refine DoesK.close ?_
  refine w_body (rs := [.tmp 2]) (tm := [.ptr 0 0, .any, .any, .any, .any, .any, .any, .any, .any, .any, .any, .any, .any, .any, .any, .any, .any, .any, .any, .any, .any, .any, .any, .any, .any, .any, .any]) fn_12 rfl rfl rfl rfl fun R hR => ?_
  (all_goals (try ((first | (with_reducible refine wp_id ?_) | (with_reducible refine does_id ?_)); refine walk ?_; (repeat' (first | exact trivial | with_reducible refine And.intro ?_ ?_)); all_goals (repeat (first | (with_reducible refine ImpB.mk fun hb => ?_) | (with_reducible refine ImpK.mk fun hK => ?_) | (with_reducible refine ImpF.mk fun hF => ?_) | (with_reducible refine ImpQ.mk fun hp => ?_) | (with_reducible refine AllE.mk fun p => ?_) | (with_reducible refine AllR.mk fun rest => ?_) | (with_reducible refine AllK.mk fun K => ?_))))); repeat' (with_reducible refine And.intro ?_ ?_))
  any_goals (refine w_loop (A := List (Str × Str) × List (Str × Str) × Option (Str × Str)) (fun p => (p.1 ++ p.2.1).Perm kv) (fun p => p.2.1.length) (fun p => [(3, .int .i64 (r - sumL p.1))]) (fun p => [(2, .iter 1 .str .bytes kv p.2.1 p.2.2)]) (([], kv, none)) (ws := ?ws3) (tk := ?tk3) ?hw3 ?ht3 ?hi ?h0 ?LH3; (case hw3 => simp only [go_sem, Int.reduceToNat, Nat.min_eq_left, Nat.min_eq_right, Int.reducePow, Nat.reducePow, Int.reduceLE, Int.reduceLT, Int.reduceMul, Int.reduceAdd, Int.reduceSub, Int.reduceNeg, Bool.not_true, Bool.not_false, Bool.not_not, ↓reduceIte, Nat.reduceAdd, Nat.reduceSub, Nat.reduceMul, Nat.reduceEqDiff, reduceCtorEq, Nat.reduceLT, Nat.reduceLeDiff, Nat.reduceGT]; exact rfl); (case ht3 => simp only [go_sem, Int.reduceToNat, Nat.min_eq_left, Nat.min_eq_right, Int.reducePow, Nat.reducePow, Int.reduceLE, Int.reduceLT, Int.reduceMul, Int.reduceAdd, Int.reduceSub, Int.reduceNeg, Bool.not_true, Bool.not_false, Bool.not_not, ↓reduceIte, Nat.reduceAdd, Nat.reduceSub, Nat.reduceMul, Nat.reduceEqDiff, reduceCtorEq, Nat.reduceLT, Nat.reduceLeDiff, Nat.reduceGT]; exact rfl); (case' LH3 => rintro ⟨done, todo, last⟩ E t hx hE ht; simp only [go_sem] at ht; subst ht; simp only [go_sem]; try dsimp only at hx))
  case hi => exact List.Perm.refl _
  case h0 =>
    (focus (refine ⟨_, _, Gh.refl, [0, 1, 2], rfl, ?_⟩; (refine ⟨?_, ?_, ?_⟩ <;> simp only [go_sem, List.range, List.range.loop, List.nodup_cons, List.nodup_nil, List.mem_cons, List.not_mem_nil, or_false, or_self, Int.reduceToNat, Nat.min_eq_left, Nat.min_eq_right, Int.reducePow, Nat.reducePow, Int.reduceLE, Int.reduceLT, Int.reduceMul, Int.reduceAdd, Int.reduceSub, Int.reduceNeg, Bool.not_true, Bool.not_false, Bool.not_not, ↓reduceIte, Nat.reduceAdd, Nat.reduceSub, Nat.reduceMul, Nat.reduceEqDiff, reduceCtorEq, Nat.reduceLT, Nat.reduceLeDiff, Nat.reduceGT]); (try any_goals (refine ⟨?_, ?_⟩)); (try any_goals (with_reducible rfl))))
    simp [sumL]
  case LH3 =>
    rcases todo with _ | ⟨q, t⟩
    · have hs : sumL done = sumL kv := sumL_perm (by rw [List.append_nil] at hx; exact hx)
      rw [hs]
      (all_goals (try ((first | (with_reducible refine wp_id ?_) | (with_reducible refine does_id ?_)); refine walk ?_; (repeat' (first | exact trivial | with_reducible refine And.intro ?_ ?_)); all_goals (repeat (first | (with_reducible refine ImpB.mk fun hb => ?_) | (with_reducible refine ImpK.mk fun hK => ?_) | (with_reducible refine ImpF.mk fun hF => ?_) | (with_reducible refine ImpQ.mk fun hp => ?_) | (with_reducible refine AllE.mk fun p => ?_) | (with_reducible refine AllR.mk fun rest => ?_) | (with_reducible refine AllK.mk fun K => ?_))))); repeat' (with_reducible refine And.intro ?_ ?_))
      (focus (refine ⟨_, _, gh_close (t := 0) (ts := [1]) (l := St m r kv) ⟨⟨_, _, rfl⟩, ?_, by simp⟩, [0], rfl, ?_⟩; all_goals (refine ⟨?_, ?_, ?_⟩ <;> simp only [go_sem, List.range, List.range.loop, List.nodup_cons, List.nodup_nil, List.mem_cons, List.not_mem_nil, or_false, or_self, Int.reduceToNat, Nat.min_eq_left, Nat.min_eq_right, Int.reducePow, Nat.reducePow, Int.reduceLE, Int.reduceLT, Int.reduceMul, Int.reduceAdd, Int.reduceSub, Int.reduceNeg, Bool.not_true, Bool.not_false, Bool.not_not, ↓reduceIte, Nat.reduceAdd, Nat.reduceSub, Nat.reduceMul, Nat.reduceEqDiff, reduceCtorEq, Nat.reduceLT, Nat.reduceLeDiff, Nat.reduceGT]); (try any_goals (refine ⟨?_, ?_⟩)); (try any_goals (with_reducible rfl))))
    · have hq := sumL_perm hx
      rw [sumL_app] at hq
      (all_goals (try ((first | (with_reducible refine wp_id ?_) | (with_reducible refine does_id ?_)); refine walk ?_; (repeat' (first | exact trivial | with_reducible refine And.intro ?_ ?_)); all_goals (repeat (first | (with_reducible refine ImpB.mk fun hb => ?_) | (with_reducible refine ImpK.mk fun hK => ?_) | (with_reducible refine ImpF.mk fun hF => ?_) | (with_reducible refine ImpQ.mk fun hp => ?_) | (with_reducible refine AllE.mk fun p => ?_) | (with_reducible refine AllR.mk fun rest => ?_) | (with_reducible refine AllK.mk fun K => ?_))))); repeat' (with_reducible refine And.intro ?_ ?_))
      · exact absurd hb (by simp)
      · have hq2 := sumL_perm hp
        have e1 : sumL (p :: rest) = p.2.length + sumL rest := by simp [sumL]
        have e2 : sumL (done ++ [p]) = sumL done + p.2.length := by rw [sumL_app]; simp [sumL]
        have w : IntKind.i64.wrap (r - sumL done - p.2.length) = r - sumL (done ++ [p]) := by rw [wrap_i64 _ (by omega) (by omega)]; omega
        have hl := hp.length_eq
        refine ⟨(done ++ [p], rest, some p), ⟨?m3, by simp only [List.length_cons] at hl ⊢; omega⟩, ?m4⟩
        case m3 =>
          refine List.Perm.trans ?_ hx
          simp only [List.append_assoc, List.cons_append, List.nil_append]
          exact hp.append_left done
        (focus (refine ⟨_, _, Gh.refl, [0, 1, 2], rfl, ?_⟩; (refine ⟨?_, ?_, ?_⟩ <;> simp only [go_sem, List.range, List.range.loop, List.nodup_cons, List.nodup_nil, List.mem_cons, List.not_mem_nil, or_false, or_self, Int.reduceToNat, Nat.min_eq_left, Nat.min_eq_right, Int.reducePow, Nat.reducePow, Int.reduceLE, Int.reduceLT, Int.reduceMul, Int.reduceAdd, Int.reduceSub, Int.reduceNeg, Bool.not_true, Bool.not_false, Bool.not_not, ↓reduceIte, Nat.reduceAdd, Nat.reduceSub, Nat.reduceMul, Nat.reduceEqDiff, reduceCtorEq, Nat.reduceLT, Nat.reduceLeDiff, Nat.reduceGT]); (try any_goals (refine ⟨?_, ?_⟩)); (try any_goals (with_reducible rfl))))
        exact w.symm
theorem c_free {h : List Ch} {K : KT} {t : Nat} {m r : Int} {kv : List (Str × Str)} (H : K (.int .i64 (r - sumL kv)) h) (o : hth h t = .pack (St m r kv)) (s1 : 0 ≤ r ∧ r ≤ 2147483648) (s2 : (sumL kv : Int) ≤ r) : Does Try.prog 12 [.ptr t 0] h K :=
  frame_look (b_free m r kv s1 s2) o (by simp) (fitC_pack _) (br_cons (br_ptr rfl) br_nil) (.inl rfl) (fun _ => rfl) rfl H
abbrev i_free := Ctr.mk (i := 0) (g := 12) @c_free
attribute [instance] i_free
end Go.V

set_option maxRecDepth 100000
set_option maxHeartbeats 1000000
namespace Go.V
open Go.Proofs
/-- what the map holds under a name -/
abbrev mgetS (kv : List (Str × Str)) (s : Str) : Option Str := mget (k := .str) (e := .bytes) kv s
abbrev msetS (kv : List (Str × Str)) (s d : Str) : List (Str × Str) := mset (k := .str) (e := .bytes) kv s d
abbrev mdelS (kv : List (Str × Str)) (s : Str) : List (Str × Str) := mdel (k := .str) (e := .bytes) kv s
/-- what find answers -/
def findE (kv : List (Str × Str)) (s : Str) : Str × Int := if nameB s then (match mgetS kv s with | some d => (d, 0) | none => ([], 8)) else ([], 1)
theorem findE_n {kv : List (Str × Str)} {s : Str} (h : nameB s = false) : findE kv s = ([], 1) := by unfold findE; rw [h]; rfl
theorem findE_0 {kv : List (Str × Str)} {s : Str} (h : nameB s = true) (hg : mgetS kv s = none) : findE kv s = ([], 8) := by unfold findE; rw [h, hg]; rfl
theorem findE_1 {kv : List (Str × Str)} {s d : Str} (h : nameB s = true) (hg : mgetS kv s = some d) : findE kv s = (d, 0) := by unfold findE; rw [h, hg]; rfl
theorem b_find (m r : Int) (kv : List (Str × Str)) (s : Str) (hs : s.length ≤ 9223372036854775807) : DoesK Try.prog 1 26 [.ptr 0 0, .str s] [.pack (St m r kv)] (EndF 1 (.tup [.ro .byte (findE kv s).1, .int .i64 (findE kv s).2]) ([.pack (St m r kv)] ++ [])) := by
  refine DoesK.close ?_
  cases hn : nameB s
  · rw [findE_n hn]
    refine w_body (rs := [.tmp 4, .tmp 5]) (tm := [.ptr 0 0, .str s, .any, .any, .any, .any, .any, .any, .any, .any, .any, .any, .any, .any, .any, .any, .any, .any, .any, .any, .any, .any, .any, .any, .any, .any, .any, .any]) fn_26 rfl rfl rfl rfl fun R hR => ?_
    (have zx1 := @hn; all_goals (try ((first | (with_reducible refine wp_id ?_) | (with_reducible refine does_id ?_)); refine walk ?_; (repeat' (first | exact trivial | with_reducible refine And.intro ?_ ?_)); all_goals (repeat (first | (with_reducible refine ImpB.mk fun hb => ?_) | (with_reducible refine ImpK.mk fun hK => ?_) | (with_reducible refine ImpF.mk fun hF => ?_) | (with_reducible refine ImpQ.mk fun hp => ?_) | (with_reducible refine AllE.mk fun p => ?_) | (with_reducible refine AllR.mk fun rest => ?_) | (with_reducible refine AllK.mk fun K => ?_))))); repeat' (with_reducible refine And.intro ?_ ?_))
    (focus (refine ⟨_, _, gh_close (t := 0) (ts := [1]) (l := St m r kv) ⟨⟨_, _, rfl⟩, ?_, by simp⟩, [0], rfl, ?_⟩; all_goals (refine ⟨?_, ?_, ?_⟩ <;> simp only [go_sem, List.range, List.range.loop, List.nodup_cons, List.nodup_nil, List.mem_cons, List.not_mem_nil, or_false, or_self, Int.reduceToNat, Nat.min_eq_left, Nat.min_eq_right, Int.reducePow, Nat.reducePow, Int.reduceLE, Int.reduceLT, Int.reduceMul, Int.reduceAdd, Int.reduceSub, Int.reduceNeg, Bool.not_true, Bool.not_false, Bool.not_not, ↓reduceIte, Nat.reduceAdd, Nat.reduceSub, Nat.reduceMul, Nat.reduceEqDiff, reduceCtorEq, Nat.reduceLT, Nat.reduceLeDiff, Nat.reduceGT]); (try any_goals (refine ⟨?_, ?_⟩)); (try any_goals (with_reducible rfl))))
  · cases hg : mgetS kv s with
    | none =>
      rw [findE_0 hn hg]
      refine w_body (rs := [.tmp 4, .tmp 5]) (tm := [.ptr 0 0, .str s, .any, .any, .any, .any, .any, .any, .any, .any, .any, .any, .any, .any, .any, .any, .any, .any, .any, .any, .any, .any, .any, .any, .any, .any, .any, .any]) fn_26 rfl rfl rfl rfl fun R hR => ?_
      (have zx1 := @hn; have zx2 := @hg; all_goals (try ((first | (with_reducible refine wp_id ?_) | (with_reducible refine does_id ?_)); refine walk ?_; (repeat' (first | exact trivial | with_reducible refine And.intro ?_ ?_)); all_goals (repeat (first | (with_reducible refine ImpB.mk fun hb => ?_) | (with_reducible refine ImpK.mk fun hK => ?_) | (with_reducible refine ImpF.mk fun hF => ?_) | (with_reducible refine ImpQ.mk fun hp => ?_) | (with_reducible refine AllE.mk fun p => ?_) | (with_reducible refine AllR.mk fun rest => ?_) | (with_reducible refine AllK.mk fun K => ?_))))); repeat' (with_reducible refine And.intro ?_ ?_))
      (focus (refine ⟨_, _, gh_close (t := 0) (ts := [1]) (l := St m r kv) ⟨⟨_, _, rfl⟩, ?_, by simp⟩, [0], rfl, ?_⟩; all_goals (refine ⟨?_, ?_, ?_⟩ <;> simp only [go_sem, List.range, List.range.loop, List.nodup_cons, List.nodup_nil, List.mem_cons, List.not_mem_nil, or_false, or_self, Int.reduceToNat, Nat.min_eq_left, Nat.min_eq_right, Int.reducePow, Nat.reducePow, Int.reduceLE, Int.reduceLT, Int.reduceMul, Int.reduceAdd, Int.reduceSub, Int.reduceNeg, Bool.not_true, Bool.not_false, Bool.not_not, ↓reduceIte, Nat.reduceAdd, Nat.reduceSub, Nat.reduceMul, Nat.reduceEqDiff, reduceCtorEq, Nat.reduceLT, Nat.reduceLeDiff, Nat.reduceGT]); (try any_goals (refine ⟨?_, ?_⟩)); (try any_goals (with_reducible rfl))))
    | some d =>
      rw [findE_1 hn hg]
      refine w_body (rs := [.tmp 4, .tmp 5]) (tm := [.ptr 0 0, .str s, .any, .any, .any, .any, .any, .any, .any, .any, .any, .any, .any, .any, .any, .any, .any, .any, .any, .any, .any, .any, .any, .any, .any, .any, .any, .any]) fn_26 rfl rfl rfl rfl fun R hR => ?_
      (have zx1 := @hn; have zx2 := @hg; all_goals (try ((first | (with_reducible refine wp_id ?_) | (with_reducible refine does_id ?_)); refine walk ?_; (repeat' (first | exact trivial | with_reducible refine And.intro ?_ ?_)); all_goals (repeat (first | (with_reducible refine ImpB.mk fun hb => ?_) | (with_reducible refine ImpK.mk fun hK => ?_) | (with_reducible refine ImpF.mk fun hF => ?_) | (with_reducible refine ImpQ.mk fun hp => ?_) | (with_reducible refine AllE.mk fun p => ?_) | (with_reducible refine AllR.mk fun rest => ?_) | (with_reducible refine AllK.mk fun K => ?_))))); repeat' (with_reducible refine And.intro ?_ ?_))
      (focus (refine ⟨_, _, gh_close (t := 0) (ts := [1]) (l := St m r kv) ⟨⟨_, _, rfl⟩, ?_, by simp⟩, [0], rfl, ?_⟩; all_goals (refine ⟨?_, ?_, ?_⟩ <;> simp only [go_sem, List.range, List.range.loop, List.nodup_cons, List.nodup_nil, List.mem_cons, List.not_mem_nil, or_false, or_self, Int.reduceToNat, Nat.min_eq_left, Nat.min_eq_right, Int.reducePow, Nat.reducePow, Int.reduceLE, Int.reduceLT, Int.reduceMul, Int.reduceAdd, Int.reduceSub, Int.reduceNeg, Bool.not_true, Bool.not_false, Bool.not_not, ↓reduceIte, Nat.reduceAdd, Nat.reduceSub, Nat.reduceMul, Nat.reduceEqDiff, reduceCtorEq, Nat.reduceLT, Nat.reduceLeDiff, Nat.reduceGT]); (try any_goals (refine ⟨?_, ?_⟩)); (try any_goals (with_reducible rfl))))
theorem c_find {h : List Ch} {K : KT} {t : Nat} {m r : Int} {kv : List (Str × Str)} {s d : Str} {n : Int} (H : K (.tup [.ro .byte d, .int .i64 n]) h) (o : hth h t = .pack (St m r kv)) (e : findE kv s = (d, n)) (s1 : s.length ≤ 9223372036854775807) : Does Try.prog 26 [.ptr t 0, .str s] h K := by
  have hb := b_find m r kv s s1
  rw [e] at hb
  exact frame_look hb o (by simp) (fitC_pack _) (br_cons (br_ptr rfl) (br_cons br_str br_nil)) (.inl rfl) (fun _ => rfl) rfl H
abbrev i_find := Ctr.mk (i := 0) (g := 26) @c_find
attribute [instance] i_find
theorem b_get (m r : Int) (kv : List (Str × Str)) (s : Str) (hs : s.length ≤ 9223372036854775807) (hl : (findE kv s).1.length ≤ 1099511627776) : DoesK Try.prog 1 11 [.ptr 0 0, .str s] [.pack (St m r kv)] (EndF 1 (.tup [.ro .byte (findE kv s).1, .int .i64 (findE kv s).2]) ([.pack (St m r kv)] ++ [])) := by
  refine DoesK.close ?_
  rcases e : findE kv s with ⟨d, n⟩
  rw [e] at hl
  replace hl : d.length ≤ 1099511627776 := hl
  refine w_body (rs := [.tmp 4, .tmp 5]) (tm := [.ptr 0 0, .str s, .any, .any, .any, .any, .any, .any, .any, .any, .any, .any, .any, .any, .any, .any, .any]) fn_11 rfl rfl rfl rfl fun R hR => ?_
  (all_goals (try ((first | (with_reducible refine wp_id ?_) | (with_reducible refine does_id ?_)); refine walk ?_; (repeat' (first | exact trivial | with_reducible refine And.intro ?_ ?_)); all_goals (repeat (first | (with_reducible refine ImpB.mk fun hb => ?_) | (with_reducible refine ImpK.mk fun hK => ?_) | (with_reducible refine ImpF.mk fun hF => ?_) | (with_reducible refine ImpQ.mk fun hp => ?_) | (with_reducible refine AllE.mk fun p => ?_) | (with_reducible refine AllR.mk fun rest => ?_) | (with_reducible refine AllK.mk fun K => ?_))))); repeat' (with_reducible refine And.intro ?_ ?_))
  (focus (refine ⟨_, _, Gh.refl, [0], rfl, ?_⟩; (refine ⟨?_, ?_, ?_⟩ <;> simp only [go_sem, List.range, List.range.loop, List.nodup_cons, List.nodup_nil, List.mem_cons, List.not_mem_nil, or_false, or_self, Int.reduceToNat, Nat.min_eq_left, Nat.min_eq_right, Int.reducePow, Nat.reducePow, Int.reduceLE, Int.reduceLT, Int.reduceMul, Int.reduceAdd, Int.reduceSub, Int.reduceNeg, Bool.not_true, Bool.not_false, Bool.not_not, ↓reduceIte, Nat.reduceAdd, Nat.reduceSub, Nat.reduceMul, Nat.reduceEqDiff, reduceCtorEq, Nat.reduceLT, Nat.reduceLeDiff, Nat.reduceGT]); (try any_goals (refine ⟨?_, ?_⟩)); (try any_goals (with_reducible rfl))))
theorem c_get {h : List Ch} {K : KT} {t : Nat} {m r : Int} {kv : List (Str × Str)} {s d : Str} {n : Int} (H : K (.tup [.ro .byte d, .int .i64 n]) h) (o : hth h t = .pack (St m r kv)) (e : findE kv s = (d, n)) (s1 : s.length ≤ 9223372036854775807) (s2 : d.length ≤ 1099511627776) : Does Try.prog 11 [.ptr t 0, .str s] h K := by
  have hb := b_get m r kv s s1 (by rw [e]; exact s2)
  rw [e] at hb
  exact frame_look hb o (by simp) (fitC_pack _) (br_cons (br_ptr rfl) (br_cons br_str br_nil)) (.inl rfl) (fun _ => rfl) rfl H
abbrev i_get := Ctr.mk (i := 0) (g := 11) @c_get
attribute [instance] i_get
theorem b_del (m r : Int) (kv : List (Str × Str)) (s : Str) (hs : s.length ≤ 9223372036854775807) : DoesK Try.prog 1 10 [.ptr 0 0, .str s] [.pack (St m r kv)] (EndF 1 (.int .i64 (findE kv s).2) ([.pack (St m r (if (findE kv s).2 = 0 then mdelS kv s else kv))] ++ [])) := by
  refine DoesK.close ?_
  rcases e : findE kv s with ⟨d, n⟩
  by_cases hn : n = 0
  · subst hn
    refine w_body (rs := [.tmp 4]) (tm := [.ptr 0 0, .str s, .any, .any, .any, .any, .any, .any, .any, .any, .any, .any, .any, .any, .any, .any, .any, .any, .any, .any, .any]) fn_10 rfl rfl rfl rfl fun R hR => ?_
    (all_goals (try ((first | (with_reducible refine wp_id ?_) | (with_reducible refine does_id ?_)); refine walk ?_; (repeat' (first | exact trivial | with_reducible refine And.intro ?_ ?_)); all_goals (repeat (first | (with_reducible refine ImpB.mk fun hb => ?_) | (with_reducible refine ImpK.mk fun hK => ?_) | (with_reducible refine ImpF.mk fun hF => ?_) | (with_reducible refine ImpQ.mk fun hp => ?_) | (with_reducible refine AllE.mk fun p => ?_) | (with_reducible refine AllR.mk fun rest => ?_) | (with_reducible refine AllK.mk fun K => ?_))))); repeat' (with_reducible refine And.intro ?_ ?_))
    · (focus (refine ⟨_, _, gh_close (t := 0) (ts := [1]) (l := St m r (mdelS kv s)) ⟨⟨_, _, rfl⟩, ?_, by simp⟩, [0], rfl, ?_⟩; all_goals (refine ⟨?_, ?_, ?_⟩ <;> simp only [go_sem, List.range, List.range.loop, List.nodup_cons, List.nodup_nil, List.mem_cons, List.not_mem_nil, or_false, or_self, Int.reduceToNat, Nat.min_eq_left, Nat.min_eq_right, Int.reducePow, Nat.reducePow, Int.reduceLE, Int.reduceLT, Int.reduceMul, Int.reduceAdd, Int.reduceSub, Int.reduceNeg, Bool.not_true, Bool.not_false, Bool.not_not, ↓reduceIte, Nat.reduceAdd, Nat.reduceSub, Nat.reduceMul, Nat.reduceEqDiff, reduceCtorEq, Nat.reduceLT, Nat.reduceLeDiff, Nat.reduceGT]); (try any_goals (refine ⟨?_, ?_⟩)); (try any_goals (with_reducible rfl))))
      all_goals first | rfl | exact List.Perm.refl _
    · exfalso; simp at hb
  · have hnd : decide (n = 0) = false := decide_eq_false hn
    simp only [if_neg hn]
    refine w_body (rs := [.tmp 4]) (tm := [.ptr 0 0, .str s, .any, .any, .any, .any, .any, .any, .any, .any, .any, .any, .any, .any, .any, .any, .any, .any, .any, .any, .any]) fn_10 rfl rfl rfl rfl fun R hR => ?_
    (have zx1 := @hnd; all_goals (try ((first | (with_reducible refine wp_id ?_) | (with_reducible refine does_id ?_)); refine walk ?_; (repeat' (first | exact trivial | with_reducible refine And.intro ?_ ?_)); all_goals (repeat (first | (with_reducible refine ImpB.mk fun hb => ?_) | (with_reducible refine ImpK.mk fun hK => ?_) | (with_reducible refine ImpF.mk fun hF => ?_) | (with_reducible refine ImpQ.mk fun hp => ?_) | (with_reducible refine AllE.mk fun p => ?_) | (with_reducible refine AllR.mk fun rest => ?_) | (with_reducible refine AllK.mk fun K => ?_))))); repeat' (with_reducible refine And.intro ?_ ?_))
    (focus (refine ⟨_, _, Gh.refl, [0], rfl, ?_⟩; (refine ⟨?_, ?_, ?_⟩ <;> simp only [go_sem, List.range, List.range.loop, List.nodup_cons, List.nodup_nil, List.mem_cons, List.not_mem_nil, or_false, or_self, Int.reduceToNat, Nat.min_eq_left, Nat.min_eq_right, Int.reducePow, Nat.reducePow, Int.reduceLE, Int.reduceLT, Int.reduceMul, Int.reduceAdd, Int.reduceSub, Int.reduceNeg, Bool.not_true, Bool.not_false, Bool.not_not, ↓reduceIte, Nat.reduceAdd, Nat.reduceSub, Nat.reduceMul, Nat.reduceEqDiff, reduceCtorEq, Nat.reduceLT, Nat.reduceLeDiff, Nat.reduceGT]); (try any_goals (refine ⟨?_, ?_⟩)); (try any_goals (with_reducible rfl))))
theorem c_del {h : List Ch} {K : KT} {t : Nat} {m r : Int} {kv : List (Str × Str)} {s d : Str} {n : Int} (H : K (.int .i64 n) (h.set t (.pack (St m r (if n = 0 then mdelS kv s else kv))))) (o : hth h t = .pack (St m r kv)) (e : findE kv s = (d, n)) (s1 : s.length ≤ 9223372036854775807) : Does Try.prog 10 [.ptr t 0, .str s] h K := by
  have hb := b_del m r kv s s1
  rw [e] at hb
  exact frame_obj0 hb o (by simp) (fitC_pack _) (br_cons (br_ptr rfl) (br_cons br_str br_nil)) (.inl rfl) (fun _ => rfl) rfl H
abbrev i_del := Ctr.mk (i := 0) (g := 10) @c_del
attribute [instance] i_del
theorem shut_st {h : List Ch} {t g : Nat} {m r : Int} {kv : List (Str × Str)} (o : hth h t = .cells [.int .i64 m, .int .i64 r, .mp g]) (o1 : hth h g = .map .str .bytes kv) : Shut h t [g] (St m r kv) := by
  have h1 : t < h.length := hth_lt (by rw [o]; simp)
  have h2 : g < h.length := hth_lt (by rw [o1]; simp)
  have hne : t ≠ g := fun e => by subst e; rw [o] at o1; cases o1
  refine ⟨⟨_, _, rfl⟩, ?_, by simp [hne]⟩
  simp only [St, fitHs, o, o1, fitC, asM_self]
  exact ⟨h1, by simp [fitL, fitA], h2, List.Perm.refl _, trivial⟩
theorem c_free_o {h : List Ch} {K : KT} {t g : Nat} {m r : Int} {kv : List (Str × Str)} (H : K (.int .i64 (r - sumL kv)) (closeH h t [g] (St m r kv))) (o : hth h t = .cells [.int .i64 m, .int .i64 r, .mp g]) (o1 : hth h g = .map .str .bytes kv) (s1 : 0 ≤ r ∧ r ≤ 2147483648) (s2 : (sumL kv : Int) ≤ r) : Does Try.prog 12 [.ptr t 0] h K := by
  refine Does.ghost (gh_close (shut_st o o1)) (c_free (m := m) H ?_ s1 s2)
  have h1 : t < h.length := hth_lt (by rw [o]; simp)
  unfold closeH
  rw [hth_set_eq (by rw [goneH_len]; exact h1)]
abbrev i_free_o := Ctr.mk (i := 1) (g := 12) @c_free_o
attribute [instance] i_free_o
/-- what Put answers, and what the map holds then -/
def putE (m r : Int) (kv : List (Str × Str)) (s d : Str) : Int :=
  if nameB s then (if 65536 < d.length then 6 else if ((mgetS kv s) = none ∧ (kv.length : Int) = m) ∨ r - sumL kv + ((mgetS kv s).getD []).length < d.length then 7 else 0) else 1
def putM (m r : Int) (kv : List (Str × Str)) (s d : Str) : List (Str × Str) := if putE m r kv s d = 0 then msetS kv s d else kv
theorem sumL_get {kv : List (Str × Str)} {s d : Str} (h : mgetS kv s = some d) : d.length ≤ sumL kv := by
  induction kv with
  | nil => cases h
  | cons p kv ih =>
    have e : sumL (p :: kv) = p.2.length + sumL kv := by simp [sumL]
    rw [e]
    unfold mgetS at h ih
    by_cases hp : p.1 = s
    · simp only [mget, if_pos hp, Option.some.injEq] at h
      rw [← h]; exact Nat.le_add_right _ _
    · simp only [mget, if_neg hp] at h
      have := ih h
      omega
theorem b_put (m r : Int) (kv : List (Str × Str)) (s d : Str) (hs : s.length ≤ 9223372036854775807) (hd : d.length ≤ 9223372036854775807) (hr : 0 ≤ r ∧ r ≤ 2147483648) (hk : (sumL kv : Int) ≤ r) : DoesK Try.prog 1 9 [.ptr 0 0, .str s, .ro .byte d] [.pack (St m r kv)] (EndF 1 (.int .i64 (putE m r kv s d)) ([.pack (St m r (putM m r kv s d))] ++ [])) := by
  refine DoesK.close ?_
  cases hn : nameB s
  · have h0 : putE m r kv s d = 1 := by unfold putE; rw [if_neg (by rw [hn]; decide)]
    have h1 : putM m r kv s d = kv := by unfold putM; rw [if_neg (by rw [h0]; decide)]
    rw [h0, h1]
    cases hg : mgetS kv s
    all_goals
      refine w_body (rs := [.tmp 6]) (tm := [.ptr 0 0, .str s, .ro .byte d, .any, .any, .any, .any, .any, .any, .any, .any, .any, .any, .any, .any, .any, .any, .any, .any, .any, .any, .any, .any, .any, .any, .any, .any, .any, .any, .any, .any, .any, .any, .any, .any, .any, .any, .any, .any, .any, .any, .any, .any, .any, .any, .any, .any, .any, .any, .any, .any, .any, .any, .any, .any, .any, .any, .any, .any]) fn_9 rfl rfl rfl rfl fun R hR => ?_
      (have zx1 := @hn; have zx2 := @hg; all_goals (try ((first | (with_reducible refine wp_id ?_) | (with_reducible refine does_id ?_)); refine walk ?_; (repeat' (first | exact trivial | with_reducible refine And.intro ?_ ?_)); all_goals (repeat (first | (with_reducible refine ImpB.mk fun hb => ?_) | (with_reducible refine ImpK.mk fun hK => ?_) | (with_reducible refine ImpF.mk fun hF => ?_) | (with_reducible refine ImpQ.mk fun hp => ?_) | (with_reducible refine AllE.mk fun p => ?_) | (with_reducible refine AllR.mk fun rest => ?_) | (with_reducible refine AllK.mk fun K => ?_))))); repeat' (with_reducible refine And.intro ?_ ?_))
      (focus (refine ⟨_, _, gh_close (t := 0) (ts := [1]) (l := St m r kv) ⟨⟨_, _, rfl⟩, ?_, by simp⟩, [0], rfl, ?_⟩; all_goals (refine ⟨?_, ?_, ?_⟩ <;> simp only [go_sem, List.range, List.range.loop, List.nodup_cons, List.nodup_nil, List.mem_cons, List.not_mem_nil, or_false, or_self, Int.reduceToNat, Nat.min_eq_left, Nat.min_eq_right, Int.reducePow, Nat.reducePow, Int.reduceLE, Int.reduceLT, Int.reduceMul, Int.reduceAdd, Int.reduceSub, Int.reduceNeg, Bool.not_true, Bool.not_false, Bool.not_not, ↓reduceIte, Nat.reduceAdd, Nat.reduceSub, Nat.reduceMul, Nat.reduceEqDiff, reduceCtorEq, Nat.reduceLT, Nat.reduceLeDiff, Nat.reduceGT]); (try any_goals (refine ⟨?_, ?_⟩)); (try any_goals (with_reducible rfl))))
  · by_cases hl : 65536 < d.length
    · have hld : decide ((65536 : Int) < d.length) = true := decide_eq_true (by omega)
      have h0 : putE m r kv s d = 6 := by unfold putE; rw [if_pos hn, if_pos hl]
      have h1 : putM m r kv s d = kv := by unfold putM; rw [if_neg (by rw [h0]; decide)]
      rw [h0, h1]
      cases hg : mgetS kv s
      all_goals
        refine w_body (rs := [.tmp 6]) (tm := [.ptr 0 0, .str s, .ro .byte d, .any, .any, .any, .any, .any, .any, .any, .any, .any, .any, .any, .any, .any, .any, .any, .any, .any, .any, .any, .any, .any, .any, .any, .any, .any, .any, .any, .any, .any, .any, .any, .any, .any, .any, .any, .any, .any, .any, .any, .any, .any, .any, .any, .any, .any, .any, .any, .any, .any, .any, .any, .any, .any, .any, .any, .any]) fn_9 rfl rfl rfl rfl fun R hR => ?_
        (have zx1 := @hn; have zx2 := @hg; have zx3 := @hld; all_goals (try ((first | (with_reducible refine wp_id ?_) | (with_reducible refine does_id ?_)); refine walk ?_; (repeat' (first | exact trivial | with_reducible refine And.intro ?_ ?_)); all_goals (repeat (first | (with_reducible refine ImpB.mk fun hb => ?_) | (with_reducible refine ImpK.mk fun hK => ?_) | (with_reducible refine ImpF.mk fun hF => ?_) | (with_reducible refine ImpQ.mk fun hp => ?_) | (with_reducible refine AllE.mk fun p => ?_) | (with_reducible refine AllR.mk fun rest => ?_) | (with_reducible refine AllK.mk fun K => ?_))))); repeat' (with_reducible refine And.intro ?_ ?_))
        (focus (refine ⟨_, _, gh_close (t := 0) (ts := [1]) (l := St m r kv) ⟨⟨_, _, rfl⟩, ?_, by simp⟩, [0], rfl, ?_⟩; all_goals (refine ⟨?_, ?_, ?_⟩ <;> simp only [go_sem, List.range, List.range.loop, List.nodup_cons, List.nodup_nil, List.mem_cons, List.not_mem_nil, or_false, or_self, Int.reduceToNat, Nat.min_eq_left, Nat.min_eq_right, Int.reducePow, Nat.reducePow, Int.reduceLE, Int.reduceLT, Int.reduceMul, Int.reduceAdd, Int.reduceSub, Int.reduceNeg, Bool.not_true, Bool.not_false, Bool.not_not, ↓reduceIte, Nat.reduceAdd, Nat.reduceSub, Nat.reduceMul, Nat.reduceEqDiff, reduceCtorEq, Nat.reduceLT, Nat.reduceLeDiff, Nat.reduceGT]); (try any_goals (refine ⟨?_, ?_⟩)); (try any_goals (with_reducible rfl))))
    · have hld : decide ((65536 : Int) < d.length) = false := decide_eq_false (by omega)
      cases hg : mgetS kv s with
      | none =>
        have h2 : putE m r kv s d = if (kv.length : Int) = m ∨ r - sumL kv < d.length then 7 else 0 := by
          unfold putE
          rw [if_pos hn, if_neg hl, hg]
          simp
        have w1 : IntKind.i64.wrap (r - sumL kv + 0) = r - sumL kv := by rw [wrap_i64 _ (by omega) (by omega)]; omega
        by_cases hc : (kv.length : Int) = m
        · have hcd : decide ((kv.length : Int) = m) = true := decide_eq_true hc
          have h3 : putE m r kv s d = 7 := by rw [h2, if_pos (.inl hc)]
          have h1 : putM m r kv s d = kv := by unfold putM; rw [if_neg (by rw [h3]; decide)]
          rw [h3, h1]
          refine w_body (rs := [.tmp 6]) (tm := [.ptr 0 0, .str s, .ro .byte d, .any, .any, .any, .any, .any, .any, .any, .any, .any, .any, .any, .any, .any, .any, .any, .any, .any, .any, .any, .any, .any, .any, .any, .any, .any, .any, .any, .any, .any, .any, .any, .any, .any, .any, .any, .any, .any, .any, .any, .any, .any, .any, .any, .any, .any, .any, .any, .any, .any, .any, .any, .any, .any, .any, .any, .any]) fn_9 rfl rfl rfl rfl fun R hR => ?_
          (have zx1 := @hn; have zx2 := @hg; have zx3 := @hld; have zx4 := @hcd; all_goals (try ((first | (with_reducible refine wp_id ?_) | (with_reducible refine does_id ?_)); refine walk ?_; (repeat' (first | exact trivial | with_reducible refine And.intro ?_ ?_)); all_goals (repeat (first | (with_reducible refine ImpB.mk fun hb => ?_) | (with_reducible refine ImpK.mk fun hK => ?_) | (with_reducible refine ImpF.mk fun hF => ?_) | (with_reducible refine ImpQ.mk fun hp => ?_) | (with_reducible refine AllE.mk fun p => ?_) | (with_reducible refine AllR.mk fun rest => ?_) | (with_reducible refine AllK.mk fun K => ?_))))); repeat' (with_reducible refine And.intro ?_ ?_))
          (focus (refine ⟨_, _, gh_close (t := 0) (ts := [1]) (l := St m r kv) ⟨⟨_, _, rfl⟩, ?_, by simp⟩, [0], rfl, ?_⟩; all_goals (refine ⟨?_, ?_, ?_⟩ <;> simp only [go_sem, List.range, List.range.loop, List.nodup_cons, List.nodup_nil, List.mem_cons, List.not_mem_nil, or_false, or_self, Int.reduceToNat, Nat.min_eq_left, Nat.min_eq_right, Int.reducePow, Nat.reducePow, Int.reduceLE, Int.reduceLT, Int.reduceMul, Int.reduceAdd, Int.reduceSub, Int.reduceNeg, Bool.not_true, Bool.not_false, Bool.not_not, ↓reduceIte, Nat.reduceAdd, Nat.reduceSub, Nat.reduceMul, Nat.reduceEqDiff, reduceCtorEq, Nat.reduceLT, Nat.reduceLeDiff, Nat.reduceGT]); (try any_goals (refine ⟨?_, ?_⟩)); (try any_goals (with_reducible rfl))))
        · have hcd : decide ((kv.length : Int) = m) = false := decide_eq_false hc
          by_cases hf : r - sumL kv < d.length
          · have hfd : decide (r - sumL kv < (d.length : Int)) = true := decide_eq_true hf
            have h3 : putE m r kv s d = 7 := by rw [h2, if_pos (.inr hf)]
            have h1 : putM m r kv s d = kv := by unfold putM; rw [if_neg (by rw [h3]; decide)]
            rw [h3, h1]
            refine w_body (rs := [.tmp 6]) (tm := [.ptr 0 0, .str s, .ro .byte d, .any, .any, .any, .any, .any, .any, .any, .any, .any, .any, .any, .any, .any, .any, .any, .any, .any, .any, .any, .any, .any, .any, .any, .any, .any, .any, .any, .any, .any, .any, .any, .any, .any, .any, .any, .any, .any, .any, .any, .any, .any, .any, .any, .any, .any, .any, .any, .any, .any, .any, .any, .any, .any, .any, .any, .any]) fn_9 rfl rfl rfl rfl fun R hR => ?_
            (have zx1 := @hn; have zx2 := @hg; have zx3 := @hld; have zx4 := @hcd; have zx5 := @w1; have zx6 := @hfd; all_goals (try ((first | (with_reducible refine wp_id ?_) | (with_reducible refine does_id ?_)); refine walk ?_; (repeat' (first | exact trivial | with_reducible refine And.intro ?_ ?_)); all_goals (repeat (first | (with_reducible refine ImpB.mk fun hb => ?_) | (with_reducible refine ImpK.mk fun hK => ?_) | (with_reducible refine ImpF.mk fun hF => ?_) | (with_reducible refine ImpQ.mk fun hp => ?_) | (with_reducible refine AllE.mk fun p => ?_) | (with_reducible refine AllR.mk fun rest => ?_) | (with_reducible refine AllK.mk fun K => ?_))))); repeat' (with_reducible refine And.intro ?_ ?_))
            (focus (refine ⟨_, _, Gh.refl, [0], rfl, ?_⟩; (refine ⟨?_, ?_, ?_⟩ <;> simp only [go_sem, List.range, List.range.loop, List.nodup_cons, List.nodup_nil, List.mem_cons, List.not_mem_nil, or_false, or_self, Int.reduceToNat, Nat.min_eq_left, Nat.min_eq_right, Int.reducePow, Nat.reducePow, Int.reduceLE, Int.reduceLT, Int.reduceMul, Int.reduceAdd, Int.reduceSub, Int.reduceNeg, Bool.not_true, Bool.not_false, Bool.not_not, ↓reduceIte, Nat.reduceAdd, Nat.reduceSub, Nat.reduceMul, Nat.reduceEqDiff, reduceCtorEq, Nat.reduceLT, Nat.reduceLeDiff, Nat.reduceGT]); (try any_goals (refine ⟨?_, ?_⟩)); (try any_goals (with_reducible rfl))))
          · have hfd : decide (r - sumL kv < (d.length : Int)) = false := decide_eq_false hf
            have h3 : putE m r kv s d = 0 := by rw [h2, if_neg (by rintro (q | q); exact hc q; exact hf q)]
            have h1 : putM m r kv s d = msetS kv s d := by unfold putM; rw [if_pos h3]
            rw [h3, h1]
            refine w_body (rs := [.tmp 6]) (tm := [.ptr 0 0, .str s, .ro .byte d, .any, .any, .any, .any, .any, .any, .any, .any, .any, .any, .any, .any, .any, .any, .any, .any, .any, .any, .any, .any, .any, .any, .any, .any, .any, .any, .any, .any, .any, .any, .any, .any, .any, .any, .any, .any, .any, .any, .any, .any, .any, .any, .any, .any, .any, .any, .any, .any, .any, .any, .any, .any, .any, .any, .any, .any]) fn_9 rfl rfl rfl rfl fun R hR => ?_
            (have zx1 := @hn; have zx2 := @hg; have zx3 := @hld; have zx4 := @hcd; have zx5 := @w1; have zx6 := @hfd; all_goals (try ((first | (with_reducible refine wp_id ?_) | (with_reducible refine does_id ?_)); refine walk ?_; (repeat' (first | exact trivial | with_reducible refine And.intro ?_ ?_)); all_goals (repeat (first | (with_reducible refine ImpB.mk fun hb => ?_) | (with_reducible refine ImpK.mk fun hK => ?_) | (with_reducible refine ImpF.mk fun hF => ?_) | (with_reducible refine ImpQ.mk fun hp => ?_) | (with_reducible refine AllE.mk fun p => ?_) | (with_reducible refine AllR.mk fun rest => ?_) | (with_reducible refine AllK.mk fun K => ?_))))); repeat' (with_reducible refine And.intro ?_ ?_))
            (focus (refine ⟨_, _, gh_close (t := 0) (ts := [2]) (l := St m r (msetS kv s d)) ⟨⟨_, _, rfl⟩, ?_, by simp⟩, [0], rfl, ?_⟩; all_goals (refine ⟨?_, ?_, ?_⟩ <;> simp only [go_sem, List.range, List.range.loop, List.nodup_cons, List.nodup_nil, List.mem_cons, List.not_mem_nil, or_false, or_self, Int.reduceToNat, Nat.min_eq_left, Nat.min_eq_right, Int.reducePow, Nat.reducePow, Int.reduceLE, Int.reduceLT, Int.reduceMul, Int.reduceAdd, Int.reduceSub, Int.reduceNeg, Bool.not_true, Bool.not_false, Bool.not_not, ↓reduceIte, Nat.reduceAdd, Nat.reduceSub, Nat.reduceMul, Nat.reduceEqDiff, reduceCtorEq, Nat.reduceLT, Nat.reduceLeDiff, Nat.reduceGT]); (try any_goals (refine ⟨?_, ?_⟩)); (try any_goals (with_reducible rfl))))
            all_goals first | rfl | exact List.Perm.refl _
      | some x =>
        have hxl := sumL_get hg
        have h2 : putE m r kv s d = if r - sumL kv + x.length < d.length then 7 else 0 := by
          unfold putE
          rw [if_pos hn, if_neg hl, hg]
          simp
        have w1 : IntKind.i64.wrap (r - sumL kv + x.length) = r - sumL kv + x.length := wrap_i64 _ (by omega) (by omega)
        by_cases hf : r - sumL kv + x.length < d.length
        · have hfd : decide (r - sumL kv + (x.length : Int) < (d.length : Int)) = true := decide_eq_true hf
          have h3 : putE m r kv s d = 7 := by rw [h2, if_pos hf]
          have h1 : putM m r kv s d = kv := by unfold putM; rw [if_neg (by rw [h3]; decide)]
          rw [h3, h1]
          refine w_body (rs := [.tmp 6]) (tm := [.ptr 0 0, .str s, .ro .byte d, .any, .any, .any, .any, .any, .any, .any, .any, .any, .any, .any, .any, .any, .any, .any, .any, .any, .any, .any, .any, .any, .any, .any, .any, .any, .any, .any, .any, .any, .any, .any, .any, .any, .any, .any, .any, .any, .any, .any, .any, .any, .any, .any, .any, .any, .any, .any, .any, .any, .any, .any, .any, .any, .any, .any, .any]) fn_9 rfl rfl rfl rfl fun R hR => ?_
          (have zx1 := @hn; have zx2 := @hg; have zx3 := @hld; have zx4 := @w1; have zx5 := @hfd; all_goals (try ((first | (with_reducible refine wp_id ?_) | (with_reducible refine does_id ?_)); refine walk ?_; (repeat' (first | exact trivial | with_reducible refine And.intro ?_ ?_)); all_goals (repeat (first | (with_reducible refine ImpB.mk fun hb => ?_) | (with_reducible refine ImpK.mk fun hK => ?_) | (with_reducible refine ImpF.mk fun hF => ?_) | (with_reducible refine ImpQ.mk fun hp => ?_) | (with_reducible refine AllE.mk fun p => ?_) | (with_reducible refine AllR.mk fun rest => ?_) | (with_reducible refine AllK.mk fun K => ?_))))); repeat' (with_reducible refine And.intro ?_ ?_))
          (focus (refine ⟨_, _, Gh.refl, [0], rfl, ?_⟩; (refine ⟨?_, ?_, ?_⟩ <;> simp only [go_sem, List.range, List.range.loop, List.nodup_cons, List.nodup_nil, List.mem_cons, List.not_mem_nil, or_false, or_self, Int.reduceToNat, Nat.min_eq_left, Nat.min_eq_right, Int.reducePow, Nat.reducePow, Int.reduceLE, Int.reduceLT, Int.reduceMul, Int.reduceAdd, Int.reduceSub, Int.reduceNeg, Bool.not_true, Bool.not_false, Bool.not_not, ↓reduceIte, Nat.reduceAdd, Nat.reduceSub, Nat.reduceMul, Nat.reduceEqDiff, reduceCtorEq, Nat.reduceLT, Nat.reduceLeDiff, Nat.reduceGT]); (try any_goals (refine ⟨?_, ?_⟩)); (try any_goals (with_reducible rfl))))
        · have hfd : decide (r - sumL kv + (x.length : Int) < (d.length : Int)) = false := decide_eq_false hf
          have h3 : putE m r kv s d = 0 := by rw [h2, if_neg hf]
          have h1 : putM m r kv s d = msetS kv s d := by unfold putM; rw [if_pos h3]
          rw [h3, h1]
          refine w_body (rs := [.tmp 6]) (tm := [.ptr 0 0, .str s, .ro .byte d, .any, .any, .any, .any, .any, .any, .any, .any, .any, .any, .any, .any, .any, .any, .any, .any, .any, .any, .any, .any, .any, .any, .any, .any, .any, .any, .any, .any, .any, .any, .any, .any, .any, .any, .any, .any, .any, .any, .any, .any, .any, .any, .any, .any, .any, .any, .any, .any, .any, .any, .any, .any, .any, .any, .any, .any]) fn_9 rfl rfl rfl rfl fun R hR => ?_
          (have zx1 := @hn; have zx2 := @hg; have zx3 := @hld; have zx4 := @w1; have zx5 := @hfd; all_goals (try ((first | (with_reducible refine wp_id ?_) | (with_reducible refine does_id ?_)); refine walk ?_; (repeat' (first | exact trivial | with_reducible refine And.intro ?_ ?_)); all_goals (repeat (first | (with_reducible refine ImpB.mk fun hb => ?_) | (with_reducible refine ImpK.mk fun hK => ?_) | (with_reducible refine ImpF.mk fun hF => ?_) | (with_reducible refine ImpQ.mk fun hp => ?_) | (with_reducible refine AllE.mk fun p => ?_) | (with_reducible refine AllR.mk fun rest => ?_) | (with_reducible refine AllK.mk fun K => ?_))))); repeat' (with_reducible refine And.intro ?_ ?_))
          (focus (refine ⟨_, _, gh_close (t := 0) (ts := [2]) (l := St m r (msetS kv s d)) ⟨⟨_, _, rfl⟩, ?_, by simp⟩, [0], rfl, ?_⟩; all_goals (refine ⟨?_, ?_, ?_⟩ <;> simp only [go_sem, List.range, List.range.loop, List.nodup_cons, List.nodup_nil, List.mem_cons, List.not_mem_nil, or_false, or_self, Int.reduceToNat, Nat.min_eq_left, Nat.min_eq_right, Int.reducePow, Nat.reducePow, Int.reduceLE, Int.reduceLT, Int.reduceMul, Int.reduceAdd, Int.reduceSub, Int.reduceNeg, Bool.not_true, Bool.not_false, Bool.not_not, ↓reduceIte, Nat.reduceAdd, Nat.reduceSub, Nat.reduceMul, Nat.reduceEqDiff, reduceCtorEq, Nat.reduceLT, Nat.reduceLeDiff, Nat.reduceGT]); (try any_goals (refine ⟨?_, ?_⟩)); (try any_goals (with_reducible rfl))))
          all_goals first | rfl | exact List.Perm.refl _
theorem c_put {h : List Ch} {K : KT} {t : Nat} {m r : Int} {kv : List (Str × Str)} {s d : Str} {a : AV} (H : K (.int .i64 (putE m r kv s d)) (h.set t (.pack (St m r (putM m r kv s d))))) (o : hth h t = .pack (St m r kv)) (q1 : isRO .byte d a) (s1 : s.length ≤ 9223372036854775807) (s2 : d.length ≤ 9223372036854775807) (s3 : 0 ≤ r ∧ r ≤ 2147483648) (s4 : (sumL kv : Int) ≤ r) : Does Try.prog 9 [.ptr t 0, .str s, a] h K :=
  frame_obj0 (b_put m r kv s d s1 s2 s3 s4) o (by simp) (fitC_pack _) (br_cons (br_ptr rfl) (br_cons br_str (br_cons q1.br br_nil))) (.inl (by simp only [brTL, q1.brT]; rfl)) (fun _ => rfl) rfl H
abbrev i_put := Ctr.mk (i := 0) (g := 9) @c_put
attribute [instance] i_put
end Go.V
