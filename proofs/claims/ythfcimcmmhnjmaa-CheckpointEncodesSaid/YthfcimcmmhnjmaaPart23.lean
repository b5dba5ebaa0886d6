/-
  law 48: the statements.
  From the arguments of a given statement to abstract values: what is read as data lies for good.
  Chapter 48: arguments as the statements have them.
-/
import Derived.Test.YthfcimcmmhnjmaaPart22
import Derived.Test.YthfcimcmmhnjmaaPart07
import Derived.ChangeArms
import Derived.ChangeShapes
import Derived.ChangeReads
import Derived.DataReads
import Derived.Below
import Derived.OpenShut
import Derived.RowKit
import Derived.Carry
set_option linter.unusedVariables false
set_option linter.unusedSimpArgs false
set_option maxRecDepth 100000
set_option maxHeartbeats 4000000
namespace Go.V
open Go.Proofs
attribute [-go_sem] Wr
theorem ckS_light {c : Ck} (h : ckLight c = true) : CkS c := by
  unfold ckLight at h
  simp only [Bool.and_eq_true, decide_eq_true_eq] at h
  obtain ⟨⟨⟨h1, h2, h3⟩, h4⟩, h5⟩ := h
  refine ⟨by omega, by omega, fun x hx => ?_, by omega, by omega⟩
  rw [List.all_eq_true] at h2
  have := h2 x hx
  unfold liteB at this
  simp only [Bool.and_eq_true, decide_eq_true_eq] at this
  omega
theorem ckS_valid {c : Ck} (h : ckV c = true) : CkS c := by
  obtain ⟨hB, hS, hF, hN, hL, hc⟩ := (ckV_iff c).1 h
  have hl := ledV_len hL
  obtain ⟨h1, _, h3⟩ := (chk_iff c.ents 256).1 hc
  unfold ckB at hB
  refine ⟨by omega, by omega, fun x hx => ?_, by omega, by omega⟩
  rw [List.all_eq_true] at h1
  exact valid_args ((entV_iff x).1 (h1 x hx)).2
theorem l_encodes48 (c : Ck) (hn : c.ents.length ≤ 9223372036854775807) : DoesK Try.prog 0 3 [.agg (ckL c)] [] (EndF 0 (.bool true) []) := by
  refine DoesK.close ?_
  obtain ⟨n1, n2, n3, led, ents, sides, done, n4⟩ := c
  by_cases hl : ckLight ⟨n1, n2, n3, led, ents, sides, done, n4⟩ = true
  · have hs := ckS_light hl
    cases hv : ckV ⟨n1, n2, n3, led, ents, sides, done, n4⟩
    · refine w_body (rs := [.tmp 2]) (tm := [.agg (ckL ⟨n1, n2, n3, led, ents, sides, done, n4⟩), .any, .any, .any, .any, .any, .any, .any, .any, .any, .any, .any, .any, .any, .any, .any, .any, .any, .any, .any, .any, .any, .any, .any, .any, .any, .any, .any, .any, .any, .any, .any, .any, .any, .any, .any, .any, .any, .any, .any, .any, .any, .any, .any]) fn_3 rfl rfl rfl rfl fun R hR => ?_
      (have zx1 := @hl; have zx2 := @hv; all_goals (try ((first | (with_reducible refine wp_id ?_) | (with_reducible refine does_id ?_)); refine walk ?_; (repeat' (first | exact trivial | with_reducible refine And.intro ?_ ?_)); all_goals (repeat (first | (with_reducible refine ImpB.mk fun hb => ?_) | (with_reducible refine ImpK.mk fun hK => ?_) | (with_reducible refine ImpF.mk fun hF => ?_) | (with_reducible refine AllK.mk fun K => ?_))))); repeat' (with_reducible refine And.intro ?_ ?_))
      all_goals first | exact Nat.le_refl _ | exact br_ro | exact br_ro0 | omega | (simp only [frObH, frObC, frOb, frObL]; simp; done) | (focus ((focus (refine ⟨_, _, Gh.refl, [], rfl, ?_⟩; (refine ⟨?_, ?_, ?_⟩ <;> simp only [go_sem, List.range, List.range.loop, List.nodup_cons, List.nodup_nil, List.mem_cons, List.not_mem_nil, or_false, or_self, Int.reduceToNat, Nat.min_eq_left, Nat.min_eq_right, Int.reducePow, Nat.reducePow, Int.reduceLE, Int.reduceLT, Int.reduceMul, Int.reduceAdd, Int.reduceSub, Int.reduceNeg, Bool.not_true, Bool.not_false, Bool.not_not, ↓reduceIte, Nat.reduceAdd, Nat.reduceSub, Nat.reduceMul, Nat.reduceEqDiff, reduceCtorEq, Nat.reduceLT, Nat.reduceLeDiff, Nat.reduceGT]); (try any_goals (refine ⟨?_, ?_⟩)); (try any_goals (with_reducible rfl)))); (try decide); done)) | (exfalso; simp at hb; done) | trace_state
    · refine w_body (rs := [.tmp 2]) (tm := [.agg (ckL ⟨n1, n2, n3, led, ents, sides, done, n4⟩), .any, .any, .any, .any, .any, .any, .any, .any, .any, .any, .any, .any, .any, .any, .any, .any, .any, .any, .any, .any, .any, .any, .any, .any, .any, .any, .any, .any, .any, .any, .any, .any, .any, .any, .any, .any, .any, .any, .any, .any, .any, .any, .any]) fn_3 rfl rfl rfl rfl fun R hR => ?_
      (have zx1 := @hl; have zx2 := @hv; all_goals (try ((first | (with_reducible refine wp_id ?_) | (with_reducible refine does_id ?_)); refine walk ?_; (repeat' (first | exact trivial | with_reducible refine And.intro ?_ ?_)); all_goals (repeat (first | (with_reducible refine ImpB.mk fun hb => ?_) | (with_reducible refine ImpK.mk fun hK => ?_) | (with_reducible refine ImpF.mk fun hF => ?_) | (with_reducible refine AllK.mk fun K => ?_))))); repeat' (with_reducible refine And.intro ?_ ?_))
      all_goals first | exact Nat.le_refl _ | exact br_ro | exact br_ro0 | omega | (simp only [frObH, frObC, frOb, frObL]; simp; done) | (focus ((focus (refine ⟨_, _, Gh.refl, [], rfl, ?_⟩; (refine ⟨?_, ?_, ?_⟩ <;> simp only [go_sem, List.range, List.range.loop, List.nodup_cons, List.nodup_nil, List.mem_cons, List.not_mem_nil, or_false, or_self, Int.reduceToNat, Nat.min_eq_left, Nat.min_eq_right, Int.reducePow, Nat.reducePow, Int.reduceLE, Int.reduceLT, Int.reduceMul, Int.reduceAdd, Int.reduceSub, Int.reduceNeg, Bool.not_true, Bool.not_false, Bool.not_not, ↓reduceIte, Nat.reduceAdd, Nat.reduceSub, Nat.reduceMul, Nat.reduceEqDiff, reduceCtorEq, Nat.reduceLT, Nat.reduceLeDiff, Nat.reduceGT]); (try any_goals (refine ⟨?_, ?_⟩)); (try any_goals (with_reducible rfl)))); (try decide); done)) | (exfalso; simp at hb; done) | trace_state
  · simp only [Bool.not_eq_true] at hl
    refine w_body (rs := [.tmp 2]) (tm := [.agg (ckL ⟨n1, n2, n3, led, ents, sides, done, n4⟩), .any, .any, .any, .any, .any, .any, .any, .any, .any, .any, .any, .any, .any, .any, .any, .any, .any, .any, .any, .any, .any, .any, .any, .any, .any, .any, .any, .any, .any, .any, .any, .any, .any, .any, .any, .any, .any, .any, .any, .any, .any, .any, .any]) fn_3 rfl rfl rfl rfl fun R hR => ?_
    (have zx1 := @hl; all_goals (try ((first | (with_reducible refine wp_id ?_) | (with_reducible refine does_id ?_)); refine walk ?_; (repeat' (first | exact trivial | with_reducible refine And.intro ?_ ?_)); all_goals (repeat (first | (with_reducible refine ImpB.mk fun hb => ?_) | (with_reducible refine ImpK.mk fun hK => ?_) | (with_reducible refine ImpF.mk fun hF => ?_) | (with_reducible refine AllK.mk fun K => ?_))))); repeat' (with_reducible refine And.intro ?_ ?_))
    all_goals first | exact Nat.le_refl _ | exact br_ro | exact br_ro0 | omega | (simp only [frObH, frObC, frOb, frObL]; simp; done) | (focus ((focus (refine ⟨_, _, Gh.refl, [], rfl, ?_⟩; (refine ⟨?_, ?_, ?_⟩ <;> simp only [go_sem, List.range, List.range.loop, List.nodup_cons, List.nodup_nil, List.mem_cons, List.not_mem_nil, or_false, or_self, Int.reduceToNat, Nat.min_eq_left, Nat.min_eq_right, Int.reducePow, Nat.reducePow, Int.reduceLE, Int.reduceLT, Int.reduceMul, Int.reduceAdd, Int.reduceSub, Int.reduceNeg, Bool.not_true, Bool.not_false, Bool.not_not, ↓reduceIte, Nat.reduceAdd, Nat.reduceSub, Nat.reduceMul, Nat.reduceEqDiff, reduceCtorEq, Nat.reduceLT, Nat.reduceLeDiff, Nat.reduceGT]); (try any_goals (refine ⟨?_, ?_⟩)); (try any_goals (with_reducible rfl)))); (try decide); done)) | (exfalso; simp at hb; done) | trace_state
theorem c_cdecTS {h : List Ch} {K : KT} {t n : Nat} {c : Ck} {b : List UInt8} (H : K (.tup [.agg (ckL c), .int .i64 0]) (frHs t .byte b (h.set t .gone))) (o : hth h t = .rows .byte b) (e1 : encK c = b ∧ ckV c = true ∧ CkS c) (s1 : n = b.length) (s2 : frObH t .byte b.length h) (s3 : b.length ≤ 1000000) : Does Try.prog 13 [.sl t .byte 0 n] h K := by
  subst s1
  refine Does.ghost (gh_frz (e := .byte) (xs := b) o ?_ s2) ?_
  · simp [frObL, frOb]
  · have e : frL t .byte b [.sl t .byte 0 b.length] = [.ro .byte b] := by simp [frL, frA]
    rw [e]
    exact c_cdecT H isRO_ro e1 s3
abbrev i_cdecTS := Ctr.mk (i := 2) (g := 13) @c_cdecTS
attribute [instance] i_cdecTS
theorem l_decodes48 (b : List UInt8) : DoesK Try.prog 0 4 [.ro .byte b] [] (EndF 0 (.bool true) []) := by
  refine DoesK.close ?_
  by_cases hb : b.length ≤ 2000
  · have hbl : b.length ≤ 1000000 := by omega
    have hbd : decide ((2000 : Int) < b.length) = false := decide_eq_false (by omega)
    by_cases hx : ∃ c, ckV c = true ∧ encK c = b
    · obtain ⟨c, hv, he⟩ := hx
      obtain ⟨n1, n2, n3, led, ents, sides, done, n4⟩ := c
      have hs := ckS_valid hv
      have hdec : encK ⟨n1, n2, n3, led, ents, sides, done, n4⟩ = b ∧ ckV ⟨n1, n2, n3, led, ents, sides, done, n4⟩ = true ∧ CkS ⟨n1, n2, n3, led, ents, sides, done, n4⟩ := ⟨he, hv, hs⟩
      refine w_body (rs := [.tmp 2]) (tm := [.ro .byte b, .any, .any, .any, .any, .any, .any, .any, .any, .any, .any, .any, .any, .any, .any, .any, .any, .any, .any, .any, .any, .any, .any, .any, .any, .any, .any, .any, .any, .any, .any, .any, .any, .any, .any, .any, .any, .any]) fn_4 rfl rfl rfl rfl fun R hR => ?_
      (have zx1 := @hbd; have zx2 := @decide_true; all_goals (try ((first | (with_reducible refine wp_id ?_) | (with_reducible refine does_id ?_)); refine walk ?_; (repeat' (first | exact trivial | with_reducible refine And.intro ?_ ?_)); all_goals (repeat (first | (with_reducible refine ImpB.mk fun hb => ?_) | (with_reducible refine ImpK.mk fun hK => ?_) | (with_reducible refine ImpF.mk fun hF => ?_) | (with_reducible refine AllK.mk fun K => ?_))))); repeat' (with_reducible refine And.intro ?_ ?_))
      all_goals first | exact Nat.le_refl _ | exact br_ro | exact br_ro0 | omega | (simp only [frObH, frObC, frOb, frObL]; simp; done) | (focus ((focus (refine ⟨_, _, Gh.refl, [], rfl, ?_⟩; (refine ⟨?_, ?_, ?_⟩ <;> simp only [go_sem, List.range, List.range.loop, List.nodup_cons, List.nodup_nil, List.mem_cons, List.not_mem_nil, or_false, or_self, Int.reduceToNat, Nat.min_eq_left, Nat.min_eq_right, Int.reducePow, Nat.reducePow, Int.reduceLE, Int.reduceLT, Int.reduceMul, Int.reduceAdd, Int.reduceSub, Int.reduceNeg, Bool.not_true, Bool.not_false, Bool.not_not, ↓reduceIte, Nat.reduceAdd, Nat.reduceSub, Nat.reduceMul, Nat.reduceEqDiff, reduceCtorEq, Nat.reduceLT, Nat.reduceLeDiff, Nat.reduceGT]); (try any_goals (refine ⟨?_, ?_⟩)); (try any_goals (with_reducible rfl)))); (try decide); done)) | (exfalso; simp at hb; done) | trace_state
    · have hno : noK b := fun c hv he => hx ⟨c, hv, he⟩
      have hzs : CkS ⟨0, 0, 0, [], [], [], [], 0⟩ := ⟨Nat.zero_le _, Nat.zero_le _, fun x hx => (by cases hx), Nat.zero_le _, Nat.zero_le _⟩
      refine w_body (rs := [.tmp 2]) (tm := [.ro .byte b, .any, .any, .any, .any, .any, .any, .any, .any, .any, .any, .any, .any, .any, .any, .any, .any, .any, .any, .any, .any, .any, .any, .any, .any, .any, .any, .any, .any, .any, .any, .any, .any, .any, .any, .any, .any, .any]) fn_4 rfl rfl rfl rfl fun R hR => ?_
      (have zx1 := @hbd; have zx2 := @decide_true; all_goals (try ((first | (with_reducible refine wp_id ?_) | (with_reducible refine does_id ?_)); refine walk ?_; (repeat' (first | exact trivial | with_reducible refine And.intro ?_ ?_)); all_goals (repeat (first | (with_reducible refine ImpB.mk fun hb => ?_) | (with_reducible refine ImpK.mk fun hK => ?_) | (with_reducible refine ImpF.mk fun hF => ?_) | (with_reducible refine AllK.mk fun K => ?_))))); repeat' (with_reducible refine And.intro ?_ ?_))
      all_goals first | exact Nat.le_refl _ | exact br_ro | exact br_ro0 | omega | (simp only [frObH, frObC, frOb, frObL]; simp; done) | (focus ((focus (refine ⟨_, _, Gh.refl, [], rfl, ?_⟩; (refine ⟨?_, ?_, ?_⟩ <;> simp only [go_sem, List.range, List.range.loop, List.nodup_cons, List.nodup_nil, List.mem_cons, List.not_mem_nil, or_false, or_self, Int.reduceToNat, Nat.min_eq_left, Nat.min_eq_right, Int.reducePow, Nat.reducePow, Int.reduceLE, Int.reduceLT, Int.reduceMul, Int.reduceAdd, Int.reduceSub, Int.reduceNeg, Bool.not_true, Bool.not_false, Bool.not_not, ↓reduceIte, Nat.reduceAdd, Nat.reduceSub, Nat.reduceMul, Nat.reduceEqDiff, reduceCtorEq, Nat.reduceLT, Nat.reduceLeDiff, Nat.reduceGT]); (try any_goals (refine ⟨?_, ?_⟩)); (try any_goals (with_reducible rfl)))); (try decide); done)) | (exfalso; simp at hb; done) | trace_state
  · have hbd : decide ((2000 : Int) < b.length) = true := decide_eq_true (by omega)
    refine w_body (rs := [.tmp 2]) (tm := [.ro .byte b, .any, .any, .any, .any, .any, .any, .any, .any, .any, .any, .any, .any, .any, .any, .any, .any, .any, .any, .any, .any, .any, .any, .any, .any, .any, .any, .any, .any, .any, .any, .any, .any, .any, .any, .any, .any, .any]) fn_4 rfl rfl rfl rfl fun R hR => ?_
    (have zx1 := @hbd; all_goals (try ((first | (with_reducible refine wp_id ?_) | (with_reducible refine does_id ?_)); refine walk ?_; (repeat' (first | exact trivial | with_reducible refine And.intro ?_ ?_)); all_goals (repeat (first | (with_reducible refine ImpB.mk fun hb => ?_) | (with_reducible refine ImpK.mk fun hK => ?_) | (with_reducible refine ImpF.mk fun hF => ?_) | (with_reducible refine AllK.mk fun K => ?_))))); repeat' (with_reducible refine And.intro ?_ ?_))
    all_goals first | exact Nat.le_refl _ | exact br_ro | exact br_ro0 | omega | (simp only [frObH, frObC, frOb, frObL]; simp; done) | (focus ((focus (refine ⟨_, _, Gh.refl, [], rfl, ?_⟩; (refine ⟨?_, ?_, ?_⟩ <;> simp only [go_sem, List.range, List.range.loop, List.nodup_cons, List.nodup_nil, List.mem_cons, List.not_mem_nil, or_false, or_self, Int.reduceToNat, Nat.min_eq_left, Nat.min_eq_right, Int.reducePow, Nat.reducePow, Int.reduceLE, Int.reduceLT, Int.reduceMul, Int.reduceAdd, Int.reduceSub, Int.reduceNeg, Bool.not_true, Bool.not_false, Bool.not_not, ↓reduceIte, Nat.reduceAdd, Nat.reduceSub, Nat.reduceMul, Nat.reduceEqDiff, reduceCtorEq, Nat.reduceLT, Nat.reduceLeDiff, Nat.reduceGT]); (try any_goals (refine ⟨?_, ?_⟩)); (try any_goals (with_reducible rfl)))); (try decide); done)) | (exfalso; simp at hb; done) | trace_state
theorem l_back48 (c : Ck) (hn : c.ents.length ≤ 9223372036854775807) : DoesK Try.prog 0 5 [.agg (ckL c)] [] (EndF 0 (.bool true) []) := by
  refine DoesK.close ?_
  obtain ⟨n1, n2, n3, led, ents, sides, done, n4⟩ := c
  by_cases hl : ckLight ⟨n1, n2, n3, led, ents, sides, done, n4⟩ = true
  · have hs := ckS_light hl
    cases hv : ckV ⟨n1, n2, n3, led, ents, sides, done, n4⟩
    · refine w_body (rs := [.tmp 2]) (tm := [.agg (ckL ⟨n1, n2, n3, led, ents, sides, done, n4⟩), .any, .any, .any, .any, .any, .any, .any, .any, .any, .any, .any, .any, .any, .any, .any, .any, .any, .any, .any, .any, .any, .any, .any, .any, .any, .any, .any, .any, .any, .any, .any, .any, .any, .any, .any, .any, .any]) fn_5 rfl rfl rfl rfl fun R hR => ?_
      (have zx1 := @hl; have zx2 := @hv; all_goals (try ((first | (with_reducible refine wp_id ?_) | (with_reducible refine does_id ?_)); refine walk ?_; (repeat' (first | exact trivial | with_reducible refine And.intro ?_ ?_)); all_goals (repeat (first | (with_reducible refine ImpB.mk fun hb => ?_) | (with_reducible refine ImpK.mk fun hK => ?_) | (with_reducible refine ImpF.mk fun hF => ?_) | (with_reducible refine AllK.mk fun K => ?_))))); repeat' (with_reducible refine And.intro ?_ ?_))
      all_goals first | exact Nat.le_refl _ | exact br_ro | exact br_ro0 | omega | (simp only [frObH, frObC, frOb, frObL]; simp; done) | (focus ((focus (refine ⟨_, _, Gh.refl, [], rfl, ?_⟩; (refine ⟨?_, ?_, ?_⟩ <;> simp only [go_sem, List.range, List.range.loop, List.nodup_cons, List.nodup_nil, List.mem_cons, List.not_mem_nil, or_false, or_self, Int.reduceToNat, Nat.min_eq_left, Nat.min_eq_right, Int.reducePow, Nat.reducePow, Int.reduceLE, Int.reduceLT, Int.reduceMul, Int.reduceAdd, Int.reduceSub, Int.reduceNeg, Bool.not_true, Bool.not_false, Bool.not_not, ↓reduceIte, Nat.reduceAdd, Nat.reduceSub, Nat.reduceMul, Nat.reduceEqDiff, reduceCtorEq, Nat.reduceLT, Nat.reduceLeDiff, Nat.reduceGT]); (try any_goals (refine ⟨?_, ?_⟩)); (try any_goals (with_reducible rfl)))); (try decide); done)) | (exfalso; simp at hb; done) | trace_state
    · obtain ⟨E, hE⟩ : ∃ E, encK ⟨n1, n2, n3, led, ents, sides, done, n4⟩ = E := ⟨_, rfl⟩
      have hdec : encK ⟨n1, n2, n3, led, ents, sides, done, n4⟩ = E ∧ ckV ⟨n1, n2, n3, led, ents, sides, done, n4⟩ = true ∧ CkS ⟨n1, n2, n3, led, ents, sides, done, n4⟩ := ⟨hE, hv, hs⟩
      have hEl : E.length ≤ 1000000 := by rw [← hE]; exact Nat.le_trans (encK_len hv) (by decide)
      refine w_body (rs := [.tmp 2]) (tm := [.agg (ckL ⟨n1, n2, n3, led, ents, sides, done, n4⟩), .any, .any, .any, .any, .any, .any, .any, .any, .any, .any, .any, .any, .any, .any, .any, .any, .any, .any, .any, .any, .any, .any, .any, .any, .any, .any, .any, .any, .any, .any, .any, .any, .any, .any, .any, .any, .any]) fn_5 rfl rfl rfl rfl fun R hR => ?_
      (have zx1 := @hl; have zx2 := @hv; have zx3 := @hE; have zx4 := @decide_true; all_goals (try ((first | (with_reducible refine wp_id ?_) | (with_reducible refine does_id ?_)); refine walk ?_; (repeat' (first | exact trivial | with_reducible refine And.intro ?_ ?_)); all_goals (repeat (first | (with_reducible refine ImpB.mk fun hb => ?_) | (with_reducible refine ImpK.mk fun hK => ?_) | (with_reducible refine ImpF.mk fun hF => ?_) | (with_reducible refine AllK.mk fun K => ?_))))); repeat' (with_reducible refine And.intro ?_ ?_))
      all_goals first | exact Nat.le_refl _ | exact br_ro | exact br_ro0 | omega | (simp only [frObH, frObC, frOb, frObL]; simp; done) | (focus ((focus (refine ⟨_, _, Gh.refl, [], rfl, ?_⟩; (refine ⟨?_, ?_, ?_⟩ <;> simp only [go_sem, List.range, List.range.loop, List.nodup_cons, List.nodup_nil, List.mem_cons, List.not_mem_nil, or_false, or_self, Int.reduceToNat, Nat.min_eq_left, Nat.min_eq_right, Int.reducePow, Nat.reducePow, Int.reduceLE, Int.reduceLT, Int.reduceMul, Int.reduceAdd, Int.reduceSub, Int.reduceNeg, Bool.not_true, Bool.not_false, Bool.not_not, ↓reduceIte, Nat.reduceAdd, Nat.reduceSub, Nat.reduceMul, Nat.reduceEqDiff, reduceCtorEq, Nat.reduceLT, Nat.reduceLeDiff, Nat.reduceGT]); (try any_goals (refine ⟨?_, ?_⟩)); (try any_goals (with_reducible rfl)))); (try decide); done)) | (exfalso; simp at hb; done) | trace_state
  · simp only [Bool.not_eq_true] at hl
    refine w_body (rs := [.tmp 2]) (tm := [.agg (ckL ⟨n1, n2, n3, led, ents, sides, done, n4⟩), .any, .any, .any, .any, .any, .any, .any, .any, .any, .any, .any, .any, .any, .any, .any, .any, .any, .any, .any, .any, .any, .any, .any, .any, .any, .any, .any, .any, .any, .any, .any, .any, .any, .any, .any, .any, .any]) fn_5 rfl rfl rfl rfl fun R hR => ?_
    (have zx1 := @hl; all_goals (try ((first | (with_reducible refine wp_id ?_) | (with_reducible refine does_id ?_)); refine walk ?_; (repeat' (first | exact trivial | with_reducible refine And.intro ?_ ?_)); all_goals (repeat (first | (with_reducible refine ImpB.mk fun hb => ?_) | (with_reducible refine ImpK.mk fun hK => ?_) | (with_reducible refine ImpF.mk fun hF => ?_) | (with_reducible refine AllK.mk fun K => ?_))))); repeat' (with_reducible refine And.intro ?_ ?_))
    all_goals first | exact Nat.le_refl _ | exact br_ro | exact br_ro0 | omega | (simp only [frObH, frObC, frOb, frObL]; simp; done) | (focus ((focus (refine ⟨_, _, Gh.refl, [], rfl, ?_⟩; (refine ⟨?_, ?_, ?_⟩ <;> simp only [go_sem, List.range, List.range.loop, List.nodup_cons, List.nodup_nil, List.mem_cons, List.not_mem_nil, or_false, or_self, Int.reduceToNat, Nat.min_eq_left, Nat.min_eq_right, Int.reducePow, Nat.reducePow, Int.reduceLE, Int.reduceLT, Int.reduceMul, Int.reduceAdd, Int.reduceSub, Int.reduceNeg, Bool.not_true, Bool.not_false, Bool.not_not, ↓reduceIte, Nat.reduceAdd, Nat.reduceSub, Nat.reduceMul, Nat.reduceEqDiff, reduceCtorEq, Nat.reduceLT, Nat.reduceLeDiff, Nat.reduceGT]); (try any_goals (refine ⟨?_, ?_⟩)); (try any_goals (with_reducible rfl)))); (try decide); done)) | (exfalso; simp at hb; done) | trace_state
theorem pre_inj {c d : Ck} (hc : ckV c = true) (hd : ckV d = true) (h : (encK d).take (encK c).length = encK c) : c = d := by
  have := List.take_append_drop (encK c).length (encK d)
  rw [h] at this
  exact (encK_inj hc hd (x := (encK d).drop (encK c).length) (y := []) (by rw [List.append_nil]; exact this)).1
theorem l_apart48 (c d : Ck) (hn : c.ents.length ≤ 9223372036854775807) (hm : d.ents.length ≤ 9223372036854775807) : DoesK Try.prog 0 6 [.agg (ckL c), .agg (ckL d)] [] (EndF 0 (.bool true) []) := by
  refine DoesK.close ?_
  obtain ⟨n1, n2, n3, led, ents, sides, done, n4⟩ := c
  obtain ⟨m1, m2, m3, led', ents', sides', done', m4⟩ := d
  by_cases hl : ckLight ⟨n1, n2, n3, led, ents, sides, done, n4⟩ = true
  · have hs := ckS_light hl
    by_cases hk : ckLight ⟨m1, m2, m3, led', ents', sides', done', m4⟩ = true
    · have ht := ckS_light hk
      cases hv : ckV ⟨n1, n2, n3, led, ents, sides, done, n4⟩
      · refine w_body (rs := [.tmp 4]) (tm := [.agg (ckL ⟨n1, n2, n3, led, ents, sides, done, n4⟩), .agg (ckL ⟨m1, m2, m3, led', ents', sides', done', m4⟩), .any, .any, .any, .any, .any, .any, .any, .any, .any, .any, .any, .any, .any, .any, .any, .any, .any, .any, .any, .any, .any, .any, .any, .any, .any, .any, .any, .any, .any, .any, .any, .any, .any, .any, .any, .any, .any, .any, .any, .any, .any, .any, .any, .any, .any, .any, .any, .any, .any, .any, .any, .any, .any, .any, .any, .any, .any, .any, .any, .any, .any, .any, .any, .any, .any, .any, .any, .any]) fn_6 rfl rfl rfl rfl fun R hR => ?_
        (have zx1 := @hl; have zx2 := @hk; have zx3 := @hv; all_goals (try ((first | (with_reducible refine wp_id ?_) | (with_reducible refine does_id ?_)); refine walk ?_; (repeat' (first | exact trivial | with_reducible refine And.intro ?_ ?_)); all_goals (repeat (first | (with_reducible refine ImpB.mk fun hb => ?_) | (with_reducible refine ImpK.mk fun hK => ?_) | (with_reducible refine ImpF.mk fun hF => ?_) | (with_reducible refine AllK.mk fun K => ?_))))); repeat' (with_reducible refine And.intro ?_ ?_))
        all_goals first | exact Nat.le_refl _ | exact br_ro | exact br_ro0 | omega | (simp only [frObH, frObC, frOb, frObL]; simp; done) | (focus ((focus (refine ⟨_, _, Gh.refl, [], rfl, ?_⟩; (refine ⟨?_, ?_, ?_⟩ <;> simp only [go_sem, List.range, List.range.loop, List.nodup_cons, List.nodup_nil, List.mem_cons, List.not_mem_nil, or_false, or_self, Int.reduceToNat, Nat.min_eq_left, Nat.min_eq_right, Int.reducePow, Nat.reducePow, Int.reduceLE, Int.reduceLT, Int.reduceMul, Int.reduceAdd, Int.reduceSub, Int.reduceNeg, Bool.not_true, Bool.not_false, Bool.not_not, ↓reduceIte, Nat.reduceAdd, Nat.reduceSub, Nat.reduceMul, Nat.reduceEqDiff, reduceCtorEq, Nat.reduceLT, Nat.reduceLeDiff, Nat.reduceGT]); (try any_goals (refine ⟨?_, ?_⟩)); (try any_goals (with_reducible rfl)))); (try decide); done)) | (exfalso; simp at hb; done) | trace_state
      · cases hw : ckV ⟨m1, m2, m3, led', ents', sides', done', m4⟩
        · refine w_body (rs := [.tmp 4]) (tm := [.agg (ckL ⟨n1, n2, n3, led, ents, sides, done, n4⟩), .agg (ckL ⟨m1, m2, m3, led', ents', sides', done', m4⟩), .any, .any, .any, .any, .any, .any, .any, .any, .any, .any, .any, .any, .any, .any, .any, .any, .any, .any, .any, .any, .any, .any, .any, .any, .any, .any, .any, .any, .any, .any, .any, .any, .any, .any, .any, .any, .any, .any, .any, .any, .any, .any, .any, .any, .any, .any, .any, .any, .any, .any, .any, .any, .any, .any, .any, .any, .any, .any, .any, .any, .any, .any, .any, .any, .any, .any, .any, .any]) fn_6 rfl rfl rfl rfl fun R hR => ?_
          (have zx1 := @hl; have zx2 := @hk; have zx3 := @hv; have zx4 := @hw; all_goals (try ((first | (with_reducible refine wp_id ?_) | (with_reducible refine does_id ?_)); refine walk ?_; (repeat' (first | exact trivial | with_reducible refine And.intro ?_ ?_)); all_goals (repeat (first | (with_reducible refine ImpB.mk fun hb => ?_) | (with_reducible refine ImpK.mk fun hK => ?_) | (with_reducible refine ImpF.mk fun hF => ?_) | (with_reducible refine AllK.mk fun K => ?_))))); repeat' (with_reducible refine And.intro ?_ ?_))
          all_goals first | exact Nat.le_refl _ | exact br_ro | exact br_ro0 | omega | (simp only [frObH, frObC, frOb, frObL]; simp; done) | (focus ((focus (refine ⟨_, _, Gh.refl, [], rfl, ?_⟩; (refine ⟨?_, ?_, ?_⟩ <;> simp only [go_sem, List.range, List.range.loop, List.nodup_cons, List.nodup_nil, List.mem_cons, List.not_mem_nil, or_false, or_self, Int.reduceToNat, Nat.min_eq_left, Nat.min_eq_right, Int.reducePow, Nat.reducePow, Int.reduceLE, Int.reduceLT, Int.reduceMul, Int.reduceAdd, Int.reduceSub, Int.reduceNeg, Bool.not_true, Bool.not_false, Bool.not_not, ↓reduceIte, Nat.reduceAdd, Nat.reduceSub, Nat.reduceMul, Nat.reduceEqDiff, reduceCtorEq, Nat.reduceLT, Nat.reduceLeDiff, Nat.reduceGT]); (try any_goals (refine ⟨?_, ?_⟩)); (try any_goals (with_reducible rfl)))); (try decide); done)) | (exfalso; simp at hb; done) | trace_state
        · have h1 := encK_len hv
          have h2 := encK_len hw
          have hpi := pre_inj hv hw
          obtain ⟨E1, hE1⟩ : ∃ E, encK ⟨n1, n2, n3, led, ents, sides, done, n4⟩ = E := ⟨_, rfl⟩
          obtain ⟨E2, hE2⟩ : ∃ E, encK ⟨m1, m2, m3, led', ents', sides', done', m4⟩ = E := ⟨_, rfl⟩
          have hcd : (E2.take E1.length = E1) → (⟨n1, n2, n3, led, ents, sides, done, n4⟩ : Ck) = ⟨m1, m2, m3, led', ents', sides', done', m4⟩ := by rw [← hE1, ← hE2]; exact hpi
          have hlen : (⟨n1, n2, n3, led, ents, sides, done, n4⟩ : Ck) = ⟨m1, m2, m3, led', ents', sides', done', m4⟩ → E1.length = E2.length := fun e => by rw [← hE1, ← hE2, e]
          by_cases hle : E1.length ≤ E2.length
          · have hld : decide ((E1.length : Int) ≤ E2.length) = true := decide_eq_true (by omega)
            by_cases hp : E2.take E1.length = E1
            · have hpd : decide (E2.take E1.length = E1) = true := decide_eq_true hp
              have hec := hcd hp
              have hel := hlen hec
              have hecd : decide ((⟨n1, n2, n3, led, ents, sides, done, n4⟩ : Ck) = ⟨m1, m2, m3, led', ents', sides', done', m4⟩) = true := decide_eq_true hec
              have held : decide ((E1.length : Int) = E2.length) = true := decide_eq_true (by omega)
              refine w_body (rs := [.tmp 4]) (tm := [.agg (ckL ⟨n1, n2, n3, led, ents, sides, done, n4⟩), .agg (ckL ⟨m1, m2, m3, led', ents', sides', done', m4⟩), .any, .any, .any, .any, .any, .any, .any, .any, .any, .any, .any, .any, .any, .any, .any, .any, .any, .any, .any, .any, .any, .any, .any, .any, .any, .any, .any, .any, .any, .any, .any, .any, .any, .any, .any, .any, .any, .any, .any, .any, .any, .any, .any, .any, .any, .any, .any, .any, .any, .any, .any, .any, .any, .any, .any, .any, .any, .any, .any, .any, .any, .any, .any, .any, .any, .any, .any, .any]) fn_6 rfl rfl rfl rfl fun R hR => ?_
              (have zx1 := @hl; have zx2 := @hk; have zx3 := @hv; have zx4 := @hw; have zx5 := @decide_false; have zx6 := @hE1; have zx7 := @hE2; have zx8 := @hld; have zx9 := @hpd; have zx10 := @hecd; have zx11 := @held; have zx12 := @Nat.sub_zero; all_goals (try ((first | (with_reducible refine wp_id ?_) | (with_reducible refine does_id ?_)); refine walk ?_; (repeat' (first | exact trivial | with_reducible refine And.intro ?_ ?_)); all_goals (repeat (first | (with_reducible refine ImpB.mk fun hb => ?_) | (with_reducible refine ImpK.mk fun hK => ?_) | (with_reducible refine ImpF.mk fun hF => ?_) | (with_reducible refine AllK.mk fun K => ?_))))); repeat' (with_reducible refine And.intro ?_ ?_))
              all_goals first | exact Nat.le_refl _ | exact br_ro | exact br_ro0 | exact Int.natCast_nonneg _ | omega | (simp only [frObH, frObC, frOb, frObL]; simp; done) | (focus ((focus (refine ⟨_, _, Gh.refl, [], rfl, ?_⟩; (refine ⟨?_, ?_, ?_⟩ <;> simp only [go_sem, List.range, List.range.loop, List.nodup_cons, List.nodup_nil, List.mem_cons, List.not_mem_nil, or_false, or_self, Int.reduceToNat, Nat.min_eq_left, Nat.min_eq_right, Int.reducePow, Nat.reducePow, Int.reduceLE, Int.reduceLT, Int.reduceMul, Int.reduceAdd, Int.reduceSub, Int.reduceNeg, Bool.not_true, Bool.not_false, Bool.not_not, ↓reduceIte, Nat.reduceAdd, Nat.reduceSub, Nat.reduceMul, Nat.reduceEqDiff, reduceCtorEq, Nat.reduceLT, Nat.reduceLeDiff, Nat.reduceGT]); (try any_goals (refine ⟨?_, ?_⟩)); (try any_goals (with_reducible rfl)))); (try decide); done)) | (exfalso; simp at hb; done) | trace_state
            · have hpd : decide (E2.take E1.length = E1) = false := decide_eq_false hp
              refine w_body (rs := [.tmp 4]) (tm := [.agg (ckL ⟨n1, n2, n3, led, ents, sides, done, n4⟩), .agg (ckL ⟨m1, m2, m3, led', ents', sides', done', m4⟩), .any, .any, .any, .any, .any, .any, .any, .any, .any, .any, .any, .any, .any, .any, .any, .any, .any, .any, .any, .any, .any, .any, .any, .any, .any, .any, .any, .any, .any, .any, .any, .any, .any, .any, .any, .any, .any, .any, .any, .any, .any, .any, .any, .any, .any, .any, .any, .any, .any, .any, .any, .any, .any, .any, .any, .any, .any, .any, .any, .any, .any, .any, .any, .any, .any, .any, .any, .any]) fn_6 rfl rfl rfl rfl fun R hR => ?_
              (have zx1 := @hl; have zx2 := @hk; have zx3 := @hv; have zx4 := @hw; have zx5 := @decide_false; have zx6 := @hE1; have zx7 := @hE2; have zx8 := @hld; have zx9 := @hpd; have zx10 := @Nat.sub_zero; all_goals (try ((first | (with_reducible refine wp_id ?_) | (with_reducible refine does_id ?_)); refine walk ?_; (repeat' (first | exact trivial | with_reducible refine And.intro ?_ ?_)); all_goals (repeat (first | (with_reducible refine ImpB.mk fun hb => ?_) | (with_reducible refine ImpK.mk fun hK => ?_) | (with_reducible refine ImpF.mk fun hF => ?_) | (with_reducible refine AllK.mk fun K => ?_))))); repeat' (with_reducible refine And.intro ?_ ?_))
              all_goals first | exact Nat.le_refl _ | exact br_ro | exact br_ro0 | exact Int.natCast_nonneg _ | omega | (simp only [frObH, frObC, frOb, frObL]; simp; done) | (focus ((focus (refine ⟨_, _, Gh.refl, [], rfl, ?_⟩; (refine ⟨?_, ?_, ?_⟩ <;> simp only [go_sem, List.range, List.range.loop, List.nodup_cons, List.nodup_nil, List.mem_cons, List.not_mem_nil, or_false, or_self, Int.reduceToNat, Nat.min_eq_left, Nat.min_eq_right, Int.reducePow, Nat.reducePow, Int.reduceLE, Int.reduceLT, Int.reduceMul, Int.reduceAdd, Int.reduceSub, Int.reduceNeg, Bool.not_true, Bool.not_false, Bool.not_not, ↓reduceIte, Nat.reduceAdd, Nat.reduceSub, Nat.reduceMul, Nat.reduceEqDiff, reduceCtorEq, Nat.reduceLT, Nat.reduceLeDiff, Nat.reduceGT]); (try any_goals (refine ⟨?_, ?_⟩)); (try any_goals (with_reducible rfl)))); (try decide); done)) | (exfalso; simp at hb; done) | trace_state
          · have hld : decide ((E1.length : Int) ≤ E2.length) = false := decide_eq_false (by omega)
            refine w_body (rs := [.tmp 4]) (tm := [.agg (ckL ⟨n1, n2, n3, led, ents, sides, done, n4⟩), .agg (ckL ⟨m1, m2, m3, led', ents', sides', done', m4⟩), .any, .any, .any, .any, .any, .any, .any, .any, .any, .any, .any, .any, .any, .any, .any, .any, .any, .any, .any, .any, .any, .any, .any, .any, .any, .any, .any, .any, .any, .any, .any, .any, .any, .any, .any, .any, .any, .any, .any, .any, .any, .any, .any, .any, .any, .any, .any, .any, .any, .any, .any, .any, .any, .any, .any, .any, .any, .any, .any, .any, .any, .any, .any, .any, .any, .any, .any, .any]) fn_6 rfl rfl rfl rfl fun R hR => ?_
            (have zx1 := @hl; have zx2 := @hk; have zx3 := @hv; have zx4 := @hw; have zx5 := @decide_false; have zx6 := @hE1; have zx7 := @hE2; have zx8 := @hld; all_goals (try ((first | (with_reducible refine wp_id ?_) | (with_reducible refine does_id ?_)); refine walk ?_; (repeat' (first | exact trivial | with_reducible refine And.intro ?_ ?_)); all_goals (repeat (first | (with_reducible refine ImpB.mk fun hb => ?_) | (with_reducible refine ImpK.mk fun hK => ?_) | (with_reducible refine ImpF.mk fun hF => ?_) | (with_reducible refine AllK.mk fun K => ?_))))); repeat' (with_reducible refine And.intro ?_ ?_))
            all_goals first | exact Nat.le_refl _ | exact br_ro | exact br_ro0 | exact Int.natCast_nonneg _ | omega | (simp only [frObH, frObC, frOb, frObL]; simp; done) | (focus ((focus (refine ⟨_, _, Gh.refl, [], rfl, ?_⟩; (refine ⟨?_, ?_, ?_⟩ <;> simp only [go_sem, List.range, List.range.loop, List.nodup_cons, List.nodup_nil, List.mem_cons, List.not_mem_nil, or_false, or_self, Int.reduceToNat, Nat.min_eq_left, Nat.min_eq_right, Int.reducePow, Nat.reducePow, Int.reduceLE, Int.reduceLT, Int.reduceMul, Int.reduceAdd, Int.reduceSub, Int.reduceNeg, Bool.not_true, Bool.not_false, Bool.not_not, ↓reduceIte, Nat.reduceAdd, Nat.reduceSub, Nat.reduceMul, Nat.reduceEqDiff, reduceCtorEq, Nat.reduceLT, Nat.reduceLeDiff, Nat.reduceGT]); (try any_goals (refine ⟨?_, ?_⟩)); (try any_goals (with_reducible rfl)))); (try decide); done)) | (exfalso; simp at hb; done) | trace_state
    · simp only [Bool.not_eq_true] at hk
      refine w_body (rs := [.tmp 4]) (tm := [.agg (ckL ⟨n1, n2, n3, led, ents, sides, done, n4⟩), .agg (ckL ⟨m1, m2, m3, led', ents', sides', done', m4⟩), .any, .any, .any, .any, .any, .any, .any, .any, .any, .any, .any, .any, .any, .any, .any, .any, .any, .any, .any, .any, .any, .any, .any, .any, .any, .any, .any, .any, .any, .any, .any, .any, .any, .any, .any, .any, .any, .any, .any, .any, .any, .any, .any, .any, .any, .any, .any, .any, .any, .any, .any, .any, .any, .any, .any, .any, .any, .any, .any, .any, .any, .any, .any, .any, .any, .any, .any, .any]) fn_6 rfl rfl rfl rfl fun R hR => ?_
      (have zx1 := @hl; have zx2 := @hk; all_goals (try ((first | (with_reducible refine wp_id ?_) | (with_reducible refine does_id ?_)); refine walk ?_; (repeat' (first | exact trivial | with_reducible refine And.intro ?_ ?_)); all_goals (repeat (first | (with_reducible refine ImpB.mk fun hb => ?_) | (with_reducible refine ImpK.mk fun hK => ?_) | (with_reducible refine ImpF.mk fun hF => ?_) | (with_reducible refine AllK.mk fun K => ?_))))); repeat' (with_reducible refine And.intro ?_ ?_))
      all_goals first | exact Nat.le_refl _ | exact br_ro | exact br_ro0 | omega | (simp only [frObH, frObC, frOb, frObL]; simp; done) | (focus ((focus (refine ⟨_, _, Gh.refl, [], rfl, ?_⟩; (refine ⟨?_, ?_, ?_⟩ <;> simp only [go_sem, List.range, List.range.loop, List.nodup_cons, List.nodup_nil, List.mem_cons, List.not_mem_nil, or_false, or_self, Int.reduceToNat, Nat.min_eq_left, Nat.min_eq_right, Int.reducePow, Nat.reducePow, Int.reduceLE, Int.reduceLT, Int.reduceMul, Int.reduceAdd, Int.reduceSub, Int.reduceNeg, Bool.not_true, Bool.not_false, Bool.not_not, ↓reduceIte, Nat.reduceAdd, Nat.reduceSub, Nat.reduceMul, Nat.reduceEqDiff, reduceCtorEq, Nat.reduceLT, Nat.reduceLeDiff, Nat.reduceGT]); (try any_goals (refine ⟨?_, ?_⟩)); (try any_goals (with_reducible rfl)))); (try decide); done)) | (exfalso; simp at hb; done) | trace_state
  · simp only [Bool.not_eq_true] at hl
    refine w_body (rs := [.tmp 4]) (tm := [.agg (ckL ⟨n1, n2, n3, led, ents, sides, done, n4⟩), .agg (ckL ⟨m1, m2, m3, led', ents', sides', done', m4⟩), .any, .any, .any, .any, .any, .any, .any, .any, .any, .any, .any, .any, .any, .any, .any, .any, .any, .any, .any, .any, .any, .any, .any, .any, .any, .any, .any, .any, .any, .any, .any, .any, .any, .any, .any, .any, .any, .any, .any, .any, .any, .any, .any, .any, .any, .any, .any, .any, .any, .any, .any, .any, .any, .any, .any, .any, .any, .any, .any, .any, .any, .any, .any, .any, .any, .any, .any, .any]) fn_6 rfl rfl rfl rfl fun R hR => ?_
    (have zx1 := @hl; all_goals (try ((first | (with_reducible refine wp_id ?_) | (with_reducible refine does_id ?_)); refine walk ?_; (repeat' (first | exact trivial | with_reducible refine And.intro ?_ ?_)); all_goals (repeat (first | (with_reducible refine ImpB.mk fun hb => ?_) | (with_reducible refine ImpK.mk fun hK => ?_) | (with_reducible refine ImpF.mk fun hF => ?_) | (with_reducible refine AllK.mk fun K => ?_))))); repeat' (with_reducible refine And.intro ?_ ?_))
    all_goals first | exact Nat.le_refl _ | exact br_ro | exact br_ro0 | omega | (simp only [frObH, frObC, frOb, frObL]; simp; done) | (focus ((focus (refine ⟨_, _, Gh.refl, [], rfl, ?_⟩; (refine ⟨?_, ?_, ?_⟩ <;> simp only [go_sem, List.range, List.range.loop, List.nodup_cons, List.nodup_nil, List.mem_cons, List.not_mem_nil, or_false, or_self, Int.reduceToNat, Nat.min_eq_left, Nat.min_eq_right, Int.reducePow, Nat.reducePow, Int.reduceLE, Int.reduceLT, Int.reduceMul, Int.reduceAdd, Int.reduceSub, Int.reduceNeg, Bool.not_true, Bool.not_false, Bool.not_not, ↓reduceIte, Nat.reduceAdd, Nat.reduceSub, Nat.reduceMul, Nat.reduceEqDiff, reduceCtorEq, Nat.reduceLT, Nat.reduceLeDiff, Nat.reduceGT]); (try any_goals (refine ⟨?_, ?_⟩)); (try any_goals (with_reducible rfl)))); (try decide); done)) | (exfalso; simp at hb; done) | trace_state
end Go.V

namespace Go.V
/-- all that lies in the memory at the start lies for good -/
def oldR (w : World) : RO := fun b => w.heap[b]?
theorem old_ok (w : World) : HOk (oldR w) [] [] w := ⟨trivial, by simp [ownH], fun b hb => by simp [ownH] at hb, fun _ _ h => h⟩
theorem cell_of {w : World} {a : Addr} {v : Value} (h : w.cell? a = some v) : a.spot = none ∧ ∃ arr ty fr, w.heap[a.block]? = some (.cells arr ty fr) ∧ arr[a.off]? = some v := by
  unfold World.cell? at h
  split at h
  · rename_i c ty fr hc
    split at h
    · simp at h
    · rename_i hs
      exact ⟨by simpa using hs, c, ty, fr, hc, h⟩
  · simp at h
theorem add_block (a : Addr) (i : Nat) : (a.add i).block = a.block := by
  unfold Addr.add
  split <;> rfl
theorem add_off (a : Addr) (i : Nat) : (a.add i).off = a.off + i := by
  unfold Addr.add
  split
  · simp_all
  · rfl
/-- some cells in a row -/
theorem cells_of {w : World} {base : Nat} {a : Addr} {n : Nat} {cs : List Value} (h : w.cells? base a n = some cs) (hn : 0 < n) : a.spot = none ∧ ∃ arr ty fr, w.heap[a.block]? = some (.cells arr ty fr) ∧ (arr.toList.drop a.off).take n = cs := by
  obtain ⟨_, hl, hg⟩ := World.cells?_some h
  have h0 := hg 0 hn
  rw [List.getElem?_eq_getElem (by omega)] at h0
  obtain ⟨hs, arr, ty, fr, hb, _⟩ := cell_of h0
  rw [add_block] at hb
  refine ⟨by simpa [Addr.add] using hs, arr, ty, fr, hb, ?_⟩
  apply List.ext_getElem?
  intro i
  by_cases hi : i < n
  · have h1 := hg i hi
    rw [List.getElem?_eq_getElem (show i < cs.length by omega)] at h1
    obtain ⟨_, arr', ty', fr', hb', h2⟩ := cell_of h1
    rw [add_block, hb] at hb'
    cases hb'
    rw [add_off] at h2
    rw [List.getElem?_take_of_lt hi, List.getElem?_drop, List.getElem?_eq_getElem (show i < cs.length by omega)]
    simpa using h2
  · rw [List.getElem?_eq_none (by simp; omega), List.getElem?_eq_none (by omega)]
/-- a type: what reads as data of it lies as one of these lists of abstract values -/
def Opens (P : Program) (w : World) (t : TypeId) (S : List AV → Prop) : Prop :=
  ∀ (H : Type) (enc : TypeId × Value → H) (base : Nat) (spare : Nat → Bool) (held : Bool) (fuel : Nat) (cs : List Value) (x : DataW H × List MemPlace), DataW.trod enc P w base spare held fuel t cs = some x → ∃ l, S l ∧ LRel (oldR w) [] l cs
section
variable {P : Program} {w : World}
theorem Opens.mono {t : TypeId} {S S' : List AV → Prop} (h : Opens P w t S) (hs : ∀ l, S l → S' l) : Opens P w t S' := fun H enc base spare held fuel cs x hx => by
  obtain ⟨l, h1, h2⟩ := h H enc base spare held fuel cs x hx
  exact ⟨l, hs l h1, h2⟩
theorem Opens.int {t : TypeId} {k : IntKind} (ht : P.underlying t = some (.int k)) : Opens P w t fun l => ∃ n, k.has n ∧ l = [.int k n] := fun H enc base spare held fuel cs x hx => by
  cases fuel with
  | zero => simp [DataW.trod] at hx
  | succ fuel =>
    unfold DataW.trod at hx
    simp only [ht] at hx
    split at hx
    all_goals first | (rename_i h1 _; cases h1; done) | skip
    all_goals simp_all
    rename_i k' n h1
    subst h1
    obtain ⟨⟨rfl, h2⟩, _⟩ := hx
    exact ⟨_, ⟨n, by simpa [Lit.wf, IntKind.has] using h2, rfl⟩, .cons .int .nil⟩
theorem Opens.bool {t : TypeId} (ht : P.underlying t = some .bool) : Opens P w t fun l => ∃ b, l = [.bool b] := fun H enc base spare held fuel cs x hx => by
  cases fuel with
  | zero => simp [DataW.trod] at hx
  | succ fuel =>
    unfold DataW.trod at hx
    simp only [ht] at hx
    split at hx
    all_goals simp_all
    rename_i b
    cases b
    · exact .inl (.cons .bool .nil)
    · exact .inr (.cons .bool .nil)
theorem Opens.str {t : TypeId} (ht : P.underlying t = some .string) : Opens P w t fun l => ∃ s : List UInt8, s.length ≤ maxLen ∧ l = [.str s] := fun H enc base spare held fuel cs x hx => by
  cases fuel with
  | zero => simp [DataW.trod] at hx
  | succ fuel =>
    unfold DataW.trod at hx
    simp only [ht] at hx
    split at hx
    all_goals simp_all
    rename_i s
    exact ⟨[.str s.data.toList], ⟨_, by simpa using hx.1, rfl⟩, .cons .str .nil⟩
theorem Opens.struct {t : TypeId} {fs : Array Field} {Ss : List (List AV → Prop)} (ht : P.underlying t = some (.struct fs)) (hl : fs.size = Ss.length)
    (hS : ∀ (i : Nat) (f : Field) (S : List AV → Prop), fs[i]? = some f → Ss[i]? = some S → Opens P w f.type S)
    (hoff : ∀ (i : Nat) (f : Field), fs[i]? = some f → f.offset = ((fs.toList.take i).map fun g => P.cellsOf g.type).sum) (hsz : P.cellsOf t = (fs.toList.map fun g => P.cellsOf g.type).sum) :
    Opens P w t fun l => ∃ ls : List (List AV), ls.length = Ss.length ∧ (∀ (i : Nat) (S : List AV → Prop) (m : List AV), Ss[i]? = some S → ls[i]? = some m → S m) ∧ l = ls.flatten := fun H enc base spare held fuel cs x hx => by
  obtain ⟨xs, n, _, _, hlen, hxs, hf⟩ := DataW.trod_struct ht hx
  have key : ∀ k, k ≤ fs.size → ∃ ls : List (List AV), ls.length = k ∧ (∀ (i : Nat) (S : List AV → Prop) (m : List AV), Ss[i]? = some S → ls[i]? = some m → S m) ∧ LRel (oldR w) [] ls.flatten (cs.take (((fs.toList.take k).map fun g => P.cellsOf g.type).sum)) := by
    intro k
    induction k with
    | zero => intro _; exact ⟨[], rfl, fun i S m _ h => by simp at h, by simp; exact .nil⟩
    | succ k ih =>
      intro hk
      obtain ⟨ls, h1, h2, h3⟩ := ih (by omega)
      have hfk : fs[k]? = some fs[k] := by simp [show k < fs.size by omega]
      have hSk : Ss[k]? = some (Ss[k]'(by omega)) := by simp [show k < Ss.length by omega]
      have hx := hf k _ hfk
      rw [List.getElem?_eq_getElem (by omega)] at hx
      obtain ⟨m, h4, h5⟩ := hS k _ _ hfk hSk H enc base spare held n _ _ hx
      refine ⟨ls ++ [m], by simp [h1], fun i S m' hS' hm' => ?_, ?_⟩
      · by_cases hi : i < ls.length
        · rw [List.getElem?_append_left hi] at hm'
          exact h2 i S m' hS' hm'
        · have : i = k := by
            have := (List.getElem?_eq_some_iff.1 hm').1
            simp at this
            omega
          subst this
          rw [List.getElem?_append_right (by omega), h1] at hm'
          simp at hm'
          subst hm'
          rw [hSk] at hS'
          cases hS'
          exact h4
      · rw [List.flatten_append, List.flatten_singleton, List.take_succ_eq_append_getElem (show k < fs.toList.length by simp; omega), List.map_append, List.sum_append, List.take_add]
        rw [hoff k _ hfk] at h5
        have e : fs.toList[k] = fs[k] := by simp
        rw [e]
        simp only [List.map_cons, List.map_nil, List.sum_cons, List.sum_nil, Nat.add_zero]
        exact h3.app h5
  obtain ⟨ls, h1, h2, h3⟩ := key fs.size (Nat.le_refl _)
  refine ⟨ls.flatten, ⟨ls, by omega, h2, rfl⟩, ?_⟩
  rw [List.take_of_length_le (l := fs.toList) (by simp), ← hsz, ← hlen, List.take_length] at h3
  exact h3
def OpL (P : Program) (w : World) : List Field → List (List AV → Prop) → Prop
  | [], [] => True
  | f :: fs, S :: Ss => Opens P w f.type S ∧ OpL P w fs Ss
  | _, _ => False
def offB (P : Program) : List Field → Nat → Bool
  | [], _ => true
  | f :: fs, n => (f.offset == n) && offB P fs (n + P.cellsOf f.type)
theorem OpL.len : ∀ {fs : List Field} {Ss : List (List AV → Prop)}, OpL P w fs Ss → fs.length = Ss.length
  | [], [], _ => rfl
  | _ :: _, _ :: _, h => by simp [OpL.len h.2]
  | [], _ :: _, h => h.elim
  | _ :: _, [], h => h.elim
theorem OpL.get : ∀ {fs : List Field} {Ss : List (List AV → Prop)} (i : Nat) {f : Field} {S : List AV → Prop}, OpL P w fs Ss → fs[i]? = some f → Ss[i]? = some S → Opens P w f.type S
  | _ :: _, _ :: _, 0, _, _, h, e1, e2 => by simp at e1 e2; subst e1; subst e2; exact h.1
  | _ :: _, _ :: _, i + 1, _, _, h, e1, e2 => OpL.get i h.2 (by simpa using e1) (by simpa using e2)
  | [], [], _, _, _, _, e1, _ => by simp at e1
  | [], _ :: _, _, _, _, h, _, _ => h.elim
  | _ :: _, [], _, _, _, h, _, _ => h.elim
theorem offB_get : ∀ {fs : List Field} {n : Nat} (i : Nat) {f : Field}, offB P fs n = true → fs[i]? = some f → f.offset = n + ((fs.take i).map fun g => P.cellsOf g.type).sum
  | _ :: _, _, 0, _, h, e => by
    simp at e
    subst e
    simp only [offB, Bool.and_eq_true, beq_iff_eq] at h
    simpa using h.1
  | g :: fs, n, i + 1, _, h, e => by
    simp only [offB, Bool.and_eq_true, beq_iff_eq] at h
    have := offB_get i h.2 (by simpa using e)
    simp only [List.take_succ_cons, List.map_cons, List.sum_cons]
    omega
  | [], _, _, _, _, e => by simp at e
/-- a struct's fields lie one behind the other -/
theorem Opens.fields {t : TypeId} {fl : List Field} {Ss : List (List AV → Prop)} (ht : P.underlying t = some (.struct fl.toArray)) (hS : OpL P w fl Ss) (ho : offB P fl 0 = true) (hsz : P.cellsOf t = (fl.map fun g => P.cellsOf g.type).sum) :
    Opens P w t fun l => ∃ ls : List (List AV), ls.length = Ss.length ∧ (∀ (i : Nat) (S : List AV → Prop) (m : List AV), Ss[i]? = some S → ls[i]? = some m → S m) ∧ l = ls.flatten :=
  Opens.struct ht (by simpa using hS.len) (fun i f S h1 h2 => hS.get i (by simpa using h1) h2) (fun i f h => by simpa using offB_get i ho (by simpa using h)) hsz
/-- slices: of the kind of elements e, each as `ok` says -/
theorem Opens.slice {t te : TypeId} {e : Ety} {S : List AV → Prop} {ok : e.T → Prop} (ht : P.underlying t = some (.slice te)) (hsz : P.cellsOf te = e.sz) (he : Opens P w te S) (hok : ∀ l, S l → ∃ x : e.T, e.enc x = l ∧ ok x) :
    Opens P w t fun l => ∃ xs : List e.T, xs.length ≤ maxLen ∧ (∀ x ∈ xs, ok x) ∧ l = [.ro e xs] := fun H enc base spare held fuel cs x hx => by
  rcases DataW.trod_slice ht hx with ⟨rfl, _⟩ | ⟨a, len, cap, elems, rest, n, _, rfl, _, _, hlc, hcm, hel, hg, _⟩
  · exact ⟨[.ro e []], ⟨[], by simp, by simp, rfl⟩, .cons (.ro0 (Nat.zero_le _)) .nil⟩
  · by_cases h0 : len = 0
    · subst h0
      exact ⟨[.ro e []], ⟨[], by simp, by simp, rfl⟩, .cons (.ro0 hcm) .nil⟩
    · have hz := e.sz_pos
      have each : ∀ i, i < len → ∃ (m : e.T) (cs' : List Value), ok m ∧ LRel (oldR w) [] (e.enc m) cs' ∧ w.cells? base (a.add (i * e.sz)) e.sz = some cs' := by
        intro i hi
        have h1 := hg i hi
        rw [List.getElem?_eq_getElem (by omega), hsz] at h1
        obtain ⟨cs', h2, h3⟩ := Option.bind_eq_some_iff.1 h1
        obtain ⟨l, h4, h5⟩ := he H enc base spare held n _ _ h3
        obtain ⟨m, rfl, h6⟩ := hok l h4
        exact ⟨m, cs', h6, h5, h2⟩
      obtain ⟨_, _, _, _, hc0⟩ := each 0 (by omega)
      obtain ⟨hs, arr, ty, fr, hb, _⟩ := cells_of hc0 hz
      have hs0 : a.spot = none := by
        rw [Nat.zero_mul] at hs
        simpa [Addr.add] using hs
      rw [add_block] at hb
      have key : ∀ k, k ≤ len → ∃ xs : List e.T, xs.length = k ∧ (∀ x ∈ xs, ok x) ∧ LRel (oldR w) [] (xs.flatMap e.enc) ((arr.toList.drop a.off).take (k * e.sz)) := by
        intro k
        induction k with
        | zero => intro _; exact ⟨[], rfl, by simp, by simp; exact .nil⟩
        | succ k ih =>
          intro hk
          obtain ⟨xs, h1, h2, h3⟩ := ih (by omega)
          obtain ⟨m, cs', h4, h5, h6⟩ := each k (by omega)
          obtain ⟨_, arr', ty', fr', hb', h7⟩ := cells_of h6 hz
          rw [add_block, hb] at hb'
          cases hb'
          rw [add_off] at h7
          refine ⟨xs ++ [m], by simp [h1], fun x hx => ?_, ?_⟩
          · rcases List.mem_append.1 hx with hx | hx
            · exact h2 x hx
            · rw [List.mem_singleton] at hx
              subst hx
              exact h4
          · rw [List.flatMap_append, List.flatMap_singleton, Nat.succ_mul, List.take_add, List.drop_drop, h7]
            exact h3.app h5
      obtain ⟨xs, h1, h2, h3⟩ := key len (Nat.le_refl _)
      refine ⟨[.ro e xs], ⟨xs, by omega, h2, rfl⟩, .cons ?_ .nil⟩
      obtain ⟨ab, ao, sp⟩ := a
      simp only at hs0
      subst hs0
      rw [← h1]
      exact .ro hb (by rw [h1]; exact h3) (by omega) hcm
/-! ### Arguments -/
def OpensV (P : Program) (w : World) (t : TypeId) (S : AV → Prop) : Prop :=
  ∀ (H : Type) (enc : TypeId × Value → H) (r : Reach) (b0 : Nat) (v : Value) (d : DataW H) (p : List MemPlace), Value.okWide P w r b0 t v → DataW.Trod enc P w 0 (fun _ => true) true t v d p → ∃ a, S a ∧ Rel (oldR w) [] a v
theorem Opens.argS {t : TypeId} {fs : Array Field} {S : List AV → Prop} (ht : P.underlying t = some (.struct fs)) (h : Opens P w t S) : OpensV P w t fun a => ∃ l, S l ∧ a = .agg l := fun H enc r b0 v d p hv hd => by
  obtain ⟨fuel, hd⟩ := hd
  obtain ⟨l, h1, h2⟩ := h H enc _ _ _ fuel _ _ hd
  unfold Value.okWide at hv
  simp only [ht] at hv
  obtain ⟨cs, rfl, _, _⟩ := hv
  exact ⟨.agg l, ⟨l, h1, rfl⟩, by simpa [Value.cells] using Rel.agg h2⟩
theorem Opens.arg1 {t : TypeId} {S : List AV → Prop} (h : Opens P w t S) (ht : ∀ v r b0, Value.okWide P w r b0 t v → v.cells = #[v]) : OpensV P w t fun a => S [a] := fun H enc r b0 v d p hv hd => by
  obtain ⟨fuel, hd⟩ := hd
  obtain ⟨l, h1, h2⟩ := h H enc _ _ _ fuel _ _ hd
  rw [ht v r b0 hv] at h2
  cases h2 with
  | cons h3 h4 =>
    cases h4
    exact ⟨_, h1, h3⟩
theorem one_of {t : TypeId} {u : TypeDesc} (ht : P.underlying t = some u) (hu : (match u with | .bool | .int _ | .string | .slice _ => true | _ => false) = true) (v : Value) (r : Reach) (b0 : Nat) (hv : Value.okWide P w r b0 t v) : v.cells = #[v] := by
  unfold Value.okWide at hv
  cases u <;> simp at hu <;> simp only [ht] at hv <;> unfold Cell.okWide Cell.ok at hv <;> simp only [ht] at hv <;> cases v <;> first | rfl | (simp at hv; done)
end
/-- a call over nothing but what lies for good leaves what lay there as it is -/
theorem does_calls {P : Program} {g : FuncId} {xs : List AV} {S : AV → Prop} {vs : List Value} {w : World} (H : Does P g xs [] fun a _ => S a) (hr : LRel (oldR w) [] xs vs) : Calls P g vs.toArray w fun e w' => (∃ v a R μ, e = .returned v ∧ S a ∧ Rel R μ a v) ∧ Go.RowKit.Below w.heap.size w w' :=
  (H.run (oldR w) [] w vs hr (old_ok w)).mono fun e w' hx => by
    obtain ⟨v, R', μ', h', av, rfl, h1, h2, _, _, h3⟩ := hx
    exact ⟨⟨v, av, R', μ', rfl, h1, h2⟩, h3.os, h3.tape, h3.output, h3.size, fun k hk => h3.out k hk (by simp [ownH])⟩
theorem does_true {P : Program} {g : FuncId} {xs : List AV} {vs : List Value} {w : World} (H : Does P g xs [] fun a _ => a = .bool true) (hr : LRel (oldR w) [] xs vs) : Calls P g vs.toArray w fun e w' => e = .returned (.bool true) ∧ Go.RowKit.Below w.heap.size w w' :=
  (does_calls H hr).mono fun e w' hx => by
    obtain ⟨⟨v, a, R, μ, rfl, rfl, h2⟩, hb⟩ := hx
    cases h2
    exact ⟨rfl, hb⟩
end Go.V

set_option maxRecDepth 100000
namespace Go.V
open Go.Proofs
theorem op_int (w : World) : Opens Try.prog w 3 fun l => ∃ n, IntKind.i64.has n ∧ l = [.int .i64 n] := Opens.int Try.underlying3
theorem op_ints (w : World) : Opens Try.prog w 24 fun l => ∃ xs : List Int, xs.length ≤ maxLen ∧ (∀ x ∈ xs, IntKind.i64.has x) ∧ l = [.ro .int xs] :=
  Opens.slice (e := .int) (ok := fun x => IntKind.i64.has x) Try.underlying24 (by kernel_rfl) (op_int w) fun l ⟨n, h, e⟩ => ⟨n, e.symm, h⟩
theorem byte_enc {n : Int} (h : IntKind.u8.has n) : Ety.enc .byte (UInt8.ofNat n.toNat) = [.int .u8 n] := by
  have h1 : 0 ≤ n ∧ n ≤ 255 := h
  have : ((UInt8.ofNat n.toNat).toNat : Int) = n := by simp; omega
  show [AV.int .u8 ((UInt8.ofNat n.toNat).toNat : Int)] = _
  rw [this]
theorem op_bytes (w : World) : Opens Try.prog w 22 fun l => ∃ xs : List UInt8, xs.length ≤ maxLen ∧ (∀ x ∈ xs, True) ∧ l = [.ro .byte xs] :=
  Opens.slice (e := .byte) (ok := fun _ => True) Try.underlying22 (by kernel_rfl) (Opens.int Try.underlying5) fun l ⟨n, h, e⟩ => ⟨UInt8.ofNat n.toNat, by rw [e]; exact byte_enc h, trivial⟩
theorem op_cmd (w : World) : Opens Try.prog w 79 fun l => ∃ c : Cmd, l = [.int .i64 c.src, .int .i64 c.num, .int .i64 c.srv, .ro .int c.args, .ro .byte c.data] := by
  refine (Opens.fields Try.underlying79 (Ss := [_, _, _, _, _]) ⟨op_int w, op_int w, op_int w, op_ints w, op_bytes w, trivial⟩ (by kernel_rfl) (by kernel_rfl)).mono ?_
  rintro l ⟨ls, h1, h2, rfl⟩
  obtain ⟨a, b, c, d, e, rfl⟩ : ∃ a b c d e, ls = [a, b, c, d, e] := by
    match ls, h1 with
    | [a, b, c, d, e], _ => exact ⟨a, b, c, d, e, rfl⟩
  obtain ⟨x, _, rfl⟩ := h2 0 _ _ rfl rfl
  obtain ⟨y, _, rfl⟩ := h2 1 _ _ rfl rfl
  obtain ⟨z, _, rfl⟩ := h2 2 _ _ rfl rfl
  obtain ⟨xs, _, _, rfl⟩ := h2 3 _ _ rfl rfl
  obtain ⟨ys, _, _, rfl⟩ := h2 4 _ _ rfl rfl
  exact ⟨⟨x, y, z, xs, ys⟩, rfl⟩
theorem op_ent (w : World) : Opens Try.prog w 81 fun l => ∃ x : Ent, l = Ety.enc .ent x := by
  refine (Opens.fields Try.underlying81 (Ss := [_, _, _, _]) ⟨op_int w, op_int w, op_int w, op_cmd w, trivial⟩ (by kernel_rfl) (by kernel_rfl)).mono ?_
  rintro l ⟨ls, h1, h2, rfl⟩
  obtain ⟨a, b, c, d, rfl⟩ : ∃ a b c d, ls = [a, b, c, d] := by
    match ls, h1 with
    | [a, b, c, d], _ => exact ⟨a, b, c, d, rfl⟩
  obtain ⟨x, _, rfl⟩ := h2 0 _ _ rfl rfl
  obtain ⟨y, _, rfl⟩ := h2 1 _ _ rfl rfl
  obtain ⟨z, _, rfl⟩ := h2 2 _ _ rfl rfl
  obtain ⟨k, rfl⟩ := h2 3 _ _ rfl rfl
  exact ⟨⟨x, y, z, k⟩, rfl⟩
theorem op_fid (w : World) : Opens Try.prog w 49 fun l => ∃ x : Fid, l = Ety.enc .fid x := by
  refine (Opens.fields Try.underlying49 (Ss := [_, _]) ⟨op_int w, op_int w, trivial⟩ (by kernel_rfl) (by kernel_rfl)).mono ?_
  rintro l ⟨ls, h1, h2, rfl⟩
  obtain ⟨a, b, rfl⟩ : ∃ a b, ls = [a, b] := by
    match ls, h1 with
    | [a, b], _ => exact ⟨a, b, rfl⟩
  obtain ⟨x, _, rfl⟩ := h2 0 _ _ rfl rfl
  obtain ⟨y, _, rfl⟩ := h2 1 _ _ rfl rfl
  exact ⟨⟨x, y⟩, rfl⟩
theorem op_ents (w : World) : Opens Try.prog w 23 fun l => ∃ xs : List Ent, xs.length ≤ maxLen ∧ (∀ x ∈ xs, True) ∧ l = [.ro .ent xs] :=
  Opens.slice (e := .ent) (ok := fun _ => True) Try.underlying23 (by kernel_rfl) (op_ent w) fun l ⟨x, e⟩ => ⟨x, e.symm, trivial⟩
theorem op_fids (w : World) : Opens Try.prog w 25 fun l => ∃ xs : List Fid, xs.length ≤ maxLen ∧ (∀ x ∈ xs, True) ∧ l = [.ro .fid xs] :=
  Opens.slice (e := .fid) (ok := fun _ => True) Try.underlying25 (by kernel_rfl) (op_fid w) fun l ⟨x, e⟩ => ⟨x, e.symm, trivial⟩
theorem op_ck (w : World) : Opens Try.prog w 27 fun l => ∃ c : Ck, c.ents.length ≤ maxLen ∧ l = ckL c := by
  refine (Opens.fields Try.underlying27 (Ss := [_, _, _, _, _, _, _, _]) ⟨op_int w, op_int w, op_int w, op_bytes w, op_ents w, op_ints w, op_fids w, op_int w, trivial⟩ (by kernel_rfl) (by kernel_rfl)).mono ?_
  rintro l ⟨ls, h1, h2, rfl⟩
  obtain ⟨a1, a2, a3, a4, a5, a6, a7, a8, rfl⟩ : ∃ a1 a2 a3 a4 a5 a6 a7 a8, ls = [a1, a2, a3, a4, a5, a6, a7, a8] := by
    match ls, h1 with
    | [a1, a2, a3, a4, a5, a6, a7, a8], _ => exact ⟨a1, a2, a3, a4, a5, a6, a7, a8, rfl⟩
  obtain ⟨n1, _, rfl⟩ := h2 0 _ _ rfl rfl
  obtain ⟨n2, _, rfl⟩ := h2 1 _ _ rfl rfl
  obtain ⟨n3, _, rfl⟩ := h2 2 _ _ rfl rfl
  obtain ⟨led, _, _, rfl⟩ := h2 3 _ _ rfl rfl
  obtain ⟨ents, hn, _, rfl⟩ := h2 4 _ _ rfl rfl
  obtain ⟨sides, _, _, rfl⟩ := h2 5 _ _ rfl rfl
  obtain ⟨done, _, _, rfl⟩ := h2 6 _ _ rfl rfl
  obtain ⟨n4, _, rfl⟩ := h2 7 _ _ rfl rfl
  exact ⟨⟨n1, n2, n3, led, ents, sides, done, n4⟩, hn, rfl⟩
theorem arg_bytes (w : World) : OpensV Try.prog w 22 fun a => ∃ s : List UInt8, s.length ≤ maxLen ∧ a = .ro .byte s := fun H enc r b0 v d p hv hd => by
  obtain ⟨a, ⟨n, hl, _, e⟩, h⟩ := (op_bytes w).arg1 (one_of Try.underlying22 rfl) H enc r b0 v d p hv hd
  cases e
  exact ⟨_, ⟨n, hl, rfl⟩, h⟩
theorem arg_ck (w : World) : OpensV Try.prog w 27 fun a => ∃ c : Ck, c.ents.length ≤ maxLen ∧ a = .agg (ckL c) := fun H enc r b0 v d p hv hd => by
  obtain ⟨a, ⟨l, ⟨c, hn, rfl⟩, rfl⟩, h⟩ := (op_ck w).argS Try.underlying27 H enc r b0 v d p hv hd
  exact ⟨_, ⟨c, hn, rfl⟩, h⟩
/-- a law that was walked -/
theorem law_true {g : FuncId} {la : List AV} {vs : List Value} {w : World} (H : DoesK Try.prog 0 g la [] (EndF 0 (.bool true) [])) (hb : brL [] [] la la) (hr : LRel (oldR w) [] la vs) : Calls Try.prog g vs.toArray w fun e w' => e = .returned (.bool true) ∧ Go.RowKit.Below w.heap.size w w' :=
  does_true (frame_pure H hb (.inr rfl) (fun _ => rfl) rfl) hr
end Go.V
