/-
  ref39: Decode; the laws' helpers.
-/
import Derived.Test.YtmfhicbbhncddaaCmd4
set_option linter.unusedVariables false
set_option linter.unusedSimpArgs false
set_option maxRecDepth 100000
set_option maxHeartbeats 1000000
namespace Go.V
open Go.Proofs
attribute [local go_sem] decA
theorem b_light (c : Cmd) : DoesK Try.prog 0 8 [.agg [.int .i64 c.src, .int .i64 c.num, .int .i64 c.srv, .ro .int c.args, .ro .byte c.data]] [] (EndF 0 (.bool (decide (c.args.length ≤ 20) && decide (c.data.length ≤ 600))) []) := by
  refine DoesK.close ?_
  refine w_body (rs := [.tmp 2]) (tm := [.agg [.int .i64 c.src, .int .i64 c.num, .int .i64 c.srv, .ro .int c.args, .ro .byte c.data], .any, .any, .any, .any, .any, .any, .any, .any, .any, .any, .any, .any]) fn_8 rfl rfl rfl rfl fun R hR => ?_
  (all_goals (try ((first | (with_reducible refine wp_id ?_) | (with_reducible refine does_id ?_)); refine walk ?_; (repeat' (first | exact trivial | with_reducible refine And.intro ?_ ?_)); all_goals (repeat (first | (with_reducible refine ImpB.mk fun hb => ?_) | (with_reducible refine ImpK.mk fun hK => ?_) | (with_reducible refine ImpF.mk fun hF => ?_) | (with_reducible refine AllK.mk fun K => ?_))))); repeat' (with_reducible refine And.intro ?_ ?_))
  (all_goals (repeat (first | (clear hK; clear K) | (clear hE; clear E) | (clear hF; clear F) | (clear hR; clear R))); all_goals (try simp only [decide_eq_true_eq, decide_eq_false_iff_not, Bool.not_eq_true', Bool.not_eq_false', Bool.not_eq_true, Bool.not_eq_false, decide_not, decide_true, decide_false, Bool.decide_and, Bool.and_eq_true, Bool.or_eq_true, Bool.and_eq_false_imp, Decidable.not_not] at *); all_goals (try omega); all_goals (try (first | exact u8w_lo _ | exact u8w_hi _ | exact (bits8 _ _ _).1 | exact (bits8 _ _ _).2 | exact Int.natCast_nonneg _ | exact u8_ltI _)))
  all_goals
    (focus (refine ⟨_, _, Gh.refl, [], rfl, ?_⟩; (refine ⟨?_, ?_, ?_⟩ <;> simp only [go_sem, List.range, List.range.loop, List.nodup_cons, List.nodup_nil, List.mem_cons, List.not_mem_nil, or_false, or_self, Int.reduceToNat, Nat.min_eq_left, Nat.min_eq_right, Int.reducePow, Nat.reducePow, Int.reduceLE, Int.reduceLT, Int.reduceMul, Int.reduceAdd, Int.reduceSub, Int.reduceNeg, Bool.not_true, Bool.not_false, Bool.not_not, ↓reduceIte, Nat.reduceAdd, Nat.reduceSub, Nat.reduceMul, Nat.reduceEqDiff, reduceCtorEq, Nat.reduceLT, Nat.reduceLeDiff, Nat.reduceGT]); (try any_goals (refine ⟨?_, ?_⟩)); (try any_goals (with_reducible rfl))))
    first | (simp [*]; done) | (rw [Bool.eq_iff_iff]; simp only [Bool.and_eq_true, decide_eq_true_eq]; omega) | (rw [Bool.eq_false_iff]; simp only [ne_eq, Bool.and_eq_true, decide_eq_true_eq]; omega) | skip
theorem c_light {h : List Ch} {K : KT} {x y z : Int} {args : List Int} {data : List UInt8} {a d : AV} (H : K (.bool (decide (args.length ≤ 20) && decide (data.length ≤ 600))) h) (b1 : brA [] h (.ro .int args) a) (b2 : brA [] h (.ro .byte data) d) : Does Try.prog 8 [.agg [.int .i64 x, .int .i64 y, .int .i64 z, a, d]] h K :=
  frame_pure (b_light ⟨x, y, z, args, data⟩) (br_cmd b1 b2) (.inr rfl) (fun _ => rfl) H
abbrev i_light := Ctr.mk (i := 0) (g := 8) @c_light
attribute [instance] i_light
/-- the slice to decode is owned: it lies for good from here on -/
theorem c_decS {h : List Ch} {K : KT} {t n : Nat} {b : List UInt8} (H : K (decA (decC b)) (frHs t .byte b (h.set t .gone))) (o : hth h t = .rows .byte b) (s1 : n = b.length) (s2 : frObH t .byte b.length h) (s3 : b.length ≤ 1000) : Does Try.prog 14 [.sl t .byte 0 n] h K := by
  subst s1
  refine Does.ghost (gh_frz (e := .byte) (xs := b) o ?_ s2) ?_
  · simp [frObL, frOb]
  · have e : frL t .byte b [.sl t .byte 0 b.length] = [.ro .byte b] := by simp [frL, frA]
    rw [e]
    exact c_dec H isRO_ro s3
abbrev i_decS := Ctr.mk (i := 1) (g := 14) @c_decS
attribute [instance] i_decS
theorem b_awake : DoesK Try.prog 0 12 [] [] (EndF 0 (.bool true) []) := by
  refine DoesK.close ?_
  have hv : validC ⟨1, 300, 1, [], []⟩ = true := by decide
  have hd : decC [UInt8.ofNat 1, UInt8.ofNat 0, UInt8.ofNat 2, UInt8.ofNat 2, UInt8.ofNat 6] = some ⟨1, 2, 2, [3], []⟩ := by decide +kernel
  have he : encC ⟨1, 300, 1, [], []⟩ = [UInt8.ofNat 1, UInt8.ofNat 1, UInt8.ofNat 44, UInt8.ofNat 1] := by decide +kernel
  refine w_body (rs := [.tmp 0]) (tm := [.any, .any, .any, .any, .any, .any, .any, .any, .any, .any, .any, .any, .any, .any, .any, .any, .any, .any, .any, .any, .any, .any, .any, .any, .any, .any, .any, .any, .any, .any, .any, .any, .any, .any, .any, .any, .any, .any, .any, .any, .any, .any, .any, .any, .any, .any, .any, .any, .any]) fn_12 rfl rfl rfl rfl fun R hR => ?_
  (have zx1 := @hd; all_goals (try ((first | (with_reducible refine wp_id ?_) | (with_reducible refine does_id ?_)); refine walk ?_; (repeat' (first | exact trivial | with_reducible refine And.intro ?_ ?_)); all_goals (repeat (first | (with_reducible refine ImpB.mk fun hb => ?_) | (with_reducible refine ImpK.mk fun hK => ?_) | (with_reducible refine ImpF.mk fun hF => ?_) | (with_reducible refine AllK.mk fun K => ?_))))); repeat' (with_reducible refine And.intro ?_ ?_))
  (all_goals (repeat (first | (clear hK; clear K) | (clear hE; clear E) | (clear hF; clear F) | (clear hR; clear R))); all_goals (try simp only [decide_eq_true_eq, decide_eq_false_iff_not, Bool.not_eq_true', Bool.not_eq_false', Bool.not_eq_true, Bool.not_eq_false, decide_not, decide_true, decide_false, Bool.decide_and, Bool.and_eq_true, Bool.or_eq_true, Bool.and_eq_false_imp, Decidable.not_not] at *); all_goals (try omega); all_goals (try (first | exact u8w_lo _ | exact u8w_hi _ | exact (bits8 _ _ _).1 | exact (bits8 _ _ _).2 | exact Int.natCast_nonneg _ | exact u8_ltI _)))
  all_goals first | (exfalso; exact absurd (by assumption : true = false) (by decide)) | (exfalso; exact absurd he (by assumption)) | skip
  · (focus (refine ⟨_, _, Gh.refl, [], rfl, ?_⟩; (refine ⟨?_, ?_, ?_⟩ <;> simp only [go_sem, List.range, List.range.loop, List.nodup_cons, List.nodup_nil, List.mem_cons, List.not_mem_nil, or_false, or_self, Int.reduceToNat, Nat.min_eq_left, Nat.min_eq_right, Int.reducePow, Nat.reducePow, Int.reduceLE, Int.reduceLT, Int.reduceMul, Int.reduceAdd, Int.reduceSub, Int.reduceNeg, Bool.not_true, Bool.not_false, Bool.not_not, ↓reduceIte, Nat.reduceAdd, Nat.reduceSub, Nat.reduceMul, Nat.reduceEqDiff, reduceCtorEq, Nat.reduceLT, Nat.reduceLeDiff, Nat.reduceGT]); (try any_goals (refine ⟨?_, ?_⟩)); (try any_goals (with_reducible rfl))))
    all_goals decide
  · simp [frObH, frObC, frOb]
end Go.V
