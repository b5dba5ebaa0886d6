/-
  ref39: Encode.
-/
import Derived.Test.YtmfhicbbhncddaaCmd2
set_option linter.unusedVariables false
set_option linter.unusedSimpArgs false
set_option maxRecDepth 100000
set_option maxHeartbeats 1000000
namespace Go.V
open Go.Proofs
/-- the reference encodes data where there are any -/
def rencC (c : Cmd) : List UInt8 := be c.src.toNat 1 ++ be c.num.toNat 2 ++ be c.srv.toNat 1 ++ c.args.flatMap encI ++ (if 0 < c.data.length then encI c.data.length ++ c.data else [])
theorem rencC_eq {c : Cmd} (h : validC c = true) : rencC c = encC c := by
  have h8 := ((validC_iff c).1 h).2.2.2.2.2.2.2
  unfold rencC encC
  split at h8
  · rw [if_pos (by omega), if_pos (by assumption)]
  · rw [if_neg (by omega), if_neg (by assumption)]
theorem take_be (n s : Nat) : (be n s).take s = be n s := List.take_of_length_le (by rw [be_len]; exact Nat.le_refl _)
theorem b_renc (c : Cmd) (hv : validC c = true) : DoesK Try.prog 0 13 [.agg [.int .i64 c.src, .int .i64 c.num, .int .i64 c.srv, .ro .int c.args, .ro .byte c.data]] [] (EndF 0 (.sl 0 .byte 0 (encC c).length) [.rows .byte (encC c)]) := by
  refine DoesK.close ?_
  rw [← rencC_eq hv]
  obtain ⟨h1, h2, h3, h4, h5, h6, h7, h8⟩ := (validC_iff c).1 hv
  rw [okS_iff] at h1
  have w1 : IntKind.u64.wrap c.src = (c.src.toNat : Int) := by rw [wrap_u64]; omega
  have w2 : IntKind.u64.wrap c.num = (c.num.toNat : Int) := by rw [wrap_u64]; omega
  have w3 : IntKind.u8.wrap c.srv = (c.srv.toNat : Int) := by rw [wrap_u8]; omega
  have ha3 := arg0_le c.srv
  have hlen : ∀ k, ((c.args.take k).flatMap encI).length ≤ 30 := fun k => by
    have h9 := encs_len (c.args.take k) fun a ha => h7 a (List.mem_of_mem_take ha)
    have h10 : (c.args.take k).length ≤ c.args.length := by rw [List.length_take]; omega
    omega
  have hi : ∀ k, I64 (c.args.getD k 0) := fun k => by
    rw [List.getD_eq_getElem?_getD]
    cases e : c.args[k]? with
    | none => constructor <;> decide
    | some x =>
      have := h7 x (List.mem_of_getElem? e)
      rw [Option.getD_some]
      constructor <;> omega
  have hl : c.args.length ≤ 1099511627776 := by omega
  have hd : c.data.length ≤ 512 := by split at h8 <;> omega
  have hel := encI_le c.data.length (by constructor <;> omega)
  refine w_body (rs := [.tmp 2]) (tm := [.agg [.int .i64 c.src, .int .i64 c.num, .int .i64 c.srv, .ro .int c.args, .ro .byte c.data], .any, .any, .any, .any, .any, .any, .any, .any, .any, .any, .any, .any, .any, .any, .any, .any, .any, .any, .any, .any, .any, .any, .any, .any, .any, .any, .any, .any, .any, .any, .any, .any, .any, .any, .any, .any, .any, .any, .any, .any, .any, .any, .any, .any]) fn_13 rfl rfl rfl rfl fun R hR => ?_
  (have zx1 := @w1; have zx2 := @w2; have zx3 := @w3; have zx4 := @be_len; have zx5 := @take_be; all_goals (try ((first | (with_reducible refine wp_id ?_) | (with_reducible refine does_id ?_)); refine walk ?_; (repeat' (first | exact trivial | with_reducible refine And.intro ?_ ?_)); all_goals (repeat (first | (with_reducible refine ImpB.mk fun hb => ?_) | (with_reducible refine ImpK.mk fun hK => ?_) | (with_reducible refine ImpF.mk fun hF => ?_) | (with_reducible refine AllK.mk fun K => ?_))))); repeat' (with_reducible refine And.intro ?_ ?_))
  any_goals (refine w_loop (A := Nat) (fun k => k ≤ c.args.length) (fun k => c.args.length - k) (fun k => [(19, .any), (4, .int .i64 k), (3, .sl 5 .byte 0 (4 + ((c.args.take k).flatMap encI).length))]) (fun k => [(5, .rows .byte (be c.src.toNat 1 ++ be c.num.toNat 2 ++ be c.srv.toNat 1 ++ (c.args.take k).flatMap encI))]) (0) (ws := ?ws1) (tk := ?tk1) ?hw1 ?ht1 ?hi ?h0 ?H1; (case hw1 => simp only [go_sem, Int.reduceToNat, Nat.min_eq_left, Nat.min_eq_right, Int.reducePow, Nat.reducePow, Int.reduceLE, Int.reduceLT, Int.reduceMul, Int.reduceAdd, Int.reduceSub, Int.reduceNeg, Bool.not_true, Bool.not_false, Bool.not_not, ↓reduceIte, Nat.reduceAdd, Nat.reduceSub, Nat.reduceMul, Nat.reduceEqDiff, reduceCtorEq, Nat.reduceLT, Nat.reduceLeDiff, Nat.reduceGT]; exact rfl); (case ht1 => simp only [go_sem, Int.reduceToNat, Nat.min_eq_left, Nat.min_eq_right, Int.reducePow, Nat.reducePow, Int.reduceLE, Int.reduceLT, Int.reduceMul, Int.reduceAdd, Int.reduceSub, Int.reduceNeg, Bool.not_true, Bool.not_false, Bool.not_not, ↓reduceIte, Nat.reduceAdd, Nat.reduceSub, Nat.reduceMul, Nat.reduceEqDiff, reduceCtorEq, Nat.reduceLT, Nat.reduceLeDiff, Nat.reduceGT]; exact rfl); (case' H1 => rintro k E t hx hE ht; simp only [go_sem] at ht; subst ht; simp only [go_sem]; try dsimp only at hx))
  (have zx1 := @hi; have zx2 := @be_len; all_goals (try ((first | (with_reducible refine wp_id ?_) | (with_reducible refine does_id ?_)); refine walk ?_; (repeat' (first | exact trivial | with_reducible refine And.intro ?_ ?_)); all_goals (repeat (first | (with_reducible refine ImpB.mk fun hb => ?_) | (with_reducible refine ImpK.mk fun hK => ?_) | (with_reducible refine ImpF.mk fun hF => ?_) | (with_reducible refine AllK.mk fun K => ?_))))); repeat' (with_reducible refine And.intro ?_ ?_))
  (all_goals (repeat (first | (clear hK; clear K) | (clear hE; clear E) | (clear hF; clear F) | (clear hR; clear R))); all_goals (try simp only [decide_eq_true_eq, decide_eq_false_iff_not, Bool.not_eq_true', Bool.not_eq_false', Bool.not_eq_true, Bool.not_eq_false, decide_not, decide_true, decide_false, Bool.decide_and, Bool.and_eq_true, Bool.or_eq_true, Bool.and_eq_false_imp, Decidable.not_not] at *); all_goals (try omega); all_goals (try (first | exact u8w_lo _ | exact u8w_hi _ | exact (bits8 _ _ _).1 | exact (bits8 _ _ _).2 | exact Int.natCast_nonneg _ | exact u8_ltI _)))
  all_goals first
    | exact hi k
    | (have h11 := hlen k; have h12 := encI_le _ (hi k); (try simp only [List.length_append, be_len]); omega)
    | skip
  · refine ⟨k + 1, ⟨by first | omega | (dsimp only; omega), by first | omega | (dsimp only; omega)⟩, ?_⟩
    have hk : k < c.args.length := by omega
    have e : (c.args.take (k + 1)).flatMap encI = (c.args.take k).flatMap encI ++ encI (c.args.getD k 0) := by
      rw [List.take_succ_eq_append_getElem hk, List.flatMap_append, List.getD_eq_getElem?_getD, List.getElem?_eq_getElem hk]
      simp
    (focus (refine ⟨_, _, Gh.refl, [0, 1, 2, 3, 4, 7], rfl, ?_⟩; (refine ⟨?_, ?_, ?_⟩ <;> simp only [go_sem, List.range, List.range.loop, List.nodup_cons, List.nodup_nil, List.mem_cons, List.not_mem_nil, or_false, or_self, Int.reduceToNat, Nat.min_eq_left, Nat.min_eq_right, Int.reducePow, Nat.reducePow, Int.reduceLE, Int.reduceLT, Int.reduceMul, Int.reduceAdd, Int.reduceSub, Int.reduceNeg, Bool.not_true, Bool.not_false, Bool.not_not, ↓reduceIte, Nat.reduceAdd, Nat.reduceSub, Nat.reduceMul, Nat.reduceEqDiff, reduceCtorEq, Nat.reduceLT, Nat.reduceLeDiff, Nat.reduceGT]); (try any_goals (refine ⟨?_, ?_⟩)); (try any_goals (with_reducible rfl))))
    all_goals first | rw [e] | skip
    all_goals first | (first | with_reducible rfl | omega | ((simp (disch := omega) only [wrap_i64]); first | done | omega) | (simp only [List.append_assoc, List.cons_append, List.nil_append]; done)) | (simp only [List.length_append]; omega) | (simp only [List.append_assoc]; done) | skip
  · have hk : c.args.take k = c.args := List.take_of_length_le (by omega)
    rw [hk, rencC, if_pos (by omega)]
    (focus (refine ⟨_, _, Gh.refl, [7], rfl, ?_⟩; (refine ⟨?_, ?_, ?_⟩ <;> simp only [go_sem, List.range, List.range.loop, List.nodup_cons, List.nodup_nil, List.mem_cons, List.not_mem_nil, or_false, or_self, Int.reduceToNat, Nat.min_eq_left, Nat.min_eq_right, Int.reducePow, Nat.reducePow, Int.reduceLE, Int.reduceLT, Int.reduceMul, Int.reduceAdd, Int.reduceSub, Int.reduceNeg, Bool.not_true, Bool.not_false, Bool.not_not, ↓reduceIte, Nat.reduceAdd, Nat.reduceSub, Nat.reduceMul, Nat.reduceEqDiff, reduceCtorEq, Nat.reduceLT, Nat.reduceLeDiff, Nat.reduceGT]); (try any_goals (refine ⟨?_, ?_⟩)); (try any_goals (with_reducible rfl))))
    all_goals first | (simp [List.append_assoc, be_len, Nat.add_assoc]; done) | (rw [List.take_of_length_le (by simp)])
  · have hk : c.args.take k = c.args := List.take_of_length_le (by omega)
    rw [hk, rencC, if_neg (by omega), List.append_nil]
    (focus (refine ⟨_, _, Gh.refl, [5], rfl, ?_⟩; (refine ⟨?_, ?_, ?_⟩ <;> simp only [go_sem, List.range, List.range.loop, List.nodup_cons, List.nodup_nil, List.mem_cons, List.not_mem_nil, or_false, or_self, Int.reduceToNat, Nat.min_eq_left, Nat.min_eq_right, Int.reducePow, Nat.reducePow, Int.reduceLE, Int.reduceLT, Int.reduceMul, Int.reduceAdd, Int.reduceSub, Int.reduceNeg, Bool.not_true, Bool.not_false, Bool.not_not, ↓reduceIte, Nat.reduceAdd, Nat.reduceSub, Nat.reduceMul, Nat.reduceEqDiff, reduceCtorEq, Nat.reduceLT, Nat.reduceLeDiff, Nat.reduceGT]); (try any_goals (refine ⟨?_, ?_⟩)); (try any_goals (with_reducible rfl))))
    all_goals simp [List.append_assoc, be_len, Nat.add_assoc]
  · (focus (refine ⟨_, _, Gh.refl, [0, 1, 2, 3, 4, 5], rfl, ?_⟩; (refine ⟨?_, ?_, ?_⟩ <;> simp only [go_sem, List.range, List.range.loop, List.nodup_cons, List.nodup_nil, List.mem_cons, List.not_mem_nil, or_false, or_self, Int.reduceToNat, Nat.min_eq_left, Nat.min_eq_right, Int.reducePow, Nat.reducePow, Int.reduceLE, Int.reduceLT, Int.reduceMul, Int.reduceAdd, Int.reduceSub, Int.reduceNeg, Bool.not_true, Bool.not_false, Bool.not_not, ↓reduceIte, Nat.reduceAdd, Nat.reduceSub, Nat.reduceMul, Nat.reduceEqDiff, reduceCtorEq, Nat.reduceLT, Nat.reduceLeDiff, Nat.reduceGT]); (try any_goals (refine ⟨?_, ?_⟩)); (try any_goals (with_reducible rfl))))
    all_goals first | (simp; done) | (simp [be]; rw [Nat.mod_eq_of_lt (by omega)])
theorem c_renc {h : List Ch} {K : KT} {x y z : Int} {args : List Int} {data : List UInt8} {a d : AV} (H : K (.sl h.length .byte 0 (encC ⟨x, y, z, args, data⟩).length) (h ++ [.rows .byte (encC ⟨x, y, z, args, data⟩)])) (b1 : brA [] h (.ro .int args) a) (b2 : brA [] h (.ro .byte data) d) (e1 : validC ⟨x, y, z, args, data⟩ = true) : Does Try.prog 13 [.agg [.int .i64 x, .int .i64 y, .int .i64 z, a, d]] h K :=
  frame_new (ret' := .sl h.length .byte 0 (encC ⟨x, y, z, args, data⟩).length) (b_renc ⟨x, y, z, args, data⟩ e1) (br_cmd b1 b2) (.inr rfl) (fun _ => rfl) rfl H
abbrev i_renc := Ctr.mk (i := 0) (g := 13) @c_renc
attribute [instance] i_renc
end Go.V
