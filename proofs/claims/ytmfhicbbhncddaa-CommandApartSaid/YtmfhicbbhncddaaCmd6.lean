/-
  ref39: Decode.
-/
import Derived.Test.YtmfhicbbhncddaaCmd5
set_option linter.unusedVariables false
set_option linter.unusedSimpArgs false
set_option maxRecDepth 100000
set_option maxHeartbeats 1000000
namespace Go.V
open Go.Proofs
/-- what the reference's decoding answers -/
def rdecA (o : Option Cmd) : AV := match o with
  | some c => .tup [.agg [.int .i64 c.src, .int .i64 c.num, .int .i64 c.srv, .ro .int c.args, .ro .byte c.data], .bool true]
  | none => .tup [.agg [.int .i64 0, .int .i64 0, .int .i64 0, .ro .int [], .ro .byte []], .bool false]
theorem some_ne {ys : List UInt8} (h : 0 < ys.length) : ¬ some ys = some [] := by
  intro e
  injection e with e
  subst e
  simp at h
theorem rdec_no {b : List UInt8} {c : Cmd} {r : Option (List UInt8)} {h : List Ch} (e : rdC b = (c, r)) (h1 : ¬ r = some [] ∨ validC c = false ∨ ¬ encC c = b) : ∃ v' h2, Gh [.tup [.agg [.int .i64 0, .int .i64 0, .int .i64 0, .lit (.slice none 0 0), .lit (.slice none 0 0)], .bool false]] h [v'] h2 ∧ EndF 0 (rdecA (decC b)) [] v' h2 := by
  rw [decC_none e h1]
  simp only [rdecA]
  (focus (refine ⟨_, _, Gh.refl, [], rfl, ?_⟩; (refine ⟨?_, ?_, ?_⟩ <;> simp only [go_sem, List.range, List.range.loop, List.nodup_cons, List.nodup_nil, List.mem_cons, List.not_mem_nil, or_false, or_self, Int.reduceToNat, Nat.min_eq_left, Nat.min_eq_right, Int.reducePow, Nat.reducePow, Int.reduceLE, Int.reduceLT, Int.reduceMul, Int.reduceAdd, Int.reduceSub, Int.reduceNeg, Bool.not_true, Bool.not_false, Bool.not_not, ↓reduceIte, Nat.reduceAdd, Nat.reduceSub, Nat.reduceMul, Nat.reduceEqDiff, reduceCtorEq, Nat.reduceLT, Nat.reduceLeDiff, Nat.reduceGT]); (try any_goals (refine ⟨?_, ?_⟩)); (try any_goals (with_reducible rfl))))
theorem c_fruint_s {h : List Ch} {K : KT} {t : Nat} {ys : List UInt8} {n : Nat} {r' : Option (List UInt8)} (H : K (.int .u64 n) (h.set t (.pack (Fd r')))) (o : hth h t = .pack [.cells [.ro .byte ys, .bool false]]) (e : uintR (some ys) 1 = (n, r')) : Does Try.prog 41 [.ptr t 0, .int .i64 1] h K :=
  c_fruint (r := some ys) H o e (by decide) (by decide)
abbrev i_fruint_s := Ctr.mk (i := 6) (g := 41) @c_fruint_s
attribute [instance] i_fruint_s
theorem b_rdec (b : List UInt8) (hb : b.length ≤ 1000) : DoesK Try.prog 0 15 [.ro .byte b] [] (EndF 0 (rdecA (decC b)) []) := by
  refine DoesK.close ?_
  have hb0 := uintR_bd (some b) 1
  have hL0 := uintR_lenR (some b) 1
  rcases e0 : uintR (some b) 1 with ⟨n0, r0⟩
  have hb1 := uintR_bd r0 2
  have hL1 := uintR_lenR r0 2
  rcases e1 : uintR r0 2 with ⟨n1, r1⟩
  have hb2 := uintR_bd r1 1
  have hL2 := uintR_lenR r1 1
  rcases e2 : uintR r1 1 with ⟨n2, r2⟩
  rw [e0] at hb0 hL0
  rw [e1] at hb1 hL1
  rw [e2] at hb2 hL2
  have hLb : lenR (some b) = b.length := rfl
  simp only [hLb] at hL0 hL1 hL2
  have w0 : IntKind.i64.wrap (n0 : Int) = n0 := wrap_i64 _ (by omega) (by simp only at hb0; omega)
  have w1 : IntKind.i64.wrap (n1 : Int) = n1 := wrap_i64 _ (by omega) (by simp only at hb1; omega)
  have w2 : IntKind.i64.wrap (n2 : Int) = n2 := wrap_i64 _ (by omega) (by simp only at hb2; omega)
  have ha3 := arg0_le n2
  have ha0 := arg0_ge n2
  have hfd : FdS b false = Fd (some b) := rfl
  refine w_body (rs := [.cell 2 25, .tmp 3]) (tm := [.ro .byte b, .any, .any, .any, .any, .any, .any, .any, .any, .any, .any, .any, .any, .any, .any, .any, .any, .any, .any, .any, .any, .any, .any, .any, .any, .any, .any, .any, .any, .any, .any, .any, .any, .any, .any, .any, .any, .any, .any, .any, .any, .any, .any, .any, .any, .any, .any, .any, .any, .any, .any, .any, .any, .any, .any, .any, .any, .any, .any, .any, .any, .any, .any, .any, .any, .any, .any, .any, .any, .any, .any]) fn_15 rfl rfl rfl rfl fun R hR => ?_
  (have zx1 := @w0; have zx2 := @w1; have zx3 := @w2; all_goals (try ((first | (with_reducible refine wp_id ?_) | (with_reducible refine does_id ?_)); refine walk ?_; (repeat' (first | exact trivial | with_reducible refine And.intro ?_ ?_)); all_goals (repeat (first | (with_reducible refine ImpB.mk fun hb => ?_) | (with_reducible refine ImpK.mk fun hK => ?_) | (with_reducible refine ImpF.mk fun hF => ?_) | (with_reducible refine AllK.mk fun K => ?_))))); repeat' (with_reducible refine And.intro ?_ ?_))
  any_goals refine Wp.ghost (gh_adoptC (t := 2) (i := 3) .int rfl trivial) ?_
  any_goals (refine w_loop (A := Nat) (fun k => k ≤ (argN n2 0).toNat) (fun k => (argN n2 0).toNat - k) (fun k => [(8, .int .i64 k)]) (fun k => [(1, .pack (Fd (intsR r2 k).2)), (2, .cells [.int .i64 n0, .int .i64 n1, .int .i64 n2, .sl 3 .int 0 k, .lit (.slice none 0 0)]), (3, .rows .int (intsR r2 k).1)]) (0) (ws := ?ws1) (tk := ?tk1) ?hw1 ?ht1 ?hi ?h0 ?H1; (case hw1 => simp only [go_sem, Int.reduceToNat, Nat.min_eq_left, Nat.min_eq_right, Int.reducePow, Nat.reducePow, Int.reduceLE, Int.reduceLT, Int.reduceMul, Int.reduceAdd, Int.reduceSub, Int.reduceNeg, Bool.not_true, Bool.not_false, Bool.not_not, ↓reduceIte, Nat.reduceAdd, Nat.reduceSub, Nat.reduceMul, Nat.reduceEqDiff, reduceCtorEq, Nat.reduceLT, Nat.reduceLeDiff, Nat.reduceGT]; exact rfl); (case ht1 => simp only [go_sem, Int.reduceToNat, Nat.min_eq_left, Nat.min_eq_right, Int.reducePow, Nat.reducePow, Int.reduceLE, Int.reduceLT, Int.reduceMul, Int.reduceAdd, Int.reduceSub, Int.reduceNeg, Bool.not_true, Bool.not_false, Bool.not_not, ↓reduceIte, Nat.reduceAdd, Nat.reduceSub, Nat.reduceMul, Nat.reduceEqDiff, reduceCtorEq, Nat.reduceLT, Nat.reduceLeDiff, Nat.reduceGT]; exact rfl); (case' H1 => rintro k E t hx hE ht; simp only [go_sem] at ht; subst ht; simp only [go_sem]; try dsimp only at hx))
  case H1 =>
    have hL3 := intsR_lenR r2 k
    have hLr : lenR r2 ≤ 1000 := by omega
    by_cases hk : k < (argN (n2 : Int) 0).toNat
    · rcases e3 : intR (intsR r2 k).2 with ⟨n3, r3⟩
      have eS : intsR r2 (k + 1) = ((intsR r2 k).1 ++ [n3], r3) := by rw [intsR, e3]
      have hkk : (k : Int) < argN (n2 : Int) 0 := by omega
      have hkd : decide ((k : Int) < argN (n2 : Int) 0) = true := decide_eq_true hkk
      (have zx1 := @w0; have zx2 := @w1; have zx3 := @w2; have zx4 := @hkd; have zx5 := @intsR_len; all_goals (try ((first | (with_reducible refine wp_id ?_) | (with_reducible refine does_id ?_)); refine walk ?_; (repeat' (first | exact trivial | with_reducible refine And.intro ?_ ?_)); all_goals (repeat (first | (with_reducible refine ImpB.mk fun hb => ?_) | (with_reducible refine ImpK.mk fun hK => ?_) | (with_reducible refine ImpF.mk fun hF => ?_) | (with_reducible refine AllK.mk fun K => ?_))))); repeat' (with_reducible refine And.intro ?_ ?_))
      (all_goals (repeat (first | (clear hK; clear K) | (clear hE; clear E) | (clear hF; clear F) | (clear hR; clear R))); all_goals (try simp only [decide_eq_true_eq, decide_eq_false_iff_not, Bool.not_eq_true', Bool.not_eq_false', Bool.not_eq_true, Bool.not_eq_false, decide_not, decide_true, decide_false, Bool.decide_and, Bool.and_eq_true, Bool.or_eq_true, Bool.and_eq_false_imp, Decidable.not_not] at *); all_goals (try omega); all_goals (try (first | exact u8w_lo _ | exact u8w_hi _ | exact (bits8 _ _ _).1 | exact (bits8 _ _ _).2 | exact Int.natCast_nonneg _ | exact u8_ltI _)))
      all_goals first | (rw [intsR_len]; omega) | (rw [intsR_len]) | skip
      refine ⟨k + 1, ⟨by first | omega | (dsimp only; omega), by first | omega | (dsimp only; omega)⟩, ?_⟩
      (focus (refine ⟨_, _, Gh.refl, [0, 1, 2, 5], rfl, ?_⟩; (refine ⟨?_, ?_, ?_⟩ <;> simp only [go_sem, List.range, List.range.loop, List.nodup_cons, List.nodup_nil, List.mem_cons, List.not_mem_nil, or_false, or_self, Int.reduceToNat, Nat.min_eq_left, Nat.min_eq_right, Int.reducePow, Nat.reducePow, Int.reduceLE, Int.reduceLT, Int.reduceMul, Int.reduceAdd, Int.reduceSub, Int.reduceNeg, Bool.not_true, Bool.not_false, Bool.not_not, ↓reduceIte, Nat.reduceAdd, Nat.reduceSub, Nat.reduceMul, Nat.reduceEqDiff, reduceCtorEq, Nat.reduceLT, Nat.reduceLeDiff, Nat.reduceGT]); (try any_goals (refine ⟨?_, ?_⟩)); (try any_goals (with_reducible rfl))))
      all_goals first | (first | with_reducible rfl | omega | ((simp (disch := omega) only [wrap_i64]); first | done | omega) | (simp only [List.append_assoc, List.cons_append, List.nil_append]; done)) | (rw [eS]; done) | (simp only [eS]; done) | (simp only [eS, true_and, and_self]; done)
    · have hkd : decide ((k : Int) < argN (n2 : Int) 0) = false := decide_eq_false (by omega)
      have hke : k = (argN (n2 : Int) 0).toNat := by omega
      have hil := intsR_len r2 k
      have hrd : rdC b = if dataS n2 = true then (⟨n0, n1, n2, (intsR r2 k).1, (blobR (intsR r2 k).2 512).1⟩, (blobR (intsR r2 k).2 512).2) else (⟨n0, n1, n2, (intsR r2 k).1, []⟩, (intsR r2 k).2) := by
        unfold rdC
        simp only [e0, e1, e2, ← hke]
        split <;> rfl
      rcases e3 : intsR r2 k with ⟨az, r3⟩
      rw [e3] at hrd hil hL3
      replace hil : az.length = k := hil
      have hil' : az.length ≤ 1099511627776 := by omega
      have hL4 : lenR r3 ≤ 1099511627776 := by simp only at hL3; omega
      clear ha3 ha0 hL3
      rcases e4 : blobR r3 512 with ⟨d, r4⟩
      simp only [e4] at hrd
      cases hds : (argN (n2 : Int) 1 == 1)
      · rw [if_neg (by rw [dataS, hds]; simp)] at hrd
        cases hv : validC ⟨n0, n1, n2, az, []⟩
        all_goals rcases r3 with _ | ys
        all_goals
          (have zx1 := @w0; have zx2 := @w1; have zx3 := @w2; have zx4 := @hkd; have zx5 := @hds; have zx6 := @hv; have zx7 := @Fd_some; have zx8 := @Fd_none; all_goals (try ((first | (with_reducible refine wp_id ?_) | (with_reducible refine does_id ?_)); refine walk ?_; (repeat' (first | exact trivial | with_reducible refine And.intro ?_ ?_)); all_goals (repeat (first | (with_reducible refine ImpB.mk fun hb => ?_) | (with_reducible refine ImpK.mk fun hK => ?_) | (with_reducible refine ImpF.mk fun hF => ?_) | (with_reducible refine AllK.mk fun K => ?_))))); repeat' (with_reducible refine And.intro ?_ ?_))
        (all_goals (repeat (first | (clear hK; clear K) | (clear hE; clear E) | (clear hF; clear F) | (clear hR; clear R))); all_goals (try simp only [decide_eq_true_eq, decide_eq_false_iff_not, Bool.not_eq_true', Bool.not_eq_false', Bool.not_eq_true, Bool.not_eq_false, decide_not, decide_true, decide_false, Bool.decide_and, Bool.and_eq_true, Bool.or_eq_true, Bool.and_eq_false_imp, Decidable.not_not] at *); all_goals (try omega); all_goals (try (first | exact u8w_lo _ | exact u8w_hi _ | exact (bits8 _ _ _).1 | exact (bits8 _ _ _).2 | exact Int.natCast_nonneg _ | exact u8_ltI _)))
        · exact rdec_no hrd (.inl (by simp))
        · exact rdec_no hrd (.inl (some_ne (by omega)))
        · exact rdec_no hrd (.inr (.inl hv))
        · exact rdec_no hrd (.inl (by simp))
        · exact rdec_no hrd (.inl (some_ne (by omega)))
        · exact rdec_no hrd (.inr (.inr (by assumption)))
        · rw [decC_some hrd (by rw [List.eq_nil_of_length_eq_zero (l := ys) (by omega)]) hv (by assumption)]
          simp only [rdecA]
          refine ⟨_, _, gh_frz (t := 3) (e := .int) (xs := az) rfl ?f1 ?f1b, [], rfl, ?f1c⟩
          case' f1c => (refine ⟨?_, ?_, ?_⟩ <;> simp only [go_sem, List.range, List.range.loop, List.nodup_cons, List.nodup_nil, List.mem_cons, List.not_mem_nil, or_false, or_self, Int.reduceToNat, Nat.min_eq_left, Nat.min_eq_right, Int.reducePow, Nat.reducePow, Int.reduceLE, Int.reduceLT, Int.reduceMul, Int.reduceAdd, Int.reduceSub, Int.reduceNeg, Bool.not_true, Bool.not_false, Bool.not_not, ↓reduceIte, Nat.reduceAdd, Nat.reduceSub, Nat.reduceMul, Nat.reduceEqDiff, reduceCtorEq, Nat.reduceLT, Nat.reduceLeDiff, Nat.reduceGT])
          case' f1 => simp only [go_sem, Int.reduceToNat, Nat.min_eq_left, Nat.min_eq_right, Int.reducePow, Nat.reducePow, Int.reduceLE, Int.reduceLT, Int.reduceMul, Int.reduceAdd, Int.reduceSub, Int.reduceNeg, Bool.not_true, Bool.not_false, Bool.not_not, ↓reduceIte, Nat.reduceAdd, Nat.reduceSub, Nat.reduceMul, Nat.reduceEqDiff, reduceCtorEq, Nat.reduceLT, Nat.reduceLeDiff, Nat.reduceGT]
          case' f1b => simp only [go_sem, Int.reduceToNat, Nat.min_eq_left, Nat.min_eq_right, Int.reducePow, Nat.reducePow, Int.reduceLE, Int.reduceLT, Int.reduceMul, Int.reduceAdd, Int.reduceSub, Int.reduceNeg, Bool.not_true, Bool.not_false, Bool.not_not, ↓reduceIte, Nat.reduceAdd, Nat.reduceSub, Nat.reduceMul, Nat.reduceEqDiff, reduceCtorEq, Nat.reduceLT, Nat.reduceLeDiff, Nat.reduceGT]
          all_goals first | omega | rw [List.take_of_length_le (by omega)]
      · rw [if_pos (by rw [dataS, hds])] at hrd
        cases hv : validC ⟨n0, n1, n2, az, d⟩
        all_goals rcases r4 with _ | ys
        all_goals
          (have zx1 := @w0; have zx2 := @w1; have zx3 := @w2; have zx4 := @hkd; have zx5 := @hds; have zx6 := @hv; have zx7 := @Fd_some; have zx8 := @Fd_none; all_goals (try ((first | (with_reducible refine wp_id ?_) | (with_reducible refine does_id ?_)); refine walk ?_; (repeat' (first | exact trivial | with_reducible refine And.intro ?_ ?_)); all_goals (repeat (first | (with_reducible refine ImpB.mk fun hb => ?_) | (with_reducible refine ImpK.mk fun hK => ?_) | (with_reducible refine ImpF.mk fun hF => ?_) | (with_reducible refine AllK.mk fun K => ?_))))); repeat' (with_reducible refine And.intro ?_ ?_))
        (all_goals (repeat (first | (clear hK; clear K) | (clear hE; clear E) | (clear hF; clear F) | (clear hR; clear R))); all_goals (try simp only [decide_eq_true_eq, decide_eq_false_iff_not, Bool.not_eq_true', Bool.not_eq_false', Bool.not_eq_true, Bool.not_eq_false, decide_not, decide_true, decide_false, Bool.decide_and, Bool.and_eq_true, Bool.or_eq_true, Bool.and_eq_false_imp, Decidable.not_not] at *); all_goals (try omega); all_goals (try (first | exact u8w_lo _ | exact u8w_hi _ | exact (bits8 _ _ _).1 | exact (bits8 _ _ _).2 | exact Int.natCast_nonneg _ | exact u8_ltI _)))
        · exact rdec_no hrd (.inl (by simp))
        · exact rdec_no hrd (.inl (some_ne (by omega)))
        · exact rdec_no hrd (.inr (.inl hv))
        · exact rdec_no hrd (.inl (by simp))
        · exact rdec_no hrd (.inl (some_ne (by omega)))
        · exact rdec_no hrd (.inr (.inr (by assumption)))
        · rw [decC_some hrd (by rw [List.eq_nil_of_length_eq_zero (l := ys) (by omega)]) hv (by assumption)]
          simp only [rdecA]
          refine ⟨_, _, gh_frz (t := 3) (e := .int) (xs := az) rfl ?f2 ?f2b, [], rfl, ?f2c⟩
          case' f2c => (refine ⟨?_, ?_, ?_⟩ <;> simp only [go_sem, List.range, List.range.loop, List.nodup_cons, List.nodup_nil, List.mem_cons, List.not_mem_nil, or_false, or_self, Int.reduceToNat, Nat.min_eq_left, Nat.min_eq_right, Int.reducePow, Nat.reducePow, Int.reduceLE, Int.reduceLT, Int.reduceMul, Int.reduceAdd, Int.reduceSub, Int.reduceNeg, Bool.not_true, Bool.not_false, Bool.not_not, ↓reduceIte, Nat.reduceAdd, Nat.reduceSub, Nat.reduceMul, Nat.reduceEqDiff, reduceCtorEq, Nat.reduceLT, Nat.reduceLeDiff, Nat.reduceGT])
          case' f2 => simp only [go_sem, Int.reduceToNat, Nat.min_eq_left, Nat.min_eq_right, Int.reducePow, Nat.reducePow, Int.reduceLE, Int.reduceLT, Int.reduceMul, Int.reduceAdd, Int.reduceSub, Int.reduceNeg, Bool.not_true, Bool.not_false, Bool.not_not, ↓reduceIte, Nat.reduceAdd, Nat.reduceSub, Nat.reduceMul, Nat.reduceEqDiff, reduceCtorEq, Nat.reduceLT, Nat.reduceLeDiff, Nat.reduceGT]
          case' f2b => simp only [go_sem, Int.reduceToNat, Nat.min_eq_left, Nat.min_eq_right, Int.reducePow, Nat.reducePow, Int.reduceLE, Int.reduceLT, Int.reduceMul, Int.reduceAdd, Int.reduceSub, Int.reduceNeg, Bool.not_true, Bool.not_false, Bool.not_not, ↓reduceIte, Nat.reduceAdd, Nat.reduceSub, Nat.reduceMul, Nat.reduceEqDiff, reduceCtorEq, Nat.reduceLT, Nat.reduceLeDiff, Nat.reduceGT]
          all_goals first | omega | rw [List.take_of_length_le (by omega)]
  · omega
  · (focus (refine ⟨_, _, Gh.refl, [0, 1, 2, 3], rfl, ?_⟩; (refine ⟨?_, ?_, ?_⟩ <;> simp only [go_sem, List.range, List.range.loop, List.nodup_cons, List.nodup_nil, List.mem_cons, List.not_mem_nil, or_false, or_self, Int.reduceToNat, Nat.min_eq_left, Nat.min_eq_right, Int.reducePow, Nat.reducePow, Int.reduceLE, Int.reduceLT, Int.reduceMul, Int.reduceAdd, Int.reduceSub, Int.reduceNeg, Bool.not_true, Bool.not_false, Bool.not_not, ↓reduceIte, Nat.reduceAdd, Nat.reduceSub, Nat.reduceMul, Nat.reduceEqDiff, reduceCtorEq, Nat.reduceLT, Nat.reduceLeDiff, Nat.reduceGT]); (try any_goals (refine ⟨?_, ?_⟩)); (try any_goals (with_reducible rfl))))
    all_goals rfl
theorem c_rdec {h : List Ch} {K : KT} {b : List UInt8} {a : AV} (H : K (rdecA (decC b)) h) (q1 : isRO .byte b a) (s1 : b.length ≤ 1000) : Does Try.prog 15 [a] h K :=
  frame_pure (b_rdec b s1) (br_cons q1.br br_nil) (.inl (by rw [brTL, q1.brT]; rfl)) (fun _ => by unfold rdecA; cases decC b <;> rfl) H
abbrev i_rdec := Ctr.mk (i := 0) (g := 15) @c_rdec
attribute [instance] i_rdec
theorem c_awake {h : List Ch} {K : KT} (H : K (.bool true) h) : Does Try.prog 12 [] h K :=
  frame_pure b_awake br_nil (.inr rfl) (fun _ => rfl) H
abbrev i_awake := Ctr.mk (i := 0) (g := 12) @c_awake
attribute [instance] i_awake
end Go.V
