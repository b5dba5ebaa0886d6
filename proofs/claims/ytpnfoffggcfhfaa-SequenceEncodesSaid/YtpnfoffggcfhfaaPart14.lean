/-
  ref39: Decode.
  Steps of sequences: which are valid, and their encodings.
  Steps of sequences: how they are read; what is read is what was encoded.
-/
import Derived.Test.YtpnfoffggcfhfaaPart13
set_option linter.unusedVariables false
set_option linter.unusedSimpArgs false
set_option maxRecDepth 100000
set_option maxHeartbeats 1000000
namespace Go.V
open Go.Proofs
/-- what the reference's decoding answers -/
def rdecA (o : Option Cmd) : AV := match o with
  | some c => .tup [.agg [.int .i64 c.src, .int .i64 c.num, .int .i64 c.srv, .ro .int c.args, .ro .byte c.data], .bool true]
  | none => .tup [.agg [.int .i64 0, .int .i64 0, .int .i64 0, .ro .int [], .ro .byte []], .bool false]
theorem some_ne {ys : List UInt8} (h : 0 < ys.length) : ¬ some ys = some [] := by
  intro e
  injection e with e
  subst e
  simp at h
theorem rdec_no {b : List UInt8} {c : Cmd} {r : Option (List UInt8)} {h : List Ch} (e : rdC b = (c, r)) (h1 : ¬ r = some [] ∨ validC c = false ∨ ¬ encC c = b) : ∃ v' h2, Gh [.tup [.agg [.int .i64 0, .int .i64 0, .int .i64 0, .lit (.slice none 0 0), .lit (.slice none 0 0)], .bool false]] h [v'] h2 ∧ EndF 0 (rdecA (decC b)) [] v' h2 := by
  rw [decC_none e h1]
  simp only [rdecA]
  (focus (refine ⟨_, _, Gh.refl, [], rfl, ?_⟩; (refine ⟨?_, ?_, ?_⟩ <;> simp only [go_sem, List.range, List.range.loop, List.nodup_cons, List.nodup_nil, List.mem_cons, List.not_mem_nil, or_false, or_self, decide_true, decide_false, Int.reduceToNat, Nat.min_eq_left, Nat.min_eq_right, Int.reducePow, Nat.reducePow, Int.reduceLE, Int.reduceLT, Int.reduceMul, Int.reduceAdd, Int.reduceSub, Int.reduceNeg, Bool.not_true, Bool.not_false, Bool.not_not, ↓reduceIte, Nat.reduceAdd, Nat.reduceSub, Nat.reduceMul, Nat.reduceEqDiff, reduceCtorEq, Nat.reduceLT, Nat.reduceLeDiff, Nat.reduceGT]); (try any_goals (refine ⟨?_, ?_⟩)); (try any_goals (with_reducible rfl))))
theorem c_fruint_s {h : List Ch} {K : KT} {t : Nat} {ys : List UInt8} {n : Nat} {r' : Option (List UInt8)} (H : K (.int .u64 n) (h.set t (.pack (Fd r')))) (o : hth h t = .pack [.cells [.ro .byte ys, .bool false]]) (e : uintR (some ys) 1 = (n, r')) : Does Try.prog 77 [.ptr t 0, .int .i64 1] h K :=
  c_fruint (r := some ys) H o e (by decide) (by decide)
abbrev i_fruint_s := Ctr.mk (i := 6) (g := 77) @c_fruint_s
attribute [instance] i_fruint_s
theorem b_rdec (b : List UInt8) (hb : b.length ≤ 1000000) : DoesK Try.prog 0 78 [.ro .byte b] [] (EndF 0 (rdecA (decC b)) []) := by
  refine DoesK.close ?_
  have hb0 := uintR_bd (some b) 1
  have hL0 := uintR_lenR (some b) 1
  rcases e0 : uintR (some b) 1 with ⟨n0, r0⟩
  have hb1 := uintR_bd r0 2
  have hL1 := uintR_lenR r0 2
  rcases e1 : uintR r0 2 with ⟨n1, r1⟩
  have hb2 := uintR_bd r1 1
  have hL2 := uintR_lenR r1 1
  rcases e2 : uintR r1 1 with ⟨n2, r2⟩
  rw [e0] at hb0 hL0
  rw [e1] at hb1 hL1
  rw [e2] at hb2 hL2
  have hLb : lenR (some b) = b.length := rfl
  simp only [hLb] at hL0 hL1 hL2
  have w0 : IntKind.i64.wrap (n0 : Int) = n0 := wrap_i64 _ (by omega) (by simp only at hb0; omega)
  have w1 : IntKind.i64.wrap (n1 : Int) = n1 := wrap_i64 _ (by omega) (by simp only at hb1; omega)
  have w2 : IntKind.i64.wrap (n2 : Int) = n2 := wrap_i64 _ (by omega) (by simp only at hb2; omega)
  have ha3 := arg0_le n2
  have ha0 := arg0_ge n2
  have hfd : FdS b false = Fd (some b) := rfl
  refine w_body (rs := [.cell 2 31, .tmp 3]) (tm := [.ro .byte b, .any, .any, .any, .any, .any, .any, .any, .any, .any, .any, .any, .any, .any, .any, .any, .any, .any, .any, .any, .any, .any, .any, .any, .any, .any, .any, .any, .any, .any, .any, .any, .any, .any, .any, .any, .any, .any, .any, .any, .any, .any, .any, .any, .any, .any, .any, .any, .any, .any, .any, .any, .any, .any, .any, .any, .any, .any, .any, .any, .any, .any, .any, .any, .any, .any, .any, .any, .any, .any, .any]) fn_78 rfl rfl rfl rfl fun R hR => ?_
  (have zx1 := @w0; have zx2 := @w1; have zx3 := @w2; all_goals (try ((first | (with_reducible refine wp_id ?_) | (with_reducible refine does_id ?_) | (with_reducible refine ops_id ?_)); refine walk ?_; (repeat' (first | exact trivial | with_reducible refine And.intro ?_ ?_)); all_goals (repeat (first | (with_reducible refine ImpB.mk fun hb => ?_) | (with_reducible refine ImpK.mk fun hK => ?_) | (with_reducible refine ImpF.mk fun hF => ?_) | (with_reducible refine ImpQ.mk fun hp => ?_) | (with_reducible refine AllE.mk fun p => ?_) | (with_reducible refine AllR.mk fun rest => ?_) | (with_reducible refine AllK.mk fun K => ?_))))); repeat' (with_reducible refine And.intro ?_ ?_))
  any_goals refine Wp.ghost (gh_adoptC (t := 2) (i := 3) .int rfl trivial) ?_
  any_goals ((try (refine w_seq fun K hK => ?_)); (try (refine w_block ?_)); refine w_loop (A := Nat) (fun k => k ≤ (argN n2 0).toNat) (fun k => (argN n2 0).toNat - k) (fun k => [(8, .int .i64 k)]) (fun k => [(1, .pack (Fd (intsR r2 k).2)), (2, .cells [.int .i64 n0, .int .i64 n1, .int .i64 n2, .sl 3 .int 0 k, .lit (.slice none 0 0)]), (3, .rows .int (intsR r2 k).1)]) (0) (ws := ?ws1) (tk := ?tk1) ?hw1 ?ht1 ?hi ?h0 ?LH1; (case hw1 => simp only [go_sem, decide_true, decide_false, Int.reduceToNat, Nat.min_eq_left, Nat.min_eq_right, Int.reducePow, Nat.reducePow, Int.reduceLE, Int.reduceLT, Int.reduceMul, Int.reduceAdd, Int.reduceSub, Int.reduceNeg, Bool.not_true, Bool.not_false, Bool.not_not, ↓reduceIte, Nat.reduceAdd, Nat.reduceSub, Nat.reduceMul, Nat.reduceEqDiff, reduceCtorEq, Nat.reduceLT, Nat.reduceLeDiff, Nat.reduceGT]; exact rfl); (case ht1 => simp only [go_sem, decide_true, decide_false, Int.reduceToNat, Nat.min_eq_left, Nat.min_eq_right, Int.reducePow, Nat.reducePow, Int.reduceLE, Int.reduceLT, Int.reduceMul, Int.reduceAdd, Int.reduceSub, Int.reduceNeg, Bool.not_true, Bool.not_false, Bool.not_not, ↓reduceIte, Nat.reduceAdd, Nat.reduceSub, Nat.reduceMul, Nat.reduceEqDiff, reduceCtorEq, Nat.reduceLT, Nat.reduceLeDiff, Nat.reduceGT]; exact rfl); (case' LH1 => rintro k E t hx hE ht; simp only [go_sem] at ht; subst ht; simp only [go_sem]; try dsimp only at hx))
  case LH1 =>
    have hL3 := intsR_lenR r2 k
    have hLr : lenR r2 ≤ 1000000 := by omega
    by_cases hk : k < (argN (n2 : Int) 0).toNat
    · rcases e3 : intR (intsR r2 k).2 with ⟨n3, r3⟩
      have eS : intsR r2 (k + 1) = ((intsR r2 k).1 ++ [n3], r3) := by rw [intsR, e3]
      have hkk : (k : Int) < argN (n2 : Int) 0 := by omega
      have hkd : decide ((k : Int) < argN (n2 : Int) 0) = true := decide_eq_true hkk
      (have zx1 := @w0; have zx2 := @w1; have zx3 := @w2; have zx4 := @hkd; have zx5 := @intsR_len; all_goals (try ((first | (with_reducible refine wp_id ?_) | (with_reducible refine does_id ?_) | (with_reducible refine ops_id ?_)); refine walk ?_; (repeat' (first | exact trivial | with_reducible refine And.intro ?_ ?_)); all_goals (repeat (first | (with_reducible refine ImpB.mk fun hb => ?_) | (with_reducible refine ImpK.mk fun hK => ?_) | (with_reducible refine ImpF.mk fun hF => ?_) | (with_reducible refine ImpQ.mk fun hp => ?_) | (with_reducible refine AllE.mk fun p => ?_) | (with_reducible refine AllR.mk fun rest => ?_) | (with_reducible refine AllK.mk fun K => ?_))))); repeat' (with_reducible refine And.intro ?_ ?_))
      (all_goals (repeat (first | (clear hK; clear K) | (clear hE; clear E) | (clear hF; clear F) | (clear hR; clear R))); all_goals (try simp only [decide_eq_true_eq, decide_eq_false_iff_not, Bool.not_eq_true', Bool.not_eq_false', Bool.not_eq_true, Bool.not_eq_false, decide_not, decide_true, decide_false, Bool.decide_and, Bool.and_eq_true, Bool.or_eq_true, Bool.and_eq_false_imp, Decidable.not_not] at *); all_goals (try omega); all_goals (try (first | exact u8w_lo _ | exact u8w_hi _ | exact (bits8 _ _ _).1 | exact (bits8 _ _ _).2 | exact Int.natCast_nonneg _ | exact u8_ltI _)))
      all_goals first | (rw [intsR_len]; omega) | (rw [intsR_len]) | skip
      refine ⟨k + 1, ⟨by first | omega | (dsimp only; omega), by first | omega | (dsimp only; omega)⟩, ?_⟩
      (focus (refine ⟨_, _, Gh.refl, [0, 1, 2, 5], rfl, ?_⟩; (refine ⟨?_, ?_, ?_⟩ <;> simp only [go_sem, List.range, List.range.loop, List.nodup_cons, List.nodup_nil, List.mem_cons, List.not_mem_nil, or_false, or_self, decide_true, decide_false, Int.reduceToNat, Nat.min_eq_left, Nat.min_eq_right, Int.reducePow, Nat.reducePow, Int.reduceLE, Int.reduceLT, Int.reduceMul, Int.reduceAdd, Int.reduceSub, Int.reduceNeg, Bool.not_true, Bool.not_false, Bool.not_not, ↓reduceIte, Nat.reduceAdd, Nat.reduceSub, Nat.reduceMul, Nat.reduceEqDiff, reduceCtorEq, Nat.reduceLT, Nat.reduceLeDiff, Nat.reduceGT]); (try any_goals (refine ⟨?_, ?_⟩)); (try any_goals (with_reducible rfl))))
      all_goals first | (first | with_reducible rfl | omega | ((simp (disch := omega) only [wrap_i64]); first | done | omega) | (simp only [List.append_assoc, List.cons_append, List.nil_append]; done)) | (rw [eS]; done) | (simp only [eS]; done) | (simp only [eS, true_and, and_self]; done)
    · have hkd : decide ((k : Int) < argN (n2 : Int) 0) = false := decide_eq_false (by omega)
      have hke : k = (argN (n2 : Int) 0).toNat := by omega
      have hil := intsR_len r2 k
      have hrd : rdC b = if dataS n2 = true then (⟨n0, n1, n2, (intsR r2 k).1, (blobR (intsR r2 k).2 512).1⟩, (blobR (intsR r2 k).2 512).2) else (⟨n0, n1, n2, (intsR r2 k).1, []⟩, (intsR r2 k).2) := by
        unfold rdC
        simp only [e0, e1, e2, ← hke]
        split <;> rfl
      rcases e3 : intsR r2 k with ⟨az, r3⟩
      rw [e3] at hrd hil hL3
      replace hil : az.length = k := hil
      have hil' : az.length ≤ 1099511627776 := by omega
      have hL4 : lenR r3 ≤ 1099511627776 := by simp only at hL3; omega
      clear ha3 ha0 hL3
      rcases e4 : blobR r3 512 with ⟨d, r4⟩
      simp only [e4] at hrd
      cases hds : (argN (n2 : Int) 1 == 1)
      · rw [if_neg (by rw [dataS, hds]; simp)] at hrd
        cases hv : validC ⟨n0, n1, n2, az, []⟩
        all_goals rcases r3 with _ | ys
        all_goals
          (have zx1 := @w0; have zx2 := @w1; have zx3 := @w2; have zx4 := @hkd; have zx5 := @hds; have zx6 := @hv; have zx7 := @Fd_some; have zx8 := @Fd_none; all_goals (try ((first | (with_reducible refine wp_id ?_) | (with_reducible refine does_id ?_) | (with_reducible refine ops_id ?_)); refine walk ?_; (repeat' (first | exact trivial | with_reducible refine And.intro ?_ ?_)); all_goals (repeat (first | (with_reducible refine ImpB.mk fun hb => ?_) | (with_reducible refine ImpK.mk fun hK => ?_) | (with_reducible refine ImpF.mk fun hF => ?_) | (with_reducible refine ImpQ.mk fun hp => ?_) | (with_reducible refine AllE.mk fun p => ?_) | (with_reducible refine AllR.mk fun rest => ?_) | (with_reducible refine AllK.mk fun K => ?_))))); repeat' (with_reducible refine And.intro ?_ ?_))
        (all_goals (repeat (first | (clear hK; clear K) | (clear hE; clear E) | (clear hF; clear F) | (clear hR; clear R))); all_goals (try simp only [decide_eq_true_eq, decide_eq_false_iff_not, Bool.not_eq_true', Bool.not_eq_false', Bool.not_eq_true, Bool.not_eq_false, decide_not, decide_true, decide_false, Bool.decide_and, Bool.and_eq_true, Bool.or_eq_true, Bool.and_eq_false_imp, Decidable.not_not] at *); all_goals (try omega); all_goals (try (first | exact u8w_lo _ | exact u8w_hi _ | exact (bits8 _ _ _).1 | exact (bits8 _ _ _).2 | exact Int.natCast_nonneg _ | exact u8_ltI _)))
        · exact rdec_no hrd (.inl (by simp))
        · exact rdec_no hrd (.inl (some_ne (by omega)))
        · exact rdec_no hrd (.inr (.inl hv))
        · exact rdec_no hrd (.inl (by simp))
        · exact rdec_no hrd (.inl (some_ne (by omega)))
        · exact rdec_no hrd (.inr (.inr (by assumption)))
        · rw [decC_some hrd (by rw [List.eq_nil_of_length_eq_zero (l := ys) (by omega)]) hv (by assumption)]
          simp only [rdecA]
          refine ⟨_, _, gh_frz (t := 3) (e := .int) (xs := az) rfl ?f1 ?f1b, [], rfl, ?f1c⟩
          case' f1c => (refine ⟨?_, ?_, ?_⟩ <;> simp only [go_sem, List.range, List.range.loop, List.nodup_cons, List.nodup_nil, List.mem_cons, List.not_mem_nil, or_false, or_self, decide_true, decide_false, Int.reduceToNat, Nat.min_eq_left, Nat.min_eq_right, Int.reducePow, Nat.reducePow, Int.reduceLE, Int.reduceLT, Int.reduceMul, Int.reduceAdd, Int.reduceSub, Int.reduceNeg, Bool.not_true, Bool.not_false, Bool.not_not, ↓reduceIte, Nat.reduceAdd, Nat.reduceSub, Nat.reduceMul, Nat.reduceEqDiff, reduceCtorEq, Nat.reduceLT, Nat.reduceLeDiff, Nat.reduceGT])
          case' f1 => simp only [go_sem, decide_true, decide_false, Int.reduceToNat, Nat.min_eq_left, Nat.min_eq_right, Int.reducePow, Nat.reducePow, Int.reduceLE, Int.reduceLT, Int.reduceMul, Int.reduceAdd, Int.reduceSub, Int.reduceNeg, Bool.not_true, Bool.not_false, Bool.not_not, ↓reduceIte, Nat.reduceAdd, Nat.reduceSub, Nat.reduceMul, Nat.reduceEqDiff, reduceCtorEq, Nat.reduceLT, Nat.reduceLeDiff, Nat.reduceGT]
          case' f1b => simp only [go_sem, decide_true, decide_false, Int.reduceToNat, Nat.min_eq_left, Nat.min_eq_right, Int.reducePow, Nat.reducePow, Int.reduceLE, Int.reduceLT, Int.reduceMul, Int.reduceAdd, Int.reduceSub, Int.reduceNeg, Bool.not_true, Bool.not_false, Bool.not_not, ↓reduceIte, Nat.reduceAdd, Nat.reduceSub, Nat.reduceMul, Nat.reduceEqDiff, reduceCtorEq, Nat.reduceLT, Nat.reduceLeDiff, Nat.reduceGT]
          all_goals first | omega | rw [List.take_of_length_le (by omega)]
      · rw [if_pos (by rw [dataS, hds])] at hrd
        cases hv : validC ⟨n0, n1, n2, az, d⟩
        all_goals rcases r4 with _ | ys
        all_goals
          (have zx1 := @w0; have zx2 := @w1; have zx3 := @w2; have zx4 := @hkd; have zx5 := @hds; have zx6 := @hv; have zx7 := @Fd_some; have zx8 := @Fd_none; all_goals (try ((first | (with_reducible refine wp_id ?_) | (with_reducible refine does_id ?_) | (with_reducible refine ops_id ?_)); refine walk ?_; (repeat' (first | exact trivial | with_reducible refine And.intro ?_ ?_)); all_goals (repeat (first | (with_reducible refine ImpB.mk fun hb => ?_) | (with_reducible refine ImpK.mk fun hK => ?_) | (with_reducible refine ImpF.mk fun hF => ?_) | (with_reducible refine ImpQ.mk fun hp => ?_) | (with_reducible refine AllE.mk fun p => ?_) | (with_reducible refine AllR.mk fun rest => ?_) | (with_reducible refine AllK.mk fun K => ?_))))); repeat' (with_reducible refine And.intro ?_ ?_))
        (all_goals (repeat (first | (clear hK; clear K) | (clear hE; clear E) | (clear hF; clear F) | (clear hR; clear R))); all_goals (try simp only [decide_eq_true_eq, decide_eq_false_iff_not, Bool.not_eq_true', Bool.not_eq_false', Bool.not_eq_true, Bool.not_eq_false, decide_not, decide_true, decide_false, Bool.decide_and, Bool.and_eq_true, Bool.or_eq_true, Bool.and_eq_false_imp, Decidable.not_not] at *); all_goals (try omega); all_goals (try (first | exact u8w_lo _ | exact u8w_hi _ | exact (bits8 _ _ _).1 | exact (bits8 _ _ _).2 | exact Int.natCast_nonneg _ | exact u8_ltI _)))
        · exact rdec_no hrd (.inl (by simp))
        · exact rdec_no hrd (.inl (some_ne (by omega)))
        · exact rdec_no hrd (.inr (.inl hv))
        · exact rdec_no hrd (.inl (by simp))
        · exact rdec_no hrd (.inl (some_ne (by omega)))
        · exact rdec_no hrd (.inr (.inr (by assumption)))
        · rw [decC_some hrd (by rw [List.eq_nil_of_length_eq_zero (l := ys) (by omega)]) hv (by assumption)]
          simp only [rdecA]
          refine ⟨_, _, gh_frz (t := 3) (e := .int) (xs := az) rfl ?f2 ?f2b, [], rfl, ?f2c⟩
          case' f2c => (refine ⟨?_, ?_, ?_⟩ <;> simp only [go_sem, List.range, List.range.loop, List.nodup_cons, List.nodup_nil, List.mem_cons, List.not_mem_nil, or_false, or_self, decide_true, decide_false, Int.reduceToNat, Nat.min_eq_left, Nat.min_eq_right, Int.reducePow, Nat.reducePow, Int.reduceLE, Int.reduceLT, Int.reduceMul, Int.reduceAdd, Int.reduceSub, Int.reduceNeg, Bool.not_true, Bool.not_false, Bool.not_not, ↓reduceIte, Nat.reduceAdd, Nat.reduceSub, Nat.reduceMul, Nat.reduceEqDiff, reduceCtorEq, Nat.reduceLT, Nat.reduceLeDiff, Nat.reduceGT])
          case' f2 => simp only [go_sem, decide_true, decide_false, Int.reduceToNat, Nat.min_eq_left, Nat.min_eq_right, Int.reducePow, Nat.reducePow, Int.reduceLE, Int.reduceLT, Int.reduceMul, Int.reduceAdd, Int.reduceSub, Int.reduceNeg, Bool.not_true, Bool.not_false, Bool.not_not, ↓reduceIte, Nat.reduceAdd, Nat.reduceSub, Nat.reduceMul, Nat.reduceEqDiff, reduceCtorEq, Nat.reduceLT, Nat.reduceLeDiff, Nat.reduceGT]
          case' f2b => simp only [go_sem, decide_true, decide_false, Int.reduceToNat, Nat.min_eq_left, Nat.min_eq_right, Int.reducePow, Nat.reducePow, Int.reduceLE, Int.reduceLT, Int.reduceMul, Int.reduceAdd, Int.reduceSub, Int.reduceNeg, Bool.not_true, Bool.not_false, Bool.not_not, ↓reduceIte, Nat.reduceAdd, Nat.reduceSub, Nat.reduceMul, Nat.reduceEqDiff, reduceCtorEq, Nat.reduceLT, Nat.reduceLeDiff, Nat.reduceGT]
          all_goals first | omega | rw [List.take_of_length_le (by omega)]
  · omega
  · (focus (refine ⟨_, _, Gh.refl, [0, 1, 2, 3], rfl, ?_⟩; (refine ⟨?_, ?_, ?_⟩ <;> simp only [go_sem, List.range, List.range.loop, List.nodup_cons, List.nodup_nil, List.mem_cons, List.not_mem_nil, or_false, or_self, decide_true, decide_false, Int.reduceToNat, Nat.min_eq_left, Nat.min_eq_right, Int.reducePow, Nat.reducePow, Int.reduceLE, Int.reduceLT, Int.reduceMul, Int.reduceAdd, Int.reduceSub, Int.reduceNeg, Bool.not_true, Bool.not_false, Bool.not_not, ↓reduceIte, Nat.reduceAdd, Nat.reduceSub, Nat.reduceMul, Nat.reduceEqDiff, reduceCtorEq, Nat.reduceLT, Nat.reduceLeDiff, Nat.reduceGT]); (try any_goals (refine ⟨?_, ?_⟩)); (try any_goals (with_reducible rfl))))
    all_goals rfl
theorem c_rdec {h : List Ch} {K : KT} {b : List UInt8} {a : AV} (H : K (rdecA (decC b)) h) (q1 : isRO .byte b a) (s1 : b.length ≤ 1000000) : Does Try.prog 78 [a] h K :=
  frame_pure (b_rdec b s1) (br_cons q1.br br_nil) (.inl (by rw [brTL, q1.brT]; rfl)) (fun _ => by unfold rdecA; cases decC b <;> rfl) H
abbrev i_rdec := Ctr.mk (i := 0) (g := 78) @c_rdec
attribute [instance] i_rdec
end Go.V

set_option maxRecDepth 100000
set_option maxHeartbeats 1000000
namespace Go.V
open Go.Proofs
abbrev cmdL (x : Cmd) : List AV := [.int .i64 x.src, .int .i64 x.num, .int .i64 x.srv, .ro .int x.args, .ro .byte x.data]
abbrev stpL (x : Stp) : List AV := [.int .i64 x.kind, .int .i64 x.param, .int .i64 x.op, .int .i64 x.value, .int .i64 x.next, .int .i64 x.ticks, .int .i64 x.c.src, .int .i64 x.c.num, .int .i64 x.c.srv, .ro .int x.c.args, .ro .byte x.c.data]
/-- no command -/
def noC (c : Cmd) : Prop := c.src = 0 ∧ c.num = 0 ∧ c.srv = 0 ∧ c.args.length = 0 ∧ c.data.length = 0
instance (c : Cmd) : Decidable (noC c) := by unfold noC; exact inferInstance
/-- no comparison -/
def plS (x : Stp) : Prop := x.param = 0 ∧ x.op = 0 ∧ x.value = 0
def cpS (x : Stp) : Prop := (0 ≤ x.param ∧ x.param ≤ 65535) ∧ (1 ≤ x.op ∧ x.op ≤ 3) ∧ -2147483648 ≤ x.value ∧ x.value ≤ 2147483648
def nxS (x : Stp) (n : Int) : Prop := 0 ≤ x.next ∧ x.next < n
/-- a valid step of n, without its command -/
def okZ (x : Stp) (n : Int) : Prop :=
  (x.kind ≠ 1 → noC x.c) ∧ (x.kind ≠ 2 → x.ticks = 0) ∧
  ((x.kind = 1 ∧ plS x ∧ x.next = 0) ∨ (x.kind = 2 ∧ plS x ∧ x.next = 0 ∧ 0 ≤ x.ticks ∧ x.ticks ≤ 1099511627776) ∨ (x.kind = 3 ∧ cpS x ∧ nxS x n) ∨ (x.kind = 4 ∧ cpS x ∧ x.next = 0) ∨ (x.kind = 5 ∧ plS x ∧ nxS x n) ∨ (x.kind = 6 ∧ plS x ∧ x.next = 0))
instance (x : Stp) (n : Int) : Decidable (okZ x n) := by unfold okZ noC plS cpS nxS; exact inferInstance
def vldS (x : Stp) (n : Int) : Bool := decide (okZ x n) && (decide (x.kind ≠ 1) || validC x.c)
def vldQ (l : List Stp) : Bool := decide (1 ≤ l.length) && decide (l.length ≤ 256) && l.all fun x => vldS x l.length
/-- a step's encoding -/
def encS (x : Stp) : List UInt8 :=
  be x.kind.toNat 1 ++ (if x.kind = 1 then encI (encC x.c).length ++ encC x.c else if x.kind = 2 then encI x.ticks else if x.kind = 3 then encI x.param ++ be x.op.toNat 1 ++ encI x.value ++ encI x.next else if x.kind = 4 then encI x.param ++ be x.op.toNat 1 ++ encI x.value else if x.kind = 5 then encI x.next else [])
def encQ (l : List Stp) : List UInt8 := encI l.length ++ l.flatMap encS
end Go.V

set_option maxRecDepth 100000
namespace Go.V
open Go.Proofs
theorem vdAux_canon (xs : List UInt8) : ∀ i q a k, vdAux i q xs = some (a, k) → ∃ z, (0 < z ∨ i = 0) ∧ a = q + z * 128 ^ i ∧ vint z ++ xs.drop (k - i) = xs := by
  induction xs with
  | nil => intro i q a k h; simp [vdAux] at h
  | cons x xs ih =>
    intro i q a k h
    have hxl := u8_lt x
    rw [vdAux] at h
    split at h
    · cases h
    · split at h
      · rename_i hs
        split at h
        · cases h
        · rename_i h0
          simp only [Option.some.injEq, Prod.mk.injEq] at h
          obtain ⟨h1, rfl⟩ := h
          refine ⟨x.toNat, by omega, ?_, ?_⟩
          · rw [← h1, Nat.mod_eq_of_lt hs]
          · rw [vint_small hs, show i + 1 - i = 1 by omega, UInt8.ofNat_toNat]
            rfl
      · rename_i hs
        obtain ⟨z, hz0, hz, hd⟩ := ih _ _ _ _ h
        have hk := vdAux_le xs _ _ _ _ h
        have e1 : (z * 128 + x.toNat % 128) / 128 = z := by omega
        have e2 : (z * 128 + x.toNat % 128) % 128 + 128 = x.toNat := by omega
        refine ⟨z * 128 + x.toNat % 128, by omega, ?_, ?_⟩
        · rw [hz, Nat.add_mul, Nat.pow_succ, Nat.mul_comm (128 ^ i) 128, ← Nat.mul_assoc]
          omega
        · rw [vint_big (by omega), e1, e2, UInt8.ofNat_toNat, show k - i = (k - (i + 1)) + 1 by omega, List.drop_succ_cons, List.cons_append, hd]
theorem intR_canon {b : List UInt8} {n : Int} {rest : List UInt8} (h : intR (some b) = (n, some rest)) : b = encI n ++ rest := by
  unfold intR at h
  simp only at h
  split at h
  · cases h
  · rename_i z k e
    simp only [Prod.mk.injEq, Option.some.injEq] at h
    obtain ⟨rfl, rfl⟩ := h
    obtain ⟨w, _, h1, h2⟩ := vdAux_canon b 0 0 z k e
    rw [Nat.pow_zero, Nat.mul_one, Nat.zero_add] at h1
    rw [encI, zz_unzz, h1]
    exact h2.symm
theorem uintR_canon {b : List UInt8} {s n : Nat} {rest : List UInt8} (h : uintR (some b) s = (n, some rest)) : b = be n s ++ rest := by
  unfold uintR at h
  simp only at h
  split at h
  · rename_i hl
    simp only [Prod.mk.injEq, Option.some.injEq] at h
    obtain ⟨rfl, rfl⟩ := h
    have := be_beval (b.take s)
    rw [List.length_take, Nat.min_eq_left hl] at this
    rw [this, List.take_append_drop]
  · cases h
theorem blobR_canon {b : List UInt8} {m : Int} {d rest : List UInt8} (h : blobR (some b) m = (d, some rest)) : b = encI d.length ++ d ++ rest := by
  unfold blobR countR at h
  rcases e : intR (some b) with ⟨n, _ | ys⟩
  · rw [e] at h; cases h
  · rw [e] at h
    have hb := intR_canon e
    simp only at h
    split at h
    · cases h
    · rename_i n' ys' hq
      split at hq
      · cases hq
      · rename_i hn
        simp only [Prod.mk.injEq, Option.some.injEq] at hq
        obtain ⟨rfl, rfl⟩ := hq
        split at h
        · cases h
        · rename_i hl
          simp only [Prod.mk.injEq, Option.some.injEq] at h
          obtain ⟨rfl, rfl⟩ := h
          have : ((ys.take n.toNat).length : Int) = n := by rw [List.length_take]; omega
          rw [this, List.append_assoc, List.take_append_drop]
          exact hb
theorem decC_canon {d : List UInt8} {c : Cmd} (h : decC d = some c) : encC c = d ∧ validC c = true := by
  unfold decC at h
  split at h
  · rename_i h1
    cases h
    exact ⟨h1.2.2, h1.2.1⟩
  · cases h
/-- a value, where the reading did not fail -/
def okr {α : Type} (r : Option (List UInt8)) (x : α) : Option α := match r with
  | none => none
  | some _ => some x
theorem okr_some {α : Type} {r : Option (List UInt8)} {x y : α} (h : okr r x = some y) : x = y ∧ ∃ rest, r = some rest := by
  cases r with
  | none => cases h
  | some ys => exact ⟨Option.some.inj h, _, rfl⟩
/-- one step, and what is left -/
def oneS (r : Option (List UInt8)) : Option Stp × Option (List UInt8) :=
  let k := uintR r 1
  if k.1 = 1 then ((decC (blobR k.2 4096).1).map fun c => ⟨1, 0, 0, 0, 0, 0, c⟩, (blobR k.2 4096).2)
  else if k.1 = 2 then (okr (intR k.2).2 ⟨2, 0, 0, 0, 0, (intR k.2).1, Cmd.zero⟩, (intR k.2).2)
  else if k.1 = 3 then
    let p := intR k.2; let o := uintR p.2 1; let v := intR o.2; let n := intR v.2
    (okr n.2 ⟨3, p.1, o.1, v.1, n.1, 0, Cmd.zero⟩, n.2)
  else if k.1 = 4 then
    let p := intR k.2; let o := uintR p.2 1; let v := intR o.2
    (okr v.2 ⟨4, p.1, o.1, v.1, 0, 0, Cmd.zero⟩, v.2)
  else if k.1 = 5 then (okr (intR k.2).2 ⟨5, 0, 0, 0, (intR k.2).1, 0, Cmd.zero⟩, (intR k.2).2)
  else (okr k.2 ⟨k.1, 0, 0, 0, 0, 0, Cmd.zero⟩, k.2)
theorem intR_of {r : Option (List UInt8)} {rest : List UInt8} (h : (intR r).2 = some rest) : ∃ b, r = some b ∧ b = encI (intR r).1 ++ rest := by
  cases r with
  | none => cases h
  | some b => exact ⟨b, rfl, intR_canon (by rw [← h])⟩
theorem uintR_of {r : Option (List UInt8)} {s : Nat} {rest : List UInt8} (h : (uintR r s).2 = some rest) : ∃ b, r = some b ∧ b = be (uintR r s).1 s ++ rest := by
  cases r with
  | none => cases h
  | some b => exact ⟨b, rfl, uintR_canon (by rw [← h])⟩
theorem blobR_of {r : Option (List UInt8)} {m : Int} {rest : List UInt8} (h : (blobR r m).2 = some rest) : ∃ b, r = some b ∧ b = encI (blobR r m).1.length ++ (blobR r m).1 ++ rest := by
  cases r with
  | none => simp [blobR, countR, intR] at h
  | some b => exact ⟨b, rfl, blobR_canon (by rw [← h])⟩
theorem blobR_nil {r : Option (List UInt8)} {m : Int} (h : (blobR r m).2 = none) : (blobR r m).1 = [] := by
  unfold blobR at h ⊢
  split
  · rfl
  · rename_i n ys e
    rw [e] at h
    simp only at h
    split at h
    · rename_i hl; rw [if_pos hl]
    · cases h
theorem decC_nil : decC [] = none := by decide +kernel
theorem oneS_canon {r : Option (List UInt8)} {x : Stp} (h : (oneS r).1 = some x) : ∃ b rest, r = some b ∧ (oneS r).2 = some rest ∧ b = encS x ++ rest := by
  unfold oneS at h ⊢
  simp only at h ⊢
  split at h
  · rename_i k1
    rw [if_pos k1]
    rw [Option.map_eq_some_iff] at h
    obtain ⟨c, hc, rfl⟩ := h
    obtain ⟨hd, hv⟩ := decC_canon hc
    cases e : (blobR (uintR r 1).2 4096).2 with
    | none =>
      rw [blobR_nil e, decC_nil] at hc
      cases hc
    | some rest =>
      obtain ⟨b1, hb1, hb2⟩ := blobR_of e
      obtain ⟨b, rfl, hb⟩ := uintR_of hb1
      refine ⟨b, rest, rfl, rfl, ?_⟩
      refine hb.trans ?_
      rw [hb2, k1, ← hd, encS]
      simp [List.append_assoc]
  split at h
  · rename_i k1 k2
    rw [if_neg k1, if_pos k2]
    obtain ⟨rfl, rest, e⟩ := okr_some h
    obtain ⟨b1, hb1, hb2⟩ := intR_of e
    obtain ⟨b, rfl, hb⟩ := uintR_of hb1
    refine ⟨b, rest, rfl, e, ?_⟩
    refine hb.trans ?_
    rw [hb2, k2, encS]
    simp [List.append_assoc]
  split at h
  · rename_i k1 k2 k3
    rw [if_neg k1, if_neg k2, if_pos k3]
    obtain ⟨rfl, rest, e⟩ := okr_some h
    obtain ⟨b4, hb4, hc4⟩ := intR_of e
    obtain ⟨b3, hb3, hc3⟩ := intR_of hb4
    obtain ⟨b2, hb2, hc2⟩ := uintR_of hb3
    obtain ⟨b1, hb1, hc1⟩ := intR_of hb2
    obtain ⟨b, rfl, hb⟩ := uintR_of hb1
    refine ⟨b, rest, rfl, e, ?_⟩
    refine hb.trans ?_
    rw [hc1, hc2, hc3, hc4, k3, encS]
    simp [List.append_assoc]
  split at h
  · rename_i k1 k2 k3 k4
    rw [if_neg k1, if_neg k2, if_neg k3, if_pos k4]
    obtain ⟨rfl, rest, e⟩ := okr_some h
    obtain ⟨b3, hb3, hc3⟩ := intR_of e
    obtain ⟨b2, hb2, hc2⟩ := uintR_of hb3
    obtain ⟨b1, hb1, hc1⟩ := intR_of hb2
    obtain ⟨b, rfl, hb⟩ := uintR_of hb1
    refine ⟨b, rest, rfl, e, ?_⟩
    refine hb.trans ?_
    rw [hc1, hc2, hc3, k4, encS]
    simp [List.append_assoc]
  split at h
  · rename_i k1 k2 k3 k4 k5
    rw [if_neg k1, if_neg k2, if_neg k3, if_neg k4, if_pos k5]
    obtain ⟨rfl, rest, e⟩ := okr_some h
    obtain ⟨b1, hb1, hb2⟩ := intR_of e
    obtain ⟨b, rfl, hb⟩ := uintR_of hb1
    refine ⟨b, rest, rfl, e, ?_⟩
    refine hb.trans ?_
    rw [hb2, k5, encS]
    simp [List.append_assoc]
  · rename_i k1 k2 k3 k4 k5
    rw [if_neg k1, if_neg k2, if_neg k3, if_neg k4, if_neg k5]
    obtain ⟨rfl, rest, e⟩ := okr_some h
    obtain ⟨b, rfl, hb⟩ := uintR_of e
    refine ⟨b, rest, rfl, e, ?_⟩
    rw [encS]
    simp only
    rw [if_neg (by omega), if_neg (by omega), if_neg (by omega), if_neg (by omega), if_neg (by omega), List.append_nil, Int.toNat_natCast]
    exact hb
/-- the command of a step that has none -/
theorem okZ_c {x : Stp} {n : Int} (h : okZ x n) (hk : x.kind ≠ 1) : x.c = Cmd.zero := by
  obtain ⟨h1, h2, h3, h4, h5⟩ := h.1 hk
  revert h1 h2 h3 h4 h5
  rcases x.c with ⟨a, b, c, d, e⟩
  intro h1 h2 h3 h4 h5
  simp only at h1 h2 h3 h4 h5
  subst h1; subst h2; subst h3
  rw [List.length_eq_zero_iff] at h4 h5
  subst h4; subst h5
  rfl
theorem vldS_iff {x : Stp} {n : Int} : vldS x n = true ↔ okZ x n ∧ (x.kind = 1 → validC x.c = true) := by
  unfold vldS
  rw [Bool.and_eq_true, Bool.or_eq_true, decide_eq_true_eq, decide_eq_true_eq]
  constructor
  · rintro ⟨h1, h2⟩
    exact ⟨h1, fun q => h2.resolve_left (fun w => w q)⟩
  · rintro ⟨h1, h2⟩
    refine ⟨h1, ?_⟩
    by_cases q : x.kind = 1
    · exact .inr (h2 q)
    · exact .inl q
theorem oneS_enc {x : Stp} {n : Int} (hn : n ≤ 256) (h : vldS x n = true) (rest : List UInt8) : oneS (some (encS x ++ rest)) = (some x, some rest) := by
  obtain ⟨hz, hv⟩ := vldS_iff.1 h
  have hcz := okZ_c hz
  obtain ⟨-, ht, hk⟩ := hz
  unfold plS cpS nxS at hk
  obtain ⟨kind, param, op, value, next, ticks, c⟩ := x
  simp only at hk ht hcz hv
  have e0 : ∀ ys, uintR (some (be kind.toNat 1 ++ ys)) 1 = (kind.toNat, some ys) := fun ys => uintR_be _ _ (by omega) _
  rcases hk with ⟨rfl, ⟨rfl, rfl, rfl⟩, rfl⟩ | ⟨rfl, ⟨rfl, rfl, rfl⟩, rfl, h1, h2⟩ | ⟨rfl, ⟨⟨p1, p2⟩, ⟨o1, o2⟩, v1, v2⟩, n1, n2⟩ | ⟨rfl, ⟨⟨p1, p2⟩, ⟨o1, o2⟩, v1, v2⟩, rfl⟩ | ⟨rfl, ⟨rfl, rfl, rfl⟩, n1, n2⟩ | ⟨rfl, ⟨rfl, rfl, rfl⟩, rfl⟩
  · obtain rfl := ht (by decide)
    have hl := encC_len (hv rfl)
    have e4 := blobR_enc (encC c) rest 4096 (by omega) (by omega)
    have e1 := e0 (encI (encC c).length ++ encC c ++ rest)
    have hE : encS ⟨1, 0, 0, 0, 0, 0, c⟩ ++ rest = be (Int.toNat 1) 1 ++ (encI (encC c).length ++ encC c ++ rest) := by simp [encS]
    rw [hE]; unfold oneS
    simp only [e1, e4, dec_enc (hv rfl), Option.map_some]
    simp
  · obtain rfl := hcz (by decide)
    have e2 := intR_enc ticks (by constructor <;> omega) rest
    have e1 := e0 (encI ticks ++ rest)
    have hE : encS ⟨2, 0, 0, 0, 0, ticks, Cmd.zero⟩ ++ rest = be (Int.toNat 2) 1 ++ (encI ticks ++ rest) := by simp [encS]
    rw [hE]; unfold oneS
    simp only [e1, e2, okr]
    simp
  · obtain rfl := hcz (by decide)
    obtain rfl := ht (by decide)
    have e2 := intR_enc param (by constructor <;> omega) (be op.toNat 1 ++ (encI value ++ (encI next ++ rest)))
    have e3 := uintR_be op.toNat 1 (by omega) (encI value ++ (encI next ++ rest))
    have e4 := intR_enc value (by constructor <;> omega) (encI next ++ rest)
    have e5 := intR_enc next (by constructor <;> omega) rest
    have e1 := e0 (encI param ++ (be op.toNat 1 ++ (encI value ++ (encI next ++ rest))))
    have eo : ((op.toNat : Nat) : Int) = op := by omega
    have hE : encS ⟨3, param, op, value, next, 0, Cmd.zero⟩ ++ rest = be (Int.toNat 3) 1 ++ (encI param ++ (be op.toNat 1 ++ (encI value ++ (encI next ++ rest)))) := by simp [encS]
    rw [hE]; unfold oneS
    simp only [e1, e2, e3, e4, e5, okr, eo]
    simp
  · obtain rfl := hcz (by decide)
    obtain rfl := ht (by decide)
    have e2 := intR_enc param (by constructor <;> omega) (be op.toNat 1 ++ (encI value ++ rest))
    have e3 := uintR_be op.toNat 1 (by omega) (encI value ++ rest)
    have e4 := intR_enc value (by constructor <;> omega) rest
    have e1 := e0 (encI param ++ (be op.toNat 1 ++ (encI value ++ rest)))
    have eo : ((op.toNat : Nat) : Int) = op := by omega
    have hE : encS ⟨4, param, op, value, 0, 0, Cmd.zero⟩ ++ rest = be (Int.toNat 4) 1 ++ (encI param ++ (be op.toNat 1 ++ (encI value ++ rest))) := by simp [encS]
    rw [hE]; unfold oneS
    simp only [e1, e2, e3, e4, okr, eo]
    simp
  · obtain rfl := hcz (by decide)
    obtain rfl := ht (by decide)
    have e2 := intR_enc next (by constructor <;> omega) rest
    have e1 := e0 (encI next ++ rest)
    have hE : encS ⟨5, 0, 0, 0, next, 0, Cmd.zero⟩ ++ rest = be (Int.toNat 5) 1 ++ (encI next ++ rest) := by simp [encS]
    rw [hE]; unfold oneS
    simp only [e1, e2, okr]
    simp
  · obtain rfl := hcz (by decide)
    obtain rfl := ht (by decide)
    have e1 := e0 rest
    have hE : encS ⟨6, 0, 0, 0, 0, 0, Cmd.zero⟩ ++ rest = be (Int.toNat 6) 1 ++ rest := by simp [encS]
    rw [hE]; unfold oneS
    simp only [e1, okr]
    simp
def rdsS (r : Option (List UInt8)) : Nat → Option (List Stp) × Option (List UInt8)
  | 0 => (some [], r)
  | k + 1 => match rdsS r k with
    | (none, r1) => (none, r1)
    | (some l, r1) => ((oneS r1).1.map fun x => l ++ [x], (oneS r1).2)
def decQ (b : List UInt8) : Option (List Stp) :=
  match rdsS (countR (some b) 256).2 (countR (some b) 256).1.toNat with
  | (some l, r) => if r = some [] ∧ vldQ l = true then some l else none
  | (none, _) => none
theorem rdsS_none {r : Option (List UInt8)} {k : Nat} (h : (rdsS r k).1 = none) : ∀ n, (rdsS r (k + n)).1 = none
  | 0 => h
  | n + 1 => by
    have := rdsS_none h n
    rw [← Nat.add_assoc, rdsS]
    revert this
    rcases rdsS r (k + n) with ⟨l, r1⟩
    intro q
    simp only at q
    subst q
    rfl
theorem rdsS_step {r r1 : Option (List UInt8)} {k : Nat} {l : List Stp} (h : rdsS r k = (some l, r1)) : rdsS r (k + 1) = ((oneS r1).1.map fun x => l ++ [x], (oneS r1).2) := by
  rw [rdsS, h]
theorem rdsS_length {r : Option (List UInt8)} : ∀ {k : Nat} {l : List Stp} {r1 : Option (List UInt8)}, rdsS r k = (some l, r1) → l.length = k
  | 0, l, r1, h => by simp only [rdsS, Prod.mk.injEq, Option.some.injEq] at h; rw [← h.1]; rfl
  | k + 1, l, r1, h => by
    rw [rdsS] at h
    split at h
    · simp at h
    · rename_i l' r2 e
      have ih := rdsS_length e
      simp only [Prod.mk.injEq, Option.map_eq_some_iff] at h
      obtain ⟨⟨x, _, h1⟩, _⟩ := h
      rw [← h1, List.length_append, ih]
      rfl
theorem rdsS_canon {r : Option (List UInt8)} : ∀ {k : Nat} {l : List Stp} {rest : List UInt8}, rdsS r k = (some l, some rest) → ∃ b, r = some b ∧ b = l.flatMap encS ++ rest
  | 0, l, rest, h => by
    simp only [rdsS, Prod.mk.injEq, Option.some.injEq] at h
    exact ⟨rest, h.2, by rw [← h.1]; rfl⟩
  | k + 1, l, rest, h => by
    rw [rdsS] at h
    split at h
    · simp at h
    · rename_i l' r2 e
      simp only [Prod.mk.injEq, Option.map_eq_some_iff] at h
      obtain ⟨⟨x, hx, h1⟩, h2⟩ := h
      obtain ⟨b1, rest1, rfl, h4, h5⟩ := oneS_canon hx
      rw [h4] at h2
      cases h2
      obtain ⟨b, hb, hb2⟩ := rdsS_canon e
      exact ⟨b, hb, by rw [hb2, h5, ← h1, List.flatMap_append, List.flatMap_singleton, List.append_assoc]⟩
theorem stp_take {l : List Stp} {k : Nat} (hk : k < l.length) : l.take (k + 1) = l.take k ++ [l.getD k Stp.zero] := by
  rw [List.take_succ_eq_append_getElem hk, List.getD_eq_getElem?_getD, List.getElem?_eq_getElem hk]
  rfl
theorem vldQ_iff {l : List Stp} : vldQ l = true ↔ (1 ≤ l.length ∧ l.length ≤ 256) ∧ ∀ x ∈ l, vldS x l.length = true := by
  unfold vldQ
  rw [Bool.and_eq_true, Bool.and_eq_true, decide_eq_true_eq, decide_eq_true_eq, List.all_eq_true]
theorem vldQ_at {l : List Stp} {k : Nat} (h : vldQ l = true) (hk : k < l.length) : vldS (l.getD k Stp.zero) l.length = true := by
  refine (vldQ_iff.1 h).2 _ ?_
  rw [List.getD_eq_getElem?_getD, List.getElem?_eq_getElem hk]
  exact List.getElem_mem hk
theorem rdsS_enc {l : List Stp} (h : vldQ l = true) (rest : List UInt8) : ∀ k, k ≤ l.length → rdsS (some (l.flatMap encS ++ rest)) k = (some (l.take k), some ((l.drop k).flatMap encS ++ rest))
  | 0, _ => by simp [rdsS]
  | k + 1, hk => by
    have ih := rdsS_enc h rest k (by omega)
    rw [rdsS_step ih]
    have hv := vldQ_at h (show k < l.length by omega)
    have hl := (vldQ_iff.1 h).1
    have e : l.drop k = l.getD k Stp.zero :: l.drop (k + 1) := by
      rw [List.drop_eq_getElem_cons (by omega), List.getD_eq_getElem?_getD, List.getElem?_eq_getElem (by omega)]
      rfl
    rw [e, List.flatMap_cons, List.append_assoc, oneS_enc (by omega) hv, stp_take (by omega)]
    rfl
theorem decQ_enc {l : List Stp} (h : vldQ l = true) : decQ (encQ l) = some l := by
  have hl := (vldQ_iff.1 h).1
  have hc : countR (some (encQ l)) 256 = ((l.length : Int), some (l.flatMap encS)) := by
    unfold countR encQ
    rw [intR_enc _ (by constructor <;> omega)]
    simp only
    rw [if_neg (by omega)]
  have hr := rdsS_enc h [] l.length (Nat.le_refl _)
  rw [List.append_nil, List.drop_length, List.take_length] at hr
  unfold decQ
  rw [hc]
  simp only [Int.toNat_natCast, hr]
  simp [h]
theorem countR_canon {b : List UInt8} {m n : Int} {rest : List UInt8} (h : countR (some b) m = (n, some rest)) : b = encI n ++ rest ∧ 0 ≤ n ∧ n ≤ m := by
  unfold countR at h
  rcases e : intR (some b) with ⟨n', _ | ys⟩
  · rw [e] at h; cases h
  · rw [e] at h
    simp only at h
    split at h
    · cases h
    · cases h
      exact ⟨intR_canon e, by omega, by omega⟩
theorem rdsS_encQ {b : List UInt8} {l : List Stp} (h : rdsS (countR (some b) 256).2 (countR (some b) 256).1.toNat = (some l, some [])) : encQ l = b := by
  obtain ⟨b1, h1, h2⟩ := rdsS_canon h
  have hll := rdsS_length h
  obtain ⟨h3, h4, h5⟩ := countR_canon (b := b) (m := 256) (n := (countR (some b) 256).1) (rest := b1) (by rw [← h1])
  rw [List.append_nil] at h2
  rw [encQ, h3, h2]
  congr 2
  omega
theorem decQ_iff {b : List UInt8} {l : List Stp} : decQ b = some l ↔ vldQ l = true ∧ encQ l = b := by
  constructor
  · intro h
    unfold decQ at h
    split at h
    · rename_i l' r e
      split at h
      · rename_i h1
        cases h
        rw [h1.1] at e
        exact ⟨h1.2, rdsS_encQ e⟩
      · cases h
    · cases h
  · rintro ⟨h1, rfl⟩
    exact decQ_enc h1
theorem rdsS_no {b : List UInt8} {n : Int} {r0 : Option (List UInt8)} {k : Nat} (e0 : countR (some b) 256 = (n, r0)) (h : (rdsS r0 k).1 = none) (hk : k ≤ n.toNat) : decQ b = none := by
  rw [decQ, e0]
  obtain ⟨j, hj⟩ := Nat.exists_eq_add_of_le hk
  have := rdsS_none h j
  rw [← hj] at this
  simp only
  split
  · rename_i l r e
    rw [e] at this
    cases this
  · rfl
theorem rdsS_end {b : List UInt8} {n : Int} {r0 r : Option (List UInt8)} {l : List Stp} (e0 : countR (some b) 256 = (n, r0)) (h : rdsS r0 n.toNat = (some l, r)) : decQ b = if r = some [] ∧ vldQ l = true then some l else none := by
  rw [decQ, e0]
  simp only [h]
theorem rdsS_same {b : List UInt8} {n : Int} {r0 : Option (List UInt8)} {l : List Stp} (e0 : countR (some b) 256 = (n, r0)) (h : rdsS r0 n.toNat = (some l, some [])) : encQ l = b := by
  refine rdsS_encQ ?_
  rw [e0]
  exact h
end Go.V
