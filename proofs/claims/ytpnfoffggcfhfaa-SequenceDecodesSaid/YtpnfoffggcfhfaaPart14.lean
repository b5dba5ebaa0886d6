/-
  ref03: encoders and decoders.
  ref03: counts, byte strings, the Reader.
-/
import Derived.Test.YtpnfoffggcfhfaaPart13
set_option linter.unusedVariables false
set_option linter.unusedSimpArgs false
set_option maxRecDepth 100000
set_option maxHeartbeats 1000000
namespace Go.V
open Go.Proofs
theorem b_fuint (n size : Nat) (hn : n < 18446744073709551616) (h1 : 1 ≤ size) (h8 : size ≤ 8) : DoesK Try.prog 0 91 [.int .u64 n, .int .i64 size] [] (EndF 0 (.sl 0 .byte 0 size) [.rows .byte (be n size)]) := by
  refine DoesK.close ?_
  refine w_body (rs := [.tmp 4]) (tm := [.int .u64 n, .int .i64 size, .any, .any, .any, .any, .any, .any, .any, .any, .any, .any, .any, .any, .any, .any, .any, .any, .any, .any, .any, .any, .any, .any, .any, .any, .any, .any, .any, .any]) fn_91 rfl rfl rfl rfl fun R hR => ?_
  (all_goals (try ((first | (with_reducible refine wp_id ?_) | (with_reducible refine does_id ?_) | (with_reducible refine ops_id ?_)); refine walk ?_; (repeat' (first | exact trivial | with_reducible refine And.intro ?_ ?_)); all_goals (repeat (first | (with_reducible refine ImpB.mk fun hb => ?_) | (with_reducible refine ImpK.mk fun hK => ?_) | (with_reducible refine ImpF.mk fun hF => ?_) | (with_reducible refine ImpQ.mk fun hp => ?_) | (with_reducible refine AllE.mk fun p => ?_) | (with_reducible refine AllR.mk fun rest => ?_) | (with_reducible refine AllK.mk fun K => ?_))))); repeat' (with_reducible refine And.intro ?_ ?_))
  (all_goals try (exfalso; (try simp only [decide_eq_true_eq, decide_eq_false_iff_not, Bool.not_eq_true', Bool.not_eq_false', Bool.not_eq_true, Bool.not_eq_false, decide_not, decide_true, decide_false, Bool.decide_and, Bool.and_eq_true, Bool.or_eq_true, Bool.and_eq_false_imp, Decidable.not_not] at *); omega))
  any_goals ((try (refine w_seq fun K hK => ?_)); (try (refine w_block ?_)); refine w_loop (A := Nat) (fun k => k ≤ size) (fun k => size - k) (fun k => [(6, .int .i64 ((size : Int) - 1 - k)), (0, .int .u64 ((n / 256 ^ k : Nat) : Int))]) (fun k => [(0, .rows .byte (List.replicate (size - k) 0 ++ be n k))]) (0) (ws := ?ws1) (tk := ?tk1) ?hw1 ?ht1 ?hi ?h0 ?LH1; (case hw1 => simp only [go_sem, decide_true, decide_false, Int.reduceToNat, Nat.min_eq_left, Nat.min_eq_right, Int.reducePow, Nat.reducePow, Int.reduceLE, Int.reduceLT, Int.reduceMul, Int.reduceAdd, Int.reduceSub, Int.reduceNeg, Bool.not_true, Bool.not_false, Bool.not_not, ↓reduceIte, Nat.reduceAdd, Nat.reduceSub, Nat.reduceMul, Nat.reduceEqDiff, reduceCtorEq, Nat.reduceLT, Nat.reduceLeDiff, Nat.reduceGT]; exact rfl); (case ht1 => simp only [go_sem, decide_true, decide_false, Int.reduceToNat, Nat.min_eq_left, Nat.min_eq_right, Int.reducePow, Nat.reducePow, Int.reduceLE, Int.reduceLT, Int.reduceMul, Int.reduceAdd, Int.reduceSub, Int.reduceNeg, Bool.not_true, Bool.not_false, Bool.not_not, ↓reduceIte, Nat.reduceAdd, Nat.reduceSub, Nat.reduceMul, Nat.reduceEqDiff, reduceCtorEq, Nat.reduceLT, Nat.reduceLeDiff, Nat.reduceGT]; exact rfl); (case' LH1 => rintro k E t hx hE ht; simp only [go_sem] at ht; subst ht; simp only [go_sem]; try dsimp only at hx))
  (all_goals (try ((first | (with_reducible refine wp_id ?_) | (with_reducible refine does_id ?_) | (with_reducible refine ops_id ?_)); refine walk ?_; (repeat' (first | exact trivial | with_reducible refine And.intro ?_ ?_)); all_goals (repeat (first | (with_reducible refine ImpB.mk fun hb => ?_) | (with_reducible refine ImpK.mk fun hK => ?_) | (with_reducible refine ImpF.mk fun hF => ?_) | (with_reducible refine ImpQ.mk fun hp => ?_) | (with_reducible refine AllE.mk fun p => ?_) | (with_reducible refine AllR.mk fun rest => ?_) | (with_reducible refine AllK.mk fun K => ?_))))); repeat' (with_reducible refine And.intro ?_ ?_))
  (all_goals (repeat (first | (clear hK; clear K) | (clear hE; clear E) | (clear hF; clear F) | (clear hR; clear R))); all_goals (try simp only [decide_eq_true_eq, decide_eq_false_iff_not, Bool.not_eq_true', Bool.not_eq_false', Bool.not_eq_true, Bool.not_eq_false, decide_not, decide_true, decide_false, Bool.decide_and, Bool.and_eq_true, Bool.or_eq_true, Bool.and_eq_false_imp, Decidable.not_not] at *); all_goals (try omega); all_goals (try (first | exact u8w_lo _ | exact u8w_hi _ | exact (bits8 _ _ _).1 | exact (bits8 _ _ _).2 | exact Int.natCast_nonneg _ | exact u8_ltI _)))
  all_goals try simp only [List.length_append, List.length_replicate, be_len]
  all_goals try omega
  · have hk : (size : Int) - 1 - k = ((size - 1 - k : Nat) : Int) := by omega
    have hm : (((n / 256 ^ k : Nat) : Int).tmod 256) = ((n / 256 ^ k % 256 : Nat) : Int) := by
      rw [Int.tmod_eq_emod_of_nonneg (Int.natCast_nonneg _)]; omega
    have hby : UInt8.ofNat (IntKind.u8.wrap (((n / 256 ^ k : Nat) : Int).tmod 256)).toNat = UInt8.ofNat (n / 256 ^ k % 256) := by
      rw [hm, wrap_u8]; congr 1; omega
    rw [hby]
    refine ⟨k + 1, ⟨by dsimp only; omega, by dsimp only; omega⟩, ?_⟩
    (focus (refine ⟨_, _, Gh.refl, [0], rfl, ?_⟩; (refine fitq ?_ ?_ ?_ <;> try exact trivial); (try any_goals (refine ⟨?_, ?_⟩)); (try any_goals (with_reducible rfl))))
    · have hb : n / 256 ^ k ≤ n := Nat.div_le_self _ _
      rw [Int.tdiv_eq_ediv_of_nonneg (Int.natCast_nonneg _), Nat.pow_succ, ← Nat.div_div_eq_div_mul, wrap_u64]
      generalize n / 256 ^ k = m at hb ⊢
      omega
    · (first | with_reducible rfl | omega | ((simp (disch := omega) only [wrap_i64]); first | done | omega) | (simp only [List.append_assoc, List.cons_append, List.nil_append]; done))
    · rw [hk, Int.toNat_natCast]
      have e : List.replicate (size - k) (0 : UInt8) = List.replicate (size - (k + 1)) 0 ++ [0] := by
        rw [show size - k = (size - (k + 1)) + 1 from by omega, List.replicate_succ']
      show _ = (List.replicate (size - k) (0 : UInt8) ++ be n k).set (size - 1 - k) _
      rw [e, be, List.append_assoc, List.set_append_right _ _ (by simp; omega)]
      congr 1
      simp only [List.length_replicate]
      rw [show size - 1 - k - (size - (k + 1)) = 0 from by omega]
      rfl
  · have hk : k = size := by omega
    subst hk
    (focus (refine ⟨_, _, Gh.refl, [0], rfl, ?_⟩; (refine fitq ?_ ?_ ?_ <;> try exact trivial); (try any_goals (refine ⟨?_, ?_⟩)); (try any_goals (with_reducible rfl))))
    simp
  · (focus (refine ⟨_, _, Gh.refl, [0], rfl, ?_⟩; (refine fitq ?_ ?_ ?_ <;> try exact trivial); (try any_goals (refine ⟨?_, ?_⟩)); (try any_goals (with_reducible rfl))))
    all_goals first | with_reducible rfl | (simp only [be, List.append_nil]; exact (repN_eq _ _).symm) | (first | with_reducible rfl | omega | ((simp (disch := omega) only [wrap_i64]); first | done | omega) | (simp only [List.append_assoc, List.cons_append, List.nil_append]; done)) | (simp [be]; first | done | exact (repN_eq _ _).symm)
theorem b_fzz (n : Int) (hn : I64 n) : DoesK Try.prog 0 65 [.int .i64 n] [] (EndF 0 (.int .u64 (zz n)) []) := by
  refine DoesK.close ?_
  refine w_body (rs := [.tmp 2]) (tm := [.int .i64 n, .any, .any, .any, .any, .any, .any, .any, .any, .any, .any, .any, .any, .any]) fn_65 rfl rfl rfl rfl fun R hR => ?_
  (all_goals (try ((first | (with_reducible refine wp_id ?_) | (with_reducible refine does_id ?_) | (with_reducible refine ops_id ?_)); refine walk ?_; (repeat' (first | exact trivial | with_reducible refine And.intro ?_ ?_)); all_goals (repeat (first | (with_reducible refine ImpB.mk fun hb => ?_) | (with_reducible refine ImpK.mk fun hK => ?_) | (with_reducible refine ImpF.mk fun hF => ?_) | (with_reducible refine ImpQ.mk fun hp => ?_) | (with_reducible refine AllE.mk fun p => ?_) | (with_reducible refine AllR.mk fun rest => ?_) | (with_reducible refine AllK.mk fun K => ?_))))); repeat' (with_reducible refine And.intro ?_ ?_))
  (all_goals (repeat (first | (clear hK; clear K) | (clear hE; clear E) | (clear hF; clear F) | (clear hR; clear R))); all_goals (try simp only [decide_eq_true_eq, decide_eq_false_iff_not, Bool.not_eq_true', Bool.not_eq_false', Bool.not_eq_true, Bool.not_eq_false, decide_not, decide_true, decide_false, Bool.decide_and, Bool.and_eq_true, Bool.or_eq_true, Bool.and_eq_false_imp, Decidable.not_not] at *); all_goals (try omega); all_goals (try (first | exact u8w_lo _ | exact u8w_hi _ | exact (bits8 _ _ _).1 | exact (bits8 _ _ _).2 | exact Int.natCast_nonneg _ | exact u8_ltI _)))
  all_goals
    (focus (refine ⟨_, _, Gh.refl, [], rfl, ?_⟩; (refine fitq ?_ ?_ ?_ <;> try exact trivial); (try any_goals (refine ⟨?_, ?_⟩)); (try any_goals (with_reducible rfl))))
    have h0 := hn.1
    have h1 := hn.2
    simp only [wrap_u64]
    try rw [wrap_i64 (n + 1) (by omega) (by omega)]
    try rw [wrap_i64 (0 - (n + 1)) (by omega) (by omega)]
    unfold zz
    split <;> omega
theorem c_fzz {h : List Ch} {K : KT} {n : Int} (H : K (.int .u64 (zz n)) h) (s1 : I64 n) : Does Try.prog 65 [.int .i64 n] h K :=
  frame_pure (b_fzz n s1) (br_cons br_int br_nil) (.inl rfl) (fun _ => rfl) H
abbrev i_fzz := Ctr.mk (i := 0) (g := 65) @c_fzz
attribute [instance] i_fzz
theorem b_fint (n : Int) (hn : I64 n) : DoesK Try.prog 0 42 [.int .i64 n] [] (EndF 0 (.sl 0 .byte 0 (encI n).length) [.rows .byte (encI n)]) := by
  refine DoesK.close ?_
  refine w_body (rs := [.tmp 2]) (tm := [.int .i64 n, .any, .any, .any, .any, .any, .any, .any, .any, .any, .any, .any, .any, .any, .any, .any, .any, .any, .any, .any, .any, .any, .any]) fn_42 rfl rfl rfl rfl fun R hR => ?_
  (all_goals (try ((first | (with_reducible refine wp_id ?_) | (with_reducible refine does_id ?_) | (with_reducible refine ops_id ?_)); refine walk ?_; (repeat' (first | exact trivial | with_reducible refine And.intro ?_ ?_)); all_goals (repeat (first | (with_reducible refine ImpB.mk fun hb => ?_) | (with_reducible refine ImpK.mk fun hK => ?_) | (with_reducible refine ImpF.mk fun hF => ?_) | (with_reducible refine ImpQ.mk fun hp => ?_) | (with_reducible refine AllE.mk fun p => ?_) | (with_reducible refine AllR.mk fun rest => ?_) | (with_reducible refine AllK.mk fun K => ?_))))); repeat' (with_reducible refine And.intro ?_ ?_))
  any_goals refine Wp.ghost (gh_adopt (s := 4) .byte trivial) ?_
  any_goals ((try (refine w_seq fun K hK => ?_)); (try (refine w_block ?_)); refine w_loop (A := List UInt8 × Nat) (fun p => p.1 ++ vint p.2 = encI n ∧ p.2 < 18446744073709551616) (fun p => p.2) (fun p => [(3, .int .u64 p.2), (4, .sl 0 .byte 0 p.1.length)]) (fun p => [(0, .rows .byte p.1)]) (([], zz n)) (ws := ?ws2) (tk := ?tk2) ?hw2 ?ht2 ?hi ?h0 ?LH2; (case hw2 => simp only [go_sem, decide_true, decide_false, Int.reduceToNat, Nat.min_eq_left, Nat.min_eq_right, Int.reducePow, Nat.reducePow, Int.reduceLE, Int.reduceLT, Int.reduceMul, Int.reduceAdd, Int.reduceSub, Int.reduceNeg, Bool.not_true, Bool.not_false, Bool.not_not, ↓reduceIte, Nat.reduceAdd, Nat.reduceSub, Nat.reduceMul, Nat.reduceEqDiff, reduceCtorEq, Nat.reduceLT, Nat.reduceLeDiff, Nat.reduceGT]; exact rfl); (case ht2 => simp only [go_sem, decide_true, decide_false, Int.reduceToNat, Nat.min_eq_left, Nat.min_eq_right, Int.reducePow, Nat.reducePow, Int.reduceLE, Int.reduceLT, Int.reduceMul, Int.reduceAdd, Int.reduceSub, Int.reduceNeg, Bool.not_true, Bool.not_false, Bool.not_not, ↓reduceIte, Nat.reduceAdd, Nat.reduceSub, Nat.reduceMul, Nat.reduceEqDiff, reduceCtorEq, Nat.reduceLT, Nat.reduceLeDiff, Nat.reduceGT]; exact rfl); (case' LH2 => rintro ⟨pre, z⟩ E t hx hE ht; simp only [go_sem] at ht; subst ht; simp only [go_sem]; try dsimp only at hx))
  (all_goals (try ((first | (with_reducible refine wp_id ?_) | (with_reducible refine does_id ?_) | (with_reducible refine ops_id ?_)); refine walk ?_; (repeat' (first | exact trivial | with_reducible refine And.intro ?_ ?_)); all_goals (repeat (first | (with_reducible refine ImpB.mk fun hb => ?_) | (with_reducible refine ImpK.mk fun hK => ?_) | (with_reducible refine ImpF.mk fun hF => ?_) | (with_reducible refine ImpQ.mk fun hp => ?_) | (with_reducible refine AllE.mk fun p => ?_) | (with_reducible refine AllR.mk fun rest => ?_) | (with_reducible refine AllK.mk fun K => ?_))))); repeat' (with_reducible refine And.intro ?_ ?_))
  (all_goals (repeat (first | (clear hK; clear K) | (clear hE; clear E) | (clear hF; clear F) | (clear hR; clear R))); all_goals (try simp only [decide_eq_true_eq, decide_eq_false_iff_not, Bool.not_eq_true', Bool.not_eq_false', Bool.not_eq_true, Bool.not_eq_false, decide_not, decide_true, decide_false, Bool.decide_and, Bool.and_eq_true, Bool.or_eq_true, Bool.and_eq_false_imp, Decidable.not_not] at *); all_goals (try omega); all_goals (try (first | exact u8w_lo _ | exact u8w_hi _ | exact (bits8 _ _ _).1 | exact (bits8 _ _ _).2 | exact Int.natCast_nonneg _ | exact u8_ltI _)))
  all_goals
    (try have hle := congrArg List.length hx.1)
    have h10 := encI_le n hn
    have hz64 := zz_bd n hn
    (try simp only [List.length_append] at hle)
    (try omega)
  · have hz : ¬ z < 128 := by omega
    have hby : UInt8.ofNat (IntKind.u8.wrap (IntKind.u8.wrap ((z : Int).tmod 128) + 128)).toNat = UInt8.ofNat (z % 128 + 128) := by
      rw [Int.tmod_eq_emod_of_nonneg (by omega), wrap_u8, wrap_u8]; congr 1; omega
    rw [hby]
    have hx1 := hx.1
    rw [vint_big hz] at hx1
    refine ⟨(pre ++ [UInt8.ofNat (z % 128 + 128)], z / 128), ⟨⟨by simpa using hx1, by dsimp only; omega⟩, by dsimp only; omega⟩, ?_⟩
    (focus (refine ⟨_, _, Gh.refl, [2], rfl, ?_⟩; (refine fitq ?_ ?_ ?_ <;> try exact trivial); (try any_goals (refine ⟨?_, ?_⟩)); (try any_goals (with_reducible rfl))))
    all_goals try (first | with_reducible rfl | omega | ((simp (disch := omega) only [wrap_i64]); first | done | omega) | (simp only [List.append_assoc, List.cons_append, List.nil_append]; done))
    all_goals first | (rw [Int.tdiv_eq_ediv_of_nonneg (by omega), wrap_u64]; omega) | skip
  · have hz : z < 128 := by omega
    have hx1 := hx.1
    rw [vint_small hz] at hx1
    have hby : UInt8.ofNat (IntKind.u8.wrap (z : Int)).toNat = UInt8.ofNat z := by
      rw [wrap_u8]; congr 1; omega
    rw [hby, ← hx1]
    (focus (refine ⟨_, _, Gh.refl, [2], rfl, ?_⟩; (refine fitq ?_ ?_ ?_ <;> try exact trivial); (try any_goals (refine ⟨?_, ?_⟩)); (try any_goals (with_reducible rfl))))
    all_goals try (first | with_reducible rfl | omega | ((simp (disch := omega) only [wrap_i64]); first | done | omega) | (simp only [List.append_assoc, List.cons_append, List.nil_append]; done))
    all_goals try simp
  · rfl
  · (focus (refine ⟨_, _, Gh.refl, [0], rfl, ?_⟩; (refine fitq ?_ ?_ ?_ <;> try exact trivial); (try any_goals (refine ⟨?_, ?_⟩)); (try any_goals (with_reducible rfl))))
theorem c_fuint {h : List Ch} {K : KT} {n size : Nat} (H : K (.sl h.length .byte 0 size) (h ++ [.rows .byte (be n size)])) (s1 : n < 18446744073709551616) (s2 : 1 ≤ size) (s3 : size ≤ 8) : Does Try.prog 91 [.int .u64 n, .int .i64 size] h K :=
  frame_new (ret' := .sl h.length .byte 0 size) (b_fuint n size s1 s2 s3) (br_cons br_int (br_cons br_int br_nil)) (.inl rfl) (fun _ => rfl) rfl H
theorem c_fint {h : List Ch} {K : KT} {n : Int} (H : K (.sl h.length .byte 0 (encI n).length) (h ++ [.rows .byte (encI n)])) (s1 : I64 n) : Does Try.prog 42 [.int .i64 n] h K :=
  frame_new (ret' := .sl h.length .byte 0 (encI n).length) (b_fint n s1) (br_cons br_int br_nil) (.inl rfl) (fun _ => rfl) rfl H
abbrev i_fint := Ctr.mk (i := 0) (g := 42) @c_fint
attribute [instance] i_fint
theorem b_fblob (bs : List UInt8) (hb : bs.length ≤ 1099511627776) : DoesK Try.prog 0 66 [.ro .byte bs] [] (EndF 0 (.sl 0 .byte 0 ((encI bs.length).length + bs.length)) [.rows .byte (encI bs.length ++ bs)]) := by
  refine DoesK.close ?_
  refine w_body (rs := [.tmp 2]) (tm := [.ro .byte bs, .any, .any, .any, .any, .any, .any, .any]) fn_66 rfl rfl rfl rfl fun R hR => ?_
  (all_goals (try ((first | (with_reducible refine wp_id ?_) | (with_reducible refine does_id ?_) | (with_reducible refine ops_id ?_)); refine walk ?_; (repeat' (first | exact trivial | with_reducible refine And.intro ?_ ?_)); all_goals (repeat (first | (with_reducible refine ImpB.mk fun hb => ?_) | (with_reducible refine ImpK.mk fun hK => ?_) | (with_reducible refine ImpF.mk fun hF => ?_) | (with_reducible refine ImpQ.mk fun hp => ?_) | (with_reducible refine AllE.mk fun p => ?_) | (with_reducible refine AllR.mk fun rest => ?_) | (with_reducible refine AllK.mk fun K => ?_))))); repeat' (with_reducible refine And.intro ?_ ?_))
  (all_goals (repeat (first | (clear hK; clear K) | (clear hE; clear E) | (clear hF; clear F) | (clear hR; clear R))); all_goals (try simp only [decide_eq_true_eq, decide_eq_false_iff_not, Bool.not_eq_true', Bool.not_eq_false', Bool.not_eq_true, Bool.not_eq_false, decide_not, decide_true, decide_false, Bool.decide_and, Bool.and_eq_true, Bool.or_eq_true, Bool.and_eq_false_imp, Decidable.not_not] at *); all_goals (try omega); all_goals (try (first | exact u8w_lo _ | exact u8w_hi _ | exact (bits8 _ _ _).1 | exact (bits8 _ _ _).2 | exact Int.natCast_nonneg _ | exact u8_ltI _)))
  · have := encI_le bs.length (by constructor <;> omega); omega
  · (focus (refine ⟨_, _, Gh.refl, [1], rfl, ?_⟩; (refine fitq ?_ ?_ ?_ <;> try exact trivial); (try any_goals (refine ⟨?_, ?_⟩)); (try any_goals (with_reducible rfl))))
  · constructor <;> omega
theorem c_fblob {h : List Ch} {K : KT} {bs : List UInt8} {a : AV} (H : K (.sl h.length .byte 0 ((encI bs.length).length + bs.length)) (h ++ [.rows .byte (encI bs.length ++ bs)])) (b1 : brA [] h (.ro .byte bs) a) (s1 : bs.length ≤ 1099511627776) : Does Try.prog 66 [a] h K :=
  frame_new (ret' := .sl h.length .byte 0 ((encI bs.length).length + bs.length)) (b_fblob bs s1) (br_cons b1 br_nil) (.inr rfl) (fun _ => rfl) rfl H
abbrev i_fblob := Ctr.mk (i := 0) (g := 66) @c_fblob
attribute [instance] i_fblob
/-- what is taken -/
def tku (ys : List UInt8) (s : Nat) : Nat × Nat := if s ≤ ys.length then (beval (ys.take s) 0, s) else (0, 0)
theorem b_tku (ys : List UInt8) (size : Nat) (h1 : 1 ≤ size) (h8 : size ≤ 8) : DoesK Try.prog 0 94 [.ro .byte ys, .int .i64 size] [] (EndF 0 (.tup [.int .u64 (tku ys size).1, .int .i64 (tku ys size).2]) []) := by
  refine DoesK.close ?_
  unfold tku
  by_cases hs : size ≤ ys.length
  · simp only [hs, if_true]
    refine w_body (rs := [.tmp 4, .tmp 5]) (tm := [.ro .byte ys, .int .i64 size, .any, .any, .any, .any, .any, .any, .any, .any, .any, .any, .any, .any, .any, .any, .any, .any, .any, .any, .any, .any, .any, .any, .any, .any, .any, .any, .any, .any, .any, .any, .any, .any, .any]) fn_94 rfl rfl rfl rfl fun R hR => ?_
    (all_goals (try ((first | (with_reducible refine wp_id ?_) | (with_reducible refine does_id ?_) | (with_reducible refine ops_id ?_)); refine walk ?_; (repeat' (first | exact trivial | with_reducible refine And.intro ?_ ?_)); all_goals (repeat (first | (with_reducible refine ImpB.mk fun hb => ?_) | (with_reducible refine ImpK.mk fun hK => ?_) | (with_reducible refine ImpF.mk fun hF => ?_) | (with_reducible refine ImpQ.mk fun hp => ?_) | (with_reducible refine AllE.mk fun p => ?_) | (with_reducible refine AllR.mk fun rest => ?_) | (with_reducible refine AllK.mk fun K => ?_))))); repeat' (with_reducible refine And.intro ?_ ?_))
    (all_goals try (exfalso; (try simp only [decide_eq_true_eq, decide_eq_false_iff_not, Bool.not_eq_true', Bool.not_eq_false', Bool.not_eq_true, Bool.not_eq_false, decide_not, decide_true, decide_false, Bool.decide_and, Bool.and_eq_true, Bool.or_eq_true, Bool.and_eq_false_imp, Decidable.not_not] at *); omega))
    any_goals ((try (refine w_seq fun K hK => ?_)); (try (refine w_block ?_)); refine w_loop (A := Nat) (fun k => k ≤ size) (fun k => size - k) (fun k => [(7, .int .i64 k), (6, .int .u64 (beval (ys.take k) 0))]) (fun _ => []) (0) (ws := ?ws3) (tk := ?tk3) ?hw3 ?ht3 ?hi ?h0 ?LH3; (case hw3 => simp only [go_sem, decide_true, decide_false, Int.reduceToNat, Nat.min_eq_left, Nat.min_eq_right, Int.reducePow, Nat.reducePow, Int.reduceLE, Int.reduceLT, Int.reduceMul, Int.reduceAdd, Int.reduceSub, Int.reduceNeg, Bool.not_true, Bool.not_false, Bool.not_not, ↓reduceIte, Nat.reduceAdd, Nat.reduceSub, Nat.reduceMul, Nat.reduceEqDiff, reduceCtorEq, Nat.reduceLT, Nat.reduceLeDiff, Nat.reduceGT]; exact rfl); (case ht3 => simp only [go_sem, decide_true, decide_false, Int.reduceToNat, Nat.min_eq_left, Nat.min_eq_right, Int.reducePow, Nat.reducePow, Int.reduceLE, Int.reduceLT, Int.reduceMul, Int.reduceAdd, Int.reduceSub, Int.reduceNeg, Bool.not_true, Bool.not_false, Bool.not_not, ↓reduceIte, Nat.reduceAdd, Nat.reduceSub, Nat.reduceMul, Nat.reduceEqDiff, reduceCtorEq, Nat.reduceLT, Nat.reduceLeDiff, Nat.reduceGT]; exact rfl); (case' LH3 => rintro k E t hx hE ht; simp only [go_sem] at ht; subst ht; simp only [go_sem]; try dsimp only at hx))
    (all_goals (try ((first | (with_reducible refine wp_id ?_) | (with_reducible refine does_id ?_) | (with_reducible refine ops_id ?_)); refine walk ?_; (repeat' (first | exact trivial | with_reducible refine And.intro ?_ ?_)); all_goals (repeat (first | (with_reducible refine ImpB.mk fun hb => ?_) | (with_reducible refine ImpK.mk fun hK => ?_) | (with_reducible refine ImpF.mk fun hF => ?_) | (with_reducible refine ImpQ.mk fun hp => ?_) | (with_reducible refine AllE.mk fun p => ?_) | (with_reducible refine AllR.mk fun rest => ?_) | (with_reducible refine AllK.mk fun K => ?_))))); repeat' (with_reducible refine And.intro ?_ ?_))
    (all_goals (repeat (first | (clear hK; clear K) | (clear hE; clear E) | (clear hF; clear F) | (clear hR; clear R))); all_goals (try simp only [decide_eq_true_eq, decide_eq_false_iff_not, Bool.not_eq_true', Bool.not_eq_false', Bool.not_eq_true, Bool.not_eq_false, decide_not, decide_true, decide_false, Bool.decide_and, Bool.and_eq_true, Bool.or_eq_true, Bool.and_eq_false_imp, Decidable.not_not] at *); all_goals (try omega); all_goals (try (first | exact u8w_lo _ | exact u8w_hi _ | exact (bits8 _ _ _).1 | exact (bits8 _ _ _).2 | exact Int.natCast_nonneg _ | exact u8_ltI _)))
    · refine ⟨k + 1, ⟨by dsimp only; omega, by dsimp only; omega⟩, ?_⟩
      (focus (refine ⟨_, _, Gh.refl, [], rfl, ?_⟩; (refine fitq ?_ ?_ ?_ <;> try exact trivial); (try any_goals (refine ⟨?_, ?_⟩)); (try any_goals (with_reducible rfl))))
      all_goals first | (first | with_reducible rfl | omega | ((simp (disch := omega) only [wrap_i64]); first | done | omega) | (simp only [List.append_assoc, List.cons_append, List.nil_append]; done)) | skip
      have h2 := beval_lt (ys.take (k + 1)) (by rw [List.length_take]; omega)
      have e : ys.take (k + 1) = ys.take k ++ [ys.getD k 0] := take_getD (by omega)
      rw [e, beval_snoc] at h2 ⊢
      have := u8_lt (ys.getD k 0)
      simp only [wrap_u64]
      omega
    · have hk : k = size := by omega
      subst hk
      (focus (refine ⟨_, _, Gh.refl, [], rfl, ?_⟩; (refine fitq ?_ ?_ ?_ <;> try exact trivial); (try any_goals (refine ⟨?_, ?_⟩)); (try any_goals (with_reducible rfl))))
    · (focus (refine ⟨_, _, Gh.refl, [], rfl, ?_⟩; (refine fitq ?_ ?_ ?_ <;> try exact trivial); (try any_goals (refine ⟨?_, ?_⟩)); (try any_goals (with_reducible rfl))))
      all_goals first | rfl | simp
  · simp only [hs, if_false]
    refine w_body (rs := [.tmp 4, .tmp 5]) (tm := [.ro .byte ys, .int .i64 size, .any, .any, .any, .any, .any, .any, .any, .any, .any, .any, .any, .any, .any, .any, .any, .any, .any, .any, .any, .any, .any, .any, .any, .any, .any, .any, .any, .any, .any, .any, .any, .any, .any]) fn_94 rfl rfl rfl rfl fun R hR => ?_
    (all_goals (try ((first | (with_reducible refine wp_id ?_) | (with_reducible refine does_id ?_) | (with_reducible refine ops_id ?_)); refine walk ?_; (repeat' (first | exact trivial | with_reducible refine And.intro ?_ ?_)); all_goals (repeat (first | (with_reducible refine ImpB.mk fun hb => ?_) | (with_reducible refine ImpK.mk fun hK => ?_) | (with_reducible refine ImpF.mk fun hF => ?_) | (with_reducible refine ImpQ.mk fun hp => ?_) | (with_reducible refine AllE.mk fun p => ?_) | (with_reducible refine AllR.mk fun rest => ?_) | (with_reducible refine AllK.mk fun K => ?_))))); repeat' (with_reducible refine And.intro ?_ ?_))
    (all_goals try (exfalso; (try simp only [decide_eq_true_eq, decide_eq_false_iff_not, Bool.not_eq_true', Bool.not_eq_false', Bool.not_eq_true, Bool.not_eq_false, decide_not, decide_true, decide_false, Bool.decide_and, Bool.and_eq_true, Bool.or_eq_true, Bool.and_eq_false_imp, Decidable.not_not] at *); omega))
    (all_goals (repeat (first | (clear hK; clear K) | (clear hE; clear E) | (clear hF; clear F) | (clear hR; clear R))); all_goals (try simp only [decide_eq_true_eq, decide_eq_false_iff_not, Bool.not_eq_true', Bool.not_eq_false', Bool.not_eq_true, Bool.not_eq_false, decide_not, decide_true, decide_false, Bool.decide_and, Bool.and_eq_true, Bool.or_eq_true, Bool.and_eq_false_imp, Decidable.not_not] at *); all_goals (try omega); all_goals (try (first | exact u8w_lo _ | exact u8w_hi _ | exact (bits8 _ _ _).1 | exact (bits8 _ _ _).2 | exact Int.natCast_nonneg _ | exact u8_ltI _)))
    (focus (refine ⟨_, _, Gh.refl, [], rfl, ?_⟩; (refine fitq ?_ ?_ ?_ <;> try exact trivial); (try any_goals (refine ⟨?_, ?_⟩)); (try any_goals (with_reducible rfl))))
theorem c_tku {h : List Ch} {K : KT} {ys : List UInt8} {size : Nat} {a : AV} (H : K (.tup [.int .u64 (tku ys size).1, .int .i64 (tku ys size).2]) h) (b1 : brA [] h (.ro .byte ys) a) (s1 : 1 ≤ size) (s2 : size ≤ 8) : Does Try.prog 94 [a, .int .i64 size] h K :=
  frame_pure (b_tku ys size s1 s2) (br_cons b1 (br_cons br_int br_nil)) (.inr rfl) (fun _ => rfl) H
abbrev i_tku := Ctr.mk (i := 0) (g := 94) @c_tku
attribute [instance] i_tku
theorem b_tki (ys : List UInt8) (hys : ys.length ≤ 1099511627776) : DoesK Try.prog 0 93 [.ro .byte ys] [] (EndF 0 (.tup [.int .i64 (tki ys).1, .int .i64 (tki ys).2]) []) := by
  refine DoesK.close ?_
  refine w_body (rs := [.tmp 2, .tmp 3]) (tm := [.ro .byte ys, .any, .any, .any, .any, .any, .any, .any, .any, .any, .any, .any, .any, .any, .any, .any, .any, .any, .any, .any, .any, .any, .any, .any, .any, .any, .any, .any, .any, .any, .any, .any, .any, .any, .any, .any, .any, .any, .any, .any, .any, .any, .any, .any, .any, .any, .any, .any, .any, .any, .any, .any, .any, .any, .any, .any]) fn_93 rfl rfl rfl rfl fun R hR => ?_
  (all_goals (try ((first | (with_reducible refine wp_id ?_) | (with_reducible refine does_id ?_) | (with_reducible refine ops_id ?_)); refine walk ?_; (repeat' (first | exact trivial | with_reducible refine And.intro ?_ ?_)); all_goals (repeat (first | (with_reducible refine ImpB.mk fun hb => ?_) | (with_reducible refine ImpK.mk fun hK => ?_) | (with_reducible refine ImpF.mk fun hF => ?_) | (with_reducible refine ImpQ.mk fun hp => ?_) | (with_reducible refine AllE.mk fun p => ?_) | (with_reducible refine AllR.mk fun rest => ?_) | (with_reducible refine AllK.mk fun K => ?_))))); repeat' (with_reducible refine And.intro ?_ ?_))
  any_goals ((try (refine w_seq fun K hK => ?_)); (try (refine w_block ?_)); refine w_loop (A := Nat × Nat) (fun p => (p.1 < 10 → vdAux p.1 p.2 (ys.drop p.1) = vd ys) ∧ (p.1 = 10 → vd ys = none) ∧ VPre ys p.1 p.2 ∧ p.1 ≤ 10 ∧ p.1 ≤ ys.length) (fun p => ys.length - p.1) (fun p => [(6, .int .i64 p.1), (4, .int .u64 ((p.2 % 18446744073709551616 : Nat) : Int)), (5, .int .u64 ((128 ^ p.1 % 18446744073709551616 : Nat) : Int))]) (fun _ => []) ((0, 0)) (ws := ?ws4) (tk := ?tk4) ?hw4 ?ht4 ?hi ?h0 ?LH4; (case hw4 => simp only [go_sem, decide_true, decide_false, Int.reduceToNat, Nat.min_eq_left, Nat.min_eq_right, Int.reducePow, Nat.reducePow, Int.reduceLE, Int.reduceLT, Int.reduceMul, Int.reduceAdd, Int.reduceSub, Int.reduceNeg, Bool.not_true, Bool.not_false, Bool.not_not, ↓reduceIte, Nat.reduceAdd, Nat.reduceSub, Nat.reduceMul, Nat.reduceEqDiff, reduceCtorEq, Nat.reduceLT, Nat.reduceLeDiff, Nat.reduceGT]; exact rfl); (case ht4 => simp only [go_sem, decide_true, decide_false, Int.reduceToNat, Nat.min_eq_left, Nat.min_eq_right, Int.reducePow, Nat.reducePow, Int.reduceLE, Int.reduceLT, Int.reduceMul, Int.reduceAdd, Int.reduceSub, Int.reduceNeg, Bool.not_true, Bool.not_false, Bool.not_not, ↓reduceIte, Nat.reduceAdd, Nat.reduceSub, Nat.reduceMul, Nat.reduceEqDiff, reduceCtorEq, Nat.reduceLT, Nat.reduceLeDiff, Nat.reduceGT]; exact rfl); (case' LH4 => rintro ⟨k, q⟩ E t hx hE ht; simp only [go_sem] at ht; subst ht; simp only [go_sem]; try dsimp only at hx))
  case LH4 =>
    have hz : (q + 128 ^ k * ((ys.getD k 0).toNat % 128)) % 18446744073709551616 < 18446744073709551616 := Nat.mod_lt _ (by decide)
    have hn := ti_n _ hz
    have hm := ti_neg _ (show (q + 128 ^ k * ((ys.getD k 0).toNat % 128)) % 18446744073709551616 / 2 < 9223372036854775808 by omega)
    have hk1 : IntKind.i64.wrap ((k : Int) + 1) = ((k + 1 : Nat) : Int) := by rw [wrap_i64 _ (by omega) (by omega)]; rfl
    generalize hzz : (q + 128 ^ k * ((ys.getD k 0).toNat % 128)) % 18446744073709551616 = z at *
    have ez := ti_z q (128 ^ k) (ys.getD k 0).toNat
    rw [hzz] at ez
    (have zx1 := @ez; have zx2 := @ti_s; have zx3 := @hn; have zx4 := @hm; have zx5 := @hk1; have zx6 := @Int.toNat_natCast; have zx7 := @ti_m; have zx8 := @decide_eq_true_eq; all_goals (try ((first | (with_reducible refine wp_id ?_) | (with_reducible refine does_id ?_) | (with_reducible refine ops_id ?_)); refine walk ?_; (repeat' (first | exact trivial | with_reducible refine And.intro ?_ ?_)); all_goals (repeat (first | (with_reducible refine ImpB.mk fun hb => ?_) | (with_reducible refine ImpK.mk fun hK => ?_) | (with_reducible refine ImpF.mk fun hF => ?_) | (with_reducible refine ImpQ.mk fun hp => ?_) | (with_reducible refine AllE.mk fun p => ?_) | (with_reducible refine AllR.mk fun rest => ?_) | (with_reducible refine AllK.mk fun K => ?_))))); repeat' (with_reducible refine And.intro ?_ ?_))
    (all_goals (repeat (first | (clear hK; clear K) | (clear hE; clear E) | (clear hF; clear F) | (clear hR; clear R))); all_goals (try simp only [decide_eq_true_eq, decide_eq_false_iff_not, Bool.not_eq_true', Bool.not_eq_false', Bool.not_eq_true, Bool.not_eq_false, decide_not, decide_true, decide_false, Bool.decide_and, Bool.and_eq_true, Bool.or_eq_true, Bool.and_eq_false_imp, Decidable.not_not] at *); all_goals (try omega); all_goals (try (first | exact u8w_lo _ | exact u8w_hi _ | exact (bits8 _ _ _).1 | exact (bits8 _ _ _).2 | exact Int.natCast_nonneg _ | exact u8_ltI _)))
    all_goals first | (have := unzz_bd hz; (first | rw [unzz_even (by assumption)] | rw [unzz_odd (by assumption)]); assumption) | skip
    · obtain ⟨s1, s2⟩ := tki_step (hx.1 (by omega)) (by omega) (by omega)
      refine ⟨(k + 1, q + (ys.getD k 0).toNat % 128 * 128 ^ k), ⟨⟨s1, s2, VPre.step hx.2.2.1 (by omega) (by omega), by dsimp only; omega, by dsimp only; omega⟩, by dsimp only; omega⟩, ?_⟩
      (focus (refine ⟨_, _, Gh.refl, [], rfl, ?_⟩; (refine fitq ?_ ?_ ?_ <;> try exact trivial); (try any_goals (refine ⟨?_, ?_⟩)); (try any_goals (with_reducible rfl))))
      all_goals first | (first | with_reducible rfl | omega | ((simp (disch := omega) only [wrap_i64]); first | done | omega) | (simp only [List.append_assoc, List.cons_append, List.nil_append]; done)) | (rw [← hzz, Nat.mul_comm (128 ^ k)]; done) | (rw [Nat.pow_succ])
    · simp only [unzz_odd (show z % 2 = 1 from by assumption)] at *
      rw [(tki_end (hx.1 (by omega)) hx.2.2.1 (show k < ys.length by omega) (by omega) (show (ys.getD k 0).toNat < 128 by omega) hzz).2 (by assumption)]
      (focus (refine ⟨_, _, Gh.refl, [], rfl, ?_⟩; (refine fitq ?_ ?_ ?_ <;> try exact trivial); (try any_goals (refine ⟨?_, ?_⟩)); (try any_goals (with_reducible rfl))))
    · simp only [unzz_odd (show z % 2 = 1 from by assumption)] at *
      rw [(tki_end (hx.1 (by omega)) hx.2.2.1 (show k < ys.length by omega) (by omega) (show (ys.getD k 0).toNat < 128 by omega) hzz).1 (by assumption)]
      (focus (refine ⟨_, _, Gh.refl, [], rfl, ?_⟩; (refine fitq ?_ ?_ ?_ <;> try exact trivial); (try any_goals (refine ⟨?_, ?_⟩)); (try any_goals (with_reducible rfl))))
    · simp only [unzz_even (show ¬ z % 2 = 1 from by assumption)] at *
      rw [(tki_end (hx.1 (by omega)) hx.2.2.1 (show k < ys.length by omega) (by omega) (show (ys.getD k 0).toNat < 128 by omega) hzz).2 (by assumption)]
      (focus (refine ⟨_, _, Gh.refl, [], rfl, ?_⟩; (refine fitq ?_ ?_ ?_ <;> try exact trivial); (try any_goals (refine ⟨?_, ?_⟩)); (try any_goals (with_reducible rfl))))
    · simp only [unzz_even (show ¬ z % 2 = 1 from by assumption)] at *
      rw [(tki_end (hx.1 (by omega)) hx.2.2.1 (show k < ys.length by omega) (by omega) (show (ys.getD k 0).toNat < 128 by omega) hzz).1 (by assumption)]
      (focus (refine ⟨_, _, Gh.refl, [], rfl, ?_⟩; (refine fitq ?_ ?_ ?_ <;> try exact trivial); (try any_goals (refine ⟨?_, ?_⟩)); (try any_goals (with_reducible rfl))))
    · rw [tki_none (hx.2.1 (by omega))]
      (focus (refine ⟨_, _, Gh.refl, [], rfl, ?_⟩; (refine fitq ?_ ?_ ?_ <;> try exact trivial); (try any_goals (refine ⟨?_, ?_⟩)); (try any_goals (with_reducible rfl))))
    · have e : tki ys = (0, 0) := by
        by_cases h10 : k = 10
        · exact tki_none (hx.2.1 h10)
        · exact tki_out (hx.1 (by omega)) (by omega)
      rw [e]
      (focus (refine ⟨_, _, Gh.refl, [], rfl, ?_⟩; (refine fitq ?_ ?_ ?_ <;> try exact trivial); (try any_goals (refine ⟨?_, ?_⟩)); (try any_goals (with_reducible rfl))))
  (all_goals (repeat (first | (clear hK; clear K) | (clear hE; clear E) | (clear hF; clear F) | (clear hR; clear R))); all_goals (try simp only [decide_eq_true_eq, decide_eq_false_iff_not, Bool.not_eq_true', Bool.not_eq_false', Bool.not_eq_true, Bool.not_eq_false, decide_not, decide_true, decide_false, Bool.decide_and, Bool.and_eq_true, Bool.or_eq_true, Bool.and_eq_false_imp, Decidable.not_not] at *); all_goals (try omega); all_goals (try (first | exact u8w_lo _ | exact u8w_hi _ | exact (bits8 _ _ _).1 | exact (bits8 _ _ _).2 | exact Int.natCast_nonneg _ | exact u8_ltI _)))
  · exact ⟨fun _ => rfl, by omega, VPre.zero ys, by omega, by omega⟩
  · (focus (refine ⟨_, _, Gh.refl, [], rfl, ?_⟩; (refine fitq ?_ ?_ ?_ <;> try exact trivial); (try any_goals (refine ⟨?_, ?_⟩)); (try any_goals (with_reducible rfl))))
    all_goals rfl
theorem c_tki {h : List Ch} {K : KT} {ys : List UInt8} {a : AV} (H : K (.tup [.int .i64 (tki ys).1, .int .i64 (tki ys).2]) h) (b1 : brA [] h (.ro .byte ys) a) (s1 : ys.length ≤ 1099511627776) : Does Try.prog 93 [a] h K :=
  frame_pure (b_tki ys s1) (br_cons b1 br_nil) (.inr rfl) (fun _ => rfl) H
abbrev i_tki := Ctr.mk (i := 0) (g := 93) @c_tki
attribute [instance] i_tki
end Go.V

set_option maxRecDepth 100000
set_option maxHeartbeats 1000000
namespace Go.V
open Go.Proofs
def tkc (ys : List UInt8) (most : Int) : Int × Nat := if (tki ys).2 = 0 ∨ (tki ys).1 < 0 ∨ most < (tki ys).1 then (0, 0) else tki ys
def tkb (ys : List UInt8) (most : Int) : List UInt8 × Nat := if (tkc ys most).2 = 0 ∨ (ys.length : Int) - (tkc ys most).2 < (tkc ys most).1 then ([], 0) else ((ys.drop (tkc ys most).2).take (tkc ys most).1.toNat, (tkc ys most).2 + (tkc ys most).1.toNat)
theorem tki_le (ys : List UInt8) : (tki ys).2 ≤ ys.length := by
  unfold tki
  split
  · rename_i z k h
    exact (vd_le h).2
  · exact Nat.zero_le _
theorem tkc_le (ys : List UInt8) (most : Int) : (tkc ys most).2 ≤ ys.length := by
  unfold tkc
  split
  · exact Nat.zero_le _
  · exact tki_le ys
theorem tkc_bd {ys : List UInt8} {most : Int} (h : (tkc ys most).2 ≠ 0) : 0 ≤ (tkc ys most).1 ∧ (tkc ys most).1 ≤ most := by
  unfold tkc at *
  split
  · rename_i h2
    rw [if_pos h2] at h
    exact absurd rfl h
  · rename_i h2
    omega
theorem b_tkc (ys : List UInt8) (most : Int) (hl : ys.length ≤ 1099511627776) : DoesK Try.prog 0 75 [.ro .byte ys, .int .i64 most] [] (EndF 0 (.tup [.int .i64 (tkc ys most).1, .int .i64 (tkc ys most).2]) []) := by
  refine DoesK.close ?_
  refine w_body (rs := [.tmp 4, .tmp 5]) (tm := [.ro .byte ys, .int .i64 most, .any, .any, .any, .any, .any, .any, .any, .any, .any, .any, .any, .any, .any, .any, .any, .any, .any, .any, .any, .any, .any, .any, .any, .any]) fn_75 rfl rfl rfl rfl fun R hR => ?_
  (all_goals (try ((first | (with_reducible refine wp_id ?_) | (with_reducible refine does_id ?_) | (with_reducible refine ops_id ?_)); refine walk ?_; (repeat' (first | exact trivial | with_reducible refine And.intro ?_ ?_)); all_goals (repeat (first | (with_reducible refine ImpB.mk fun hb => ?_) | (with_reducible refine ImpK.mk fun hK => ?_) | (with_reducible refine ImpF.mk fun hF => ?_) | (with_reducible refine ImpQ.mk fun hp => ?_) | (with_reducible refine AllE.mk fun p => ?_) | (with_reducible refine AllR.mk fun rest => ?_) | (with_reducible refine AllK.mk fun K => ?_))))); repeat' (with_reducible refine And.intro ?_ ?_))
  (all_goals (repeat (first | (clear hK; clear K) | (clear hE; clear E) | (clear hF; clear F) | (clear hR; clear R))); all_goals (try simp only [decide_eq_true_eq, decide_eq_false_iff_not, Bool.not_eq_true', Bool.not_eq_false', Bool.not_eq_true, Bool.not_eq_false, decide_not, decide_true, decide_false, Bool.decide_and, Bool.and_eq_true, Bool.or_eq_true, Bool.and_eq_false_imp, Decidable.not_not] at *); all_goals (try omega); all_goals (try (first | exact u8w_lo _ | exact u8w_hi _ | exact (bits8 _ _ _).1 | exact (bits8 _ _ _).2 | exact Int.natCast_nonneg _ | exact u8_ltI _)))
  all_goals
    unfold tkc
    first | rw [if_pos (by omega)] | rw [if_neg (by omega)]
    (focus (refine ⟨_, _, Gh.refl, [], rfl, ?_⟩; (refine fitq ?_ ?_ ?_ <;> try exact trivial); (try any_goals (refine ⟨?_, ?_⟩)); (try any_goals (with_reducible rfl))))
theorem c_tkc {h : List Ch} {K : KT} {ys : List UInt8} {most : Int} {a : AV} (H : K (.tup [.int .i64 (tkc ys most).1, .int .i64 (tkc ys most).2]) h) (b1 : brA [] h (.ro .byte ys) a) (s1 : ys.length ≤ 1099511627776) : Does Try.prog 75 [a, .int .i64 most] h K :=
  frame_pure (b_tkc ys most s1) (br_cons b1 (br_cons br_int br_nil)) (.inr rfl) (fun _ => rfl) H
abbrev i_tkc := Ctr.mk (i := 0) (g := 75) @c_tkc
attribute [instance] i_tkc
theorem b_tkb (ys : List UInt8) (most : Int) (hl : ys.length ≤ 1099511627776) : DoesK Try.prog 0 96 [.ro .byte ys, .int .i64 most] [] (EndF 0 (.tup [.ro .byte (tkb ys most).1, .int .i64 (tkb ys most).2]) []) := by
  refine DoesK.close ?_
  have h1 := tkc_le ys most
  have h2 := tkc_bd (ys := ys) (most := most)
  refine w_body (rs := [.tmp 4, .tmp 5]) (tm := [.ro .byte ys, .int .i64 most, .any, .any, .any, .any, .any, .any, .any, .any, .any, .any, .any, .any, .any, .any, .any, .any, .any, .any, .any, .any, .any, .any, .any, .any, .any, .any, .any, .any, .any, .any, .any]) fn_96 rfl rfl rfl rfl fun R hR => ?_
  (all_goals (try ((first | (with_reducible refine wp_id ?_) | (with_reducible refine does_id ?_) | (with_reducible refine ops_id ?_)); refine walk ?_; (repeat' (first | exact trivial | with_reducible refine And.intro ?_ ?_)); all_goals (repeat (first | (with_reducible refine ImpB.mk fun hb => ?_) | (with_reducible refine ImpK.mk fun hK => ?_) | (with_reducible refine ImpF.mk fun hF => ?_) | (with_reducible refine ImpQ.mk fun hp => ?_) | (with_reducible refine AllE.mk fun p => ?_) | (with_reducible refine AllR.mk fun rest => ?_) | (with_reducible refine AllK.mk fun K => ?_))))); repeat' (with_reducible refine And.intro ?_ ?_))
  (all_goals (repeat (first | (clear hK; clear K) | (clear hE; clear E) | (clear hF; clear F) | (clear hR; clear R))); all_goals (try simp only [decide_eq_true_eq, decide_eq_false_iff_not, Bool.not_eq_true', Bool.not_eq_false', Bool.not_eq_true, Bool.not_eq_false, decide_not, decide_true, decide_false, Bool.decide_and, Bool.and_eq_true, Bool.or_eq_true, Bool.and_eq_false_imp, Decidable.not_not] at *); all_goals (try omega); all_goals (try (first | exact u8w_lo _ | exact u8w_hi _ | exact (bits8 _ _ _).1 | exact (bits8 _ _ _).2 | exact Int.natCast_nonneg _ | exact u8_ltI _)))
  all_goals have hw : IntKind.i64.wrap ((ys.length : Int) - (tkc ys most).2) = (ys.length : Int) - (tkc ys most).2 := wrap_i64 _ (by omega) (by omega)
  · rw [tkb, if_pos (by omega)]
    (focus (refine ⟨_, _, Gh.refl, [], rfl, ?_⟩; (refine fitq ?_ ?_ ?_ <;> try exact trivial); (try any_goals (refine ⟨?_, ?_⟩)); (try any_goals (with_reducible rfl))))
  · rw [tkb, if_pos (by omega)]
    (focus (refine ⟨_, _, Gh.refl, [], rfl, ?_⟩; (refine fitq ?_ ?_ ?_ <;> try exact trivial); (try any_goals (refine ⟨?_, ?_⟩)); (try any_goals (with_reducible rfl))))
  all_goals
    have h3 := h2 (by omega)
    have hw2 : IntKind.i64.wrap (((tkc ys most).2 : Int) + (tkc ys most).1) = (tkc ys most).2 + (tkc ys most).1 := wrap_i64 _ (by omega) (by omega)
    rw [hw2]
  · omega
  · omega
  · rw [tkb, if_neg (by omega)]
    (focus (refine ⟨_, _, Gh.refl, [], rfl, ?_⟩; (refine fitq ?_ ?_ ?_ <;> try exact trivial); (try any_goals (refine ⟨?_, ?_⟩)); (try any_goals (with_reducible rfl))))
    · rw [List.drop_take]
      congr 1
      omega
    · omega
theorem c_tkb {h : List Ch} {K : KT} {ys : List UInt8} {most : Int} {a : AV} (H : K (.tup [.ro .byte (tkb ys most).1, .int .i64 (tkb ys most).2]) h) (q1 : isRO .byte ys a) (s1 : ys.length ≤ 1099511627776) : Does Try.prog 96 [a, .int .i64 most] h K :=
  frame_pure (b_tkb ys most s1) (br_cons q1.br (br_cons br_int br_nil)) (.inl (by rw [brTL, q1.brT]; rfl)) (fun _ => rfl) H
abbrev i_tkb := Ctr.mk (i := 0) (g := 96) @c_tkb
attribute [instance] i_tkb
/-- ref03.Reader -/
def FdS (ys : List UInt8) (b : Bool) : List Ch := [.cells [.ro .byte ys, .bool b]]
attribute [go_sem] FdS
def Fd : Option (List UInt8) → List Ch
  | some ys => FdS ys false
  | none => FdS [] true
theorem b_fnx0 (ys : List UInt8) (b : Bool) : DoesK Try.prog 1 76 [.ptr 0 0, .int .i64 0] [.pack (FdS ys b)] (EndF 1 (.tup []) ([.pack (FdS [] true)] ++ [])) := by
  refine DoesK.close ?_
  refine w_body (rs := []) (tm := [.ptr 0 0, .int .i64 0, .any, .any, .any, .any, .any, .any, .any, .any, .any, .any, .any, .any, .any, .any, .any, .any, .any, .any, .any]) fn_76 rfl rfl rfl rfl fun R hR => ?_
  (all_goals (try ((first | (with_reducible refine wp_id ?_) | (with_reducible refine does_id ?_) | (with_reducible refine ops_id ?_)); refine walk ?_; (repeat' (first | exact trivial | with_reducible refine And.intro ?_ ?_)); all_goals (repeat (first | (with_reducible refine ImpB.mk fun hb => ?_) | (with_reducible refine ImpK.mk fun hK => ?_) | (with_reducible refine ImpF.mk fun hF => ?_) | (with_reducible refine ImpQ.mk fun hp => ?_) | (with_reducible refine AllE.mk fun p => ?_) | (with_reducible refine AllR.mk fun rest => ?_) | (with_reducible refine AllK.mk fun K => ?_))))); repeat' (with_reducible refine And.intro ?_ ?_))
  (all_goals (repeat (first | (clear hK; clear K) | (clear hE; clear E) | (clear hF; clear F) | (clear hR; clear R))); all_goals (try simp only [decide_eq_true_eq, decide_eq_false_iff_not, Bool.not_eq_true', Bool.not_eq_false', Bool.not_eq_true, Bool.not_eq_false, decide_not, decide_true, decide_false, Bool.decide_and, Bool.and_eq_true, Bool.or_eq_true, Bool.and_eq_false_imp, Decidable.not_not] at *); all_goals (try omega); all_goals (try (first | exact u8w_lo _ | exact u8w_hi _ | exact (bits8 _ _ _).1 | exact (bits8 _ _ _).2 | exact Int.natCast_nonneg _ | exact u8_ltI _)))
  · (focus (refine ⟨_, _, gh_close (t := 0) (ts := []) (l := FdS [] true) ⟨⟨_, _, rfl⟩, ?_, by simp⟩, [0], rfl, ?_⟩; all_goals (refine fitq ?_ ?_ ?_ <;> try exact trivial); (try any_goals (refine ⟨?_, ?_⟩)); (try any_goals (with_reducible rfl))))
  all_goals · contradiction
theorem b_fnx (ys : List UInt8) (b : Bool) (k : Nat) (h0 : 0 < k) (hk : k ≤ ys.length) : DoesK Try.prog 1 76 [.ptr 0 0, .int .i64 k] [.pack (FdS ys b)] (EndF 1 (.tup []) ([.pack (FdS (ys.drop k) b)] ++ [])) := by
  refine DoesK.close ?_
  refine w_body (rs := []) (tm := [.ptr 0 0, .int .i64 k, .any, .any, .any, .any, .any, .any, .any, .any, .any, .any, .any, .any, .any, .any, .any, .any, .any, .any, .any]) fn_76 rfl rfl rfl rfl fun R hR => ?_
  (all_goals (try ((first | (with_reducible refine wp_id ?_) | (with_reducible refine does_id ?_) | (with_reducible refine ops_id ?_)); refine walk ?_; (repeat' (first | exact trivial | with_reducible refine And.intro ?_ ?_)); all_goals (repeat (first | (with_reducible refine ImpB.mk fun hb => ?_) | (with_reducible refine ImpK.mk fun hK => ?_) | (with_reducible refine ImpF.mk fun hF => ?_) | (with_reducible refine ImpQ.mk fun hp => ?_) | (with_reducible refine AllE.mk fun p => ?_) | (with_reducible refine AllR.mk fun rest => ?_) | (with_reducible refine AllK.mk fun K => ?_))))); repeat' (with_reducible refine And.intro ?_ ?_))
  (all_goals (repeat (first | (clear hK; clear K) | (clear hE; clear E) | (clear hF; clear F) | (clear hR; clear R))); all_goals (try simp only [decide_eq_true_eq, decide_eq_false_iff_not, Bool.not_eq_true', Bool.not_eq_false', Bool.not_eq_true, Bool.not_eq_false, decide_not, decide_true, decide_false, Bool.decide_and, Bool.and_eq_true, Bool.or_eq_true, Bool.and_eq_false_imp, Decidable.not_not] at *); all_goals (try omega); all_goals (try (first | exact u8w_lo _ | exact u8w_hi _ | exact (bits8 _ _ _).1 | exact (bits8 _ _ _).2 | exact Int.natCast_nonneg _ | exact u8_ltI _)))
  (focus (refine ⟨_, _, gh_close (t := 0) (ts := []) (l := FdS (ys.drop k) b) ⟨⟨_, _, rfl⟩, ?_, by simp⟩, [0], rfl, ?_⟩; all_goals (refine fitq ?_ ?_ ?_ <;> try exact trivial); (try any_goals (refine ⟨?_, ?_⟩)); (try any_goals (with_reducible rfl))))
theorem c_fnx0 {h : List Ch} {K : KT} {t : Nat} {ys : List UInt8} {b : Bool} (H : K (.tup []) (h.set t (.pack (FdS [] true)))) (o : hth h t = .pack (FdS ys b)) : Does Try.prog 76 [.ptr t 0, .int .i64 0] h K :=
  frame_obj0 (b_fnx0 ys b) o (by simp) (fitC_pack _) (br_cons (br_ptr rfl) (br_cons br_int br_nil)) (.inl rfl) (fun _ => rfl) rfl H
abbrev i_fnx0 := Ctr.mk (i := 0) (g := 76) @c_fnx0
attribute [instance] i_fnx0
theorem c_fnx {h : List Ch} {K : KT} {t : Nat} {ys : List UInt8} {b : Bool} {k : Nat} (H : K (.tup []) (h.set t (.pack (FdS (ys.drop k) b)))) (o : hth h t = .pack (FdS ys b)) (s1 : 0 < k) (s2 : k ≤ ys.length) : Does Try.prog 76 [.ptr t 0, .int .i64 k] h K :=
  frame_obj0 (b_fnx ys b k s1 s2) o (by simp) (fitC_pack _) (br_cons (br_ptr rfl) (br_cons br_int br_nil)) (.inl rfl) (fun _ => rfl) rfl H
abbrev i_fnx := Ctr.mk (i := 1) (g := 76) @c_fnx
attribute [instance] i_fnx
theorem Fd_some (ys : List UInt8) : Fd (some ys) = FdS ys false := rfl
theorem Fd_none : Fd none = FdS [] true := rfl
attribute [local go_sem] Fd_some Fd_none
theorem b_fruint (r : Option (List UInt8)) (size : Nat) (h1 : 1 ≤ size) (h8 : size ≤ 8) : DoesK Try.prog 1 77 [.ptr 0 0, .int .i64 size] [.pack (Fd r)] (EndF 1 (.int .u64 (uintR r size).1) ([.pack (Fd (uintR r size).2)] ++ [])) := by
  refine DoesK.close ?_
  cases r with
  | none =>
    have e : tku [] size = (0, 0) := by rw [tku, if_neg (by simp; omega)]
    simp only [uintR, Fd_none]
    refine w_body (rs := [.tmp 4]) (tm := [.ptr 0 0, .int .i64 size, .any, .any, .any, .any, .any, .any, .any, .any, .any, .any, .any, .any, .any, .any, .any, .any, .any, .any]) fn_77 rfl rfl rfl rfl fun R hR => ?_
    (have zx1 := @e; have zx2 := @Int.natCast_zero; all_goals (try ((first | (with_reducible refine wp_id ?_) | (with_reducible refine does_id ?_) | (with_reducible refine ops_id ?_)); refine walk ?_; (repeat' (first | exact trivial | with_reducible refine And.intro ?_ ?_)); all_goals (repeat (first | (with_reducible refine ImpB.mk fun hb => ?_) | (with_reducible refine ImpK.mk fun hK => ?_) | (with_reducible refine ImpF.mk fun hF => ?_) | (with_reducible refine ImpQ.mk fun hp => ?_) | (with_reducible refine AllE.mk fun p => ?_) | (with_reducible refine AllR.mk fun rest => ?_) | (with_reducible refine AllK.mk fun K => ?_))))); repeat' (with_reducible refine And.intro ?_ ?_))
    (all_goals (repeat (first | (clear hK; clear K) | (clear hE; clear E) | (clear hF; clear F) | (clear hR; clear R))); all_goals (try simp only [decide_eq_true_eq, decide_eq_false_iff_not, Bool.not_eq_true', Bool.not_eq_false', Bool.not_eq_true, Bool.not_eq_false, decide_not, decide_true, decide_false, Bool.decide_and, Bool.and_eq_true, Bool.or_eq_true, Bool.and_eq_false_imp, Decidable.not_not] at *); all_goals (try omega); all_goals (try (first | exact u8w_lo _ | exact u8w_hi _ | exact (bits8 _ _ _).1 | exact (bits8 _ _ _).2 | exact Int.natCast_nonneg _ | exact u8_ltI _)))
    (focus (refine ⟨_, _, Gh.refl, [0], rfl, ?_⟩; (refine fitq ?_ ?_ ?_ <;> try exact trivial); (try any_goals (refine ⟨?_, ?_⟩)); (try any_goals (with_reducible rfl))))
  | some ys =>
    by_cases hs : size ≤ ys.length
    · have e : tku ys size = (beval (ys.take size) 0, size) := by rw [tku, if_pos hs]
      simp only [uintR, hs, if_true, Fd_some]
      refine w_body (rs := [.tmp 4]) (tm := [.ptr 0 0, .int .i64 size, .any, .any, .any, .any, .any, .any, .any, .any, .any, .any, .any, .any, .any, .any, .any, .any, .any, .any]) fn_77 rfl rfl rfl rfl fun R hR => ?_
      (have zx1 := @e; have zx2 := @Int.natCast_zero; all_goals (try ((first | (with_reducible refine wp_id ?_) | (with_reducible refine does_id ?_) | (with_reducible refine ops_id ?_)); refine walk ?_; (repeat' (first | exact trivial | with_reducible refine And.intro ?_ ?_)); all_goals (repeat (first | (with_reducible refine ImpB.mk fun hb => ?_) | (with_reducible refine ImpK.mk fun hK => ?_) | (with_reducible refine ImpF.mk fun hF => ?_) | (with_reducible refine ImpQ.mk fun hp => ?_) | (with_reducible refine AllE.mk fun p => ?_) | (with_reducible refine AllR.mk fun rest => ?_) | (with_reducible refine AllK.mk fun K => ?_))))); repeat' (with_reducible refine And.intro ?_ ?_))
      (all_goals (repeat (first | (clear hK; clear K) | (clear hE; clear E) | (clear hF; clear F) | (clear hR; clear R))); all_goals (try simp only [decide_eq_true_eq, decide_eq_false_iff_not, Bool.not_eq_true', Bool.not_eq_false', Bool.not_eq_true, Bool.not_eq_false, decide_not, decide_true, decide_false, Bool.decide_and, Bool.and_eq_true, Bool.or_eq_true, Bool.and_eq_false_imp, Decidable.not_not] at *); all_goals (try omega); all_goals (try (first | exact u8w_lo _ | exact u8w_hi _ | exact (bits8 _ _ _).1 | exact (bits8 _ _ _).2 | exact Int.natCast_nonneg _ | exact u8_ltI _)))
      (focus (refine ⟨_, _, Gh.refl, [0], rfl, ?_⟩; (refine fitq ?_ ?_ ?_ <;> try exact trivial); (try any_goals (refine ⟨?_, ?_⟩)); (try any_goals (with_reducible rfl))))
    · have e : tku ys size = (0, 0) := by rw [tku, if_neg hs]
      simp only [uintR, hs, if_false, Fd_some, Fd_none]
      refine w_body (rs := [.tmp 4]) (tm := [.ptr 0 0, .int .i64 size, .any, .any, .any, .any, .any, .any, .any, .any, .any, .any, .any, .any, .any, .any, .any, .any, .any, .any]) fn_77 rfl rfl rfl rfl fun R hR => ?_
      (have zx1 := @e; have zx2 := @Int.natCast_zero; all_goals (try ((first | (with_reducible refine wp_id ?_) | (with_reducible refine does_id ?_) | (with_reducible refine ops_id ?_)); refine walk ?_; (repeat' (first | exact trivial | with_reducible refine And.intro ?_ ?_)); all_goals (repeat (first | (with_reducible refine ImpB.mk fun hb => ?_) | (with_reducible refine ImpK.mk fun hK => ?_) | (with_reducible refine ImpF.mk fun hF => ?_) | (with_reducible refine ImpQ.mk fun hp => ?_) | (with_reducible refine AllE.mk fun p => ?_) | (with_reducible refine AllR.mk fun rest => ?_) | (with_reducible refine AllK.mk fun K => ?_))))); repeat' (with_reducible refine And.intro ?_ ?_))
      (all_goals (repeat (first | (clear hK; clear K) | (clear hE; clear E) | (clear hF; clear F) | (clear hR; clear R))); all_goals (try simp only [decide_eq_true_eq, decide_eq_false_iff_not, Bool.not_eq_true', Bool.not_eq_false', Bool.not_eq_true, Bool.not_eq_false, decide_not, decide_true, decide_false, Bool.decide_and, Bool.and_eq_true, Bool.or_eq_true, Bool.and_eq_false_imp, Decidable.not_not] at *); all_goals (try omega); all_goals (try (first | exact u8w_lo _ | exact u8w_hi _ | exact (bits8 _ _ _).1 | exact (bits8 _ _ _).2 | exact Int.natCast_nonneg _ | exact u8_ltI _)))
      (focus (refine ⟨_, _, Gh.refl, [0], rfl, ?_⟩; (refine fitq ?_ ?_ ?_ <;> try exact trivial); (try any_goals (refine ⟨?_, ?_⟩)); (try any_goals (with_reducible rfl))))
theorem c_fruint {h : List Ch} {K : KT} {t : Nat} {r : Option (List UInt8)} {size : Nat} {n : Nat} {r' : Option (List UInt8)} (H : K (.int .u64 n) (h.set t (.pack (Fd r')))) (o : hth h t = .pack (Fd r)) (e : uintR r size = (n, r')) (s1 : 1 ≤ size) (s2 : size ≤ 8) : Does Try.prog 77 [.ptr t 0, .int .i64 size] h K := by
  have hb := b_fruint r size s1 s2
  rw [e] at hb
  exact frame_obj0 hb o (by simp) (fitC_pack _) (br_cons (br_ptr rfl) (br_cons br_int br_nil)) (.inl rfl) (fun _ => rfl) rfl H
theorem b_frint (r : Option (List UInt8)) (hl : lenR r ≤ 1099511627776) : DoesK Try.prog 1 80 [.ptr 0 0] [.pack (Fd r)] (EndF 1 (.int .i64 (intR r).1) ([.pack (Fd (intR r).2)] ++ [])) := by
  refine DoesK.close ?_
  cases r with
  | none =>
    have e : tki [] = (0, 0) := rfl
    simp only [intR, Fd_none]
    refine w_body (rs := [.tmp 2]) (tm := [.ptr 0 0, .any, .any, .any, .any, .any, .any, .any, .any, .any, .any, .any, .any, .any, .any, .any, .any]) fn_80 rfl rfl rfl rfl fun R hR => ?_
    (have zx1 := @e; have zx2 := @Int.natCast_zero; all_goals (try ((first | (with_reducible refine wp_id ?_) | (with_reducible refine does_id ?_) | (with_reducible refine ops_id ?_)); refine walk ?_; (repeat' (first | exact trivial | with_reducible refine And.intro ?_ ?_)); all_goals (repeat (first | (with_reducible refine ImpB.mk fun hb => ?_) | (with_reducible refine ImpK.mk fun hK => ?_) | (with_reducible refine ImpF.mk fun hF => ?_) | (with_reducible refine ImpQ.mk fun hp => ?_) | (with_reducible refine AllE.mk fun p => ?_) | (with_reducible refine AllR.mk fun rest => ?_) | (with_reducible refine AllK.mk fun K => ?_))))); repeat' (with_reducible refine And.intro ?_ ?_))
    (all_goals (repeat (first | (clear hK; clear K) | (clear hE; clear E) | (clear hF; clear F) | (clear hR; clear R))); all_goals (try simp only [decide_eq_true_eq, decide_eq_false_iff_not, Bool.not_eq_true', Bool.not_eq_false', Bool.not_eq_true, Bool.not_eq_false, decide_not, decide_true, decide_false, Bool.decide_and, Bool.and_eq_true, Bool.or_eq_true, Bool.and_eq_false_imp, Decidable.not_not] at *); all_goals (try omega); all_goals (try (first | exact u8w_lo _ | exact u8w_hi _ | exact (bits8 _ _ _).1 | exact (bits8 _ _ _).2 | exact Int.natCast_nonneg _ | exact u8_ltI _)))
    (focus (refine ⟨_, _, Gh.refl, [0], rfl, ?_⟩; (refine fitq ?_ ?_ ?_ <;> try exact trivial); (try any_goals (refine ⟨?_, ?_⟩)); (try any_goals (with_reducible rfl))))
  | some ys =>
    replace hl : ys.length ≤ 1099511627776 := hl
    rcases hv : vd ys with _ | ⟨z, k⟩
    · have e : tki ys = (0, 0) := by rw [tki, hv]
      simp only [intR, hv, Fd_some, Fd_none]
      refine w_body (rs := [.tmp 2]) (tm := [.ptr 0 0, .any, .any, .any, .any, .any, .any, .any, .any, .any, .any, .any, .any, .any, .any, .any, .any]) fn_80 rfl rfl rfl rfl fun R hR => ?_
      (have zx1 := @e; have zx2 := @Int.natCast_zero; all_goals (try ((first | (with_reducible refine wp_id ?_) | (with_reducible refine does_id ?_) | (with_reducible refine ops_id ?_)); refine walk ?_; (repeat' (first | exact trivial | with_reducible refine And.intro ?_ ?_)); all_goals (repeat (first | (with_reducible refine ImpB.mk fun hb => ?_) | (with_reducible refine ImpK.mk fun hK => ?_) | (with_reducible refine ImpF.mk fun hF => ?_) | (with_reducible refine ImpQ.mk fun hp => ?_) | (with_reducible refine AllE.mk fun p => ?_) | (with_reducible refine AllR.mk fun rest => ?_) | (with_reducible refine AllK.mk fun K => ?_))))); repeat' (with_reducible refine And.intro ?_ ?_))
      (all_goals (repeat (first | (clear hK; clear K) | (clear hE; clear E) | (clear hF; clear F) | (clear hR; clear R))); all_goals (try simp only [decide_eq_true_eq, decide_eq_false_iff_not, Bool.not_eq_true', Bool.not_eq_false', Bool.not_eq_true, Bool.not_eq_false, decide_not, decide_true, decide_false, Bool.decide_and, Bool.and_eq_true, Bool.or_eq_true, Bool.and_eq_false_imp, Decidable.not_not] at *); all_goals (try omega); all_goals (try (first | exact u8w_lo _ | exact u8w_hi _ | exact (bits8 _ _ _).1 | exact (bits8 _ _ _).2 | exact Int.natCast_nonneg _ | exact u8_ltI _)))
      (focus (refine ⟨_, _, Gh.refl, [0], rfl, ?_⟩; (refine fitq ?_ ?_ ?_ <;> try exact trivial); (try any_goals (refine ⟨?_, ?_⟩)); (try any_goals (with_reducible rfl))))
    · have e : tki ys = (unzz z, k) := by rw [tki, hv]
      have hk := vd_le hv
      have hk0 := hk.1
      have hk1 := hk.2
      simp only [intR, hv, Fd_some]
      refine w_body (rs := [.tmp 2]) (tm := [.ptr 0 0, .any, .any, .any, .any, .any, .any, .any, .any, .any, .any, .any, .any, .any, .any, .any, .any]) fn_80 rfl rfl rfl rfl fun R hR => ?_
      (have zx1 := @e; have zx2 := @Int.natCast_zero; all_goals (try ((first | (with_reducible refine wp_id ?_) | (with_reducible refine does_id ?_) | (with_reducible refine ops_id ?_)); refine walk ?_; (repeat' (first | exact trivial | with_reducible refine And.intro ?_ ?_)); all_goals (repeat (first | (with_reducible refine ImpB.mk fun hb => ?_) | (with_reducible refine ImpK.mk fun hK => ?_) | (with_reducible refine ImpF.mk fun hF => ?_) | (with_reducible refine ImpQ.mk fun hp => ?_) | (with_reducible refine AllE.mk fun p => ?_) | (with_reducible refine AllR.mk fun rest => ?_) | (with_reducible refine AllK.mk fun K => ?_))))); repeat' (with_reducible refine And.intro ?_ ?_))
      (all_goals (repeat (first | (clear hK; clear K) | (clear hE; clear E) | (clear hF; clear F) | (clear hR; clear R))); all_goals (try simp only [decide_eq_true_eq, decide_eq_false_iff_not, Bool.not_eq_true', Bool.not_eq_false', Bool.not_eq_true, Bool.not_eq_false, decide_not, decide_true, decide_false, Bool.decide_and, Bool.and_eq_true, Bool.or_eq_true, Bool.and_eq_false_imp, Decidable.not_not] at *); all_goals (try omega); all_goals (try (first | exact u8w_lo _ | exact u8w_hi _ | exact (bits8 _ _ _).1 | exact (bits8 _ _ _).2 | exact Int.natCast_nonneg _ | exact u8_ltI _)))
      (focus (refine ⟨_, _, Gh.refl, [0], rfl, ?_⟩; (refine fitq ?_ ?_ ?_ <;> try exact trivial); (try any_goals (refine ⟨?_, ?_⟩)); (try any_goals (with_reducible rfl))))
theorem c_frint {h : List Ch} {K : KT} {t : Nat} {r : Option (List UInt8)} {n : Int} {r' : Option (List UInt8)} (H : K (.int .i64 n) (h.set t (.pack (Fd r')))) (o : hth h t = .pack (Fd r)) (e : intR r = (n, r')) (s1 : lenR r ≤ 1099511627776) : Does Try.prog 80 [.ptr t 0] h K := by
  have hb := b_frint r s1
  rw [e] at hb
  exact frame_obj0 hb o (by simp) (fitC_pack _) (br_cons (br_ptr rfl) br_nil) (.inl rfl) (fun _ => rfl) rfl H
abbrev i_frint := Ctr.mk (i := 0) (g := 80) @c_frint
attribute [instance] i_frint
/-- what the two ways to read a byte string share -/
theorem tkb_blobR (ys : List UInt8) (most : Int) : ((tkb ys most).2 = 0 ∧ tkb ys most = ([], 0) ∧ blobR (some ys) most = ([], none)) ∨ (0 < (tkb ys most).2 ∧ (tkb ys most).2 ≤ ys.length ∧ blobR (some ys) most = ((tkb ys most).1, some (ys.drop (tkb ys most).2))) := by
  rcases hv : vd ys with _ | ⟨z, k⟩
  · have e : tki ys = (0, 0) := by rw [tki, hv]
    have e2 : tkc ys most = (0, 0) := by rw [tkc, if_pos (by rw [e]; simp)]
    have e3 : tkb ys most = ([], 0) := by rw [tkb, if_pos (by rw [e2]; simp)]
    have e4 : intR (some ys) = (0, none) := by simp only [intR, hv]
    have e5 : countR (some ys) most = (0, none) := by simp only [countR, e4]
    left
    rw [e3]
    exact ⟨rfl, rfl, by simp only [blobR, e5]⟩
  · have e : tki ys = (unzz z, k) := by rw [tki, hv]
    have hk := vd_le hv
    have e4 : intR (some ys) = (unzz z, some (ys.drop k)) := by simp only [intR, hv]
    by_cases hc : unzz z < 0 ∨ most < unzz z
    · have e2 : tkc ys most = (0, 0) := by rw [tkc, if_pos (by rw [e]; right; exact hc)]
      have e3 : tkb ys most = ([], 0) := by rw [tkb, if_pos (by rw [e2]; simp)]
      have e5 : countR (some ys) most = (0, none) := by simp only [countR, e4, if_pos hc]
      left
      rw [e3]
      exact ⟨rfl, rfl, by simp only [blobR, e5]⟩
    · have e2 : tkc ys most = (unzz z, k) := by rw [tkc, if_neg (by rw [e]; simp only; omega), e]
      have e5 : countR (some ys) most = (unzz z, some (ys.drop k)) := by simp only [countR, e4, if_neg hc]
      by_cases hn : (ys.length : Int) - k < unzz z
      · have e3 : tkb ys most = ([], 0) := by rw [tkb, if_pos (by rw [e2]; right; exact hn)]
        left
        rw [e3]
        exact ⟨rfl, rfl, by simp only [blobR, e5]; rw [List.length_drop, if_pos (by omega)]⟩
      · have e3 : tkb ys most = ((ys.drop k).take (unzz z).toNat, k + (unzz z).toNat) := by rw [tkb, if_neg (by rw [e2]; simp only; omega), e2]
        right
        rw [e3]
        refine ⟨by simp only; omega, by simp only; omega, ?_⟩
        simp only [blobR, e5]
        rw [List.length_drop, if_neg (by omega), List.drop_drop]
theorem b_frblob (r : Option (List UInt8)) (most : Int) (hl : lenR r ≤ 1099511627776) : DoesK Try.prog 1 79 [.ptr 0 0, .int .i64 most] [.pack (Fd r)] (EndF 1 (.ro .byte (blobR r most).1) ([.pack (Fd (blobR r most).2)] ++ [])) := by
  refine DoesK.close ?_
  cases r with
  | none =>
    have e : tkb [] most = ([], 0) := rfl
    have e2 : blobR none most = ([], none) := rfl
    rw [e2]
    simp only [Fd_none]
    refine w_body (rs := [.tmp 4]) (tm := [.ptr 0 0, .int .i64 most, .any, .any, .any, .any, .any, .any, .any, .any, .any, .any, .any, .any, .any, .any, .any, .any, .any, .any]) fn_79 rfl rfl rfl rfl fun R hR => ?_
    (have zx1 := @e; have zx2 := @Int.natCast_zero; all_goals (try ((first | (with_reducible refine wp_id ?_) | (with_reducible refine does_id ?_) | (with_reducible refine ops_id ?_)); refine walk ?_; (repeat' (first | exact trivial | with_reducible refine And.intro ?_ ?_)); all_goals (repeat (first | (with_reducible refine ImpB.mk fun hb => ?_) | (with_reducible refine ImpK.mk fun hK => ?_) | (with_reducible refine ImpF.mk fun hF => ?_) | (with_reducible refine ImpQ.mk fun hp => ?_) | (with_reducible refine AllE.mk fun p => ?_) | (with_reducible refine AllR.mk fun rest => ?_) | (with_reducible refine AllK.mk fun K => ?_))))); repeat' (with_reducible refine And.intro ?_ ?_))
    (all_goals (repeat (first | (clear hK; clear K) | (clear hE; clear E) | (clear hF; clear F) | (clear hR; clear R))); all_goals (try simp only [decide_eq_true_eq, decide_eq_false_iff_not, Bool.not_eq_true', Bool.not_eq_false', Bool.not_eq_true, Bool.not_eq_false, decide_not, decide_true, decide_false, Bool.decide_and, Bool.and_eq_true, Bool.or_eq_true, Bool.and_eq_false_imp, Decidable.not_not] at *); all_goals (try omega); all_goals (try (first | exact u8w_lo _ | exact u8w_hi _ | exact (bits8 _ _ _).1 | exact (bits8 _ _ _).2 | exact Int.natCast_nonneg _ | exact u8_ltI _)))
    (focus (refine ⟨_, _, Gh.refl, [0], rfl, ?_⟩; (refine fitq ?_ ?_ ?_ <;> try exact trivial); (try any_goals (refine ⟨?_, ?_⟩)); (try any_goals (with_reducible rfl))))
  | some ys =>
    replace hl : ys.length ≤ 1099511627776 := hl
    rcases tkb_blobR ys most with ⟨h1, e, e2⟩ | ⟨hk0, hk1, e2⟩
    · rw [e2]
      simp only [Fd_none, Fd_some]
      refine w_body (rs := [.tmp 4]) (tm := [.ptr 0 0, .int .i64 most, .any, .any, .any, .any, .any, .any, .any, .any, .any, .any, .any, .any, .any, .any, .any, .any, .any, .any]) fn_79 rfl rfl rfl rfl fun R hR => ?_
      (have zx1 := @e; have zx2 := @Int.natCast_zero; all_goals (try ((first | (with_reducible refine wp_id ?_) | (with_reducible refine does_id ?_) | (with_reducible refine ops_id ?_)); refine walk ?_; (repeat' (first | exact trivial | with_reducible refine And.intro ?_ ?_)); all_goals (repeat (first | (with_reducible refine ImpB.mk fun hb => ?_) | (with_reducible refine ImpK.mk fun hK => ?_) | (with_reducible refine ImpF.mk fun hF => ?_) | (with_reducible refine ImpQ.mk fun hp => ?_) | (with_reducible refine AllE.mk fun p => ?_) | (with_reducible refine AllR.mk fun rest => ?_) | (with_reducible refine AllK.mk fun K => ?_))))); repeat' (with_reducible refine And.intro ?_ ?_))
      (all_goals (repeat (first | (clear hK; clear K) | (clear hE; clear E) | (clear hF; clear F) | (clear hR; clear R))); all_goals (try simp only [decide_eq_true_eq, decide_eq_false_iff_not, Bool.not_eq_true', Bool.not_eq_false', Bool.not_eq_true, Bool.not_eq_false, decide_not, decide_true, decide_false, Bool.decide_and, Bool.and_eq_true, Bool.or_eq_true, Bool.and_eq_false_imp, Decidable.not_not] at *); all_goals (try omega); all_goals (try (first | exact u8w_lo _ | exact u8w_hi _ | exact (bits8 _ _ _).1 | exact (bits8 _ _ _).2 | exact Int.natCast_nonneg _ | exact u8_ltI _)))
      (focus (refine ⟨_, _, Gh.refl, [0], rfl, ?_⟩; (refine fitq ?_ ?_ ?_ <;> try exact trivial); (try any_goals (refine ⟨?_, ?_⟩)); (try any_goals (with_reducible rfl))))
    · rw [e2]
      simp only [Fd_some]
      refine w_body (rs := [.tmp 4]) (tm := [.ptr 0 0, .int .i64 most, .any, .any, .any, .any, .any, .any, .any, .any, .any, .any, .any, .any, .any, .any, .any, .any, .any, .any]) fn_79 rfl rfl rfl rfl fun R hR => ?_
      (all_goals (try ((first | (with_reducible refine wp_id ?_) | (with_reducible refine does_id ?_) | (with_reducible refine ops_id ?_)); refine walk ?_; (repeat' (first | exact trivial | with_reducible refine And.intro ?_ ?_)); all_goals (repeat (first | (with_reducible refine ImpB.mk fun hb => ?_) | (with_reducible refine ImpK.mk fun hK => ?_) | (with_reducible refine ImpF.mk fun hF => ?_) | (with_reducible refine ImpQ.mk fun hp => ?_) | (with_reducible refine AllE.mk fun p => ?_) | (with_reducible refine AllR.mk fun rest => ?_) | (with_reducible refine AllK.mk fun K => ?_))))); repeat' (with_reducible refine And.intro ?_ ?_))
      (all_goals (repeat (first | (clear hK; clear K) | (clear hE; clear E) | (clear hF; clear F) | (clear hR; clear R))); all_goals (try simp only [decide_eq_true_eq, decide_eq_false_iff_not, Bool.not_eq_true', Bool.not_eq_false', Bool.not_eq_true, Bool.not_eq_false, decide_not, decide_true, decide_false, Bool.decide_and, Bool.and_eq_true, Bool.or_eq_true, Bool.and_eq_false_imp, Decidable.not_not] at *); all_goals (try omega); all_goals (try (first | exact u8w_lo _ | exact u8w_hi _ | exact (bits8 _ _ _).1 | exact (bits8 _ _ _).2 | exact Int.natCast_nonneg _ | exact u8_ltI _)))
      (focus (refine ⟨_, _, Gh.refl, [0], rfl, ?_⟩; (refine fitq ?_ ?_ ?_ <;> try exact trivial); (try any_goals (refine ⟨?_, ?_⟩)); (try any_goals (with_reducible rfl))))
theorem c_frblob {h : List Ch} {K : KT} {t : Nat} {r : Option (List UInt8)} {most : Int} {bs : List UInt8} {r' : Option (List UInt8)} (H : K (.ro .byte bs) (h.set t (.pack (Fd r')))) (o : hth h t = .pack (Fd r)) (e : blobR r most = (bs, r')) (s1 : lenR r ≤ 1099511627776) : Does Try.prog 79 [.ptr t 0, .int .i64 most] h K := by
  have hb := b_frblob r most s1
  rw [e] at hb
  exact frame_obj0 hb o (by simp) (fitC_pack _) (br_cons (br_ptr rfl) (br_cons br_int br_nil)) (.inl rfl) (fun _ => rfl) rfl H
abbrev i_frblob := Ctr.mk (i := 0) (g := 79) @c_frblob
attribute [instance] i_frblob
end Go.V
