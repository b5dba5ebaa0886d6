/-
  octets.Writer: what its methods do.
  octets.Reader: what its methods do.
  octets.Reader: integers and byte strings.
  ref03: counts, byte strings, the Reader.
  ref03.Reader: Count.
  The contracts at sizes that are written out.
  The command table, as the module and as the reference hold it.
  Commands as bytes: what encoding and decoding say, and that they are inverse.
-/
import Derived.Test.YtnhhgmoadpiklaaPart11
set_option linter.unusedVariables false
set_option linter.unusedSimpArgs false
set_option maxRecDepth 100000
set_option maxHeartbeats 1000000
namespace Go.V
open Go.Proofs
/-- a Writer: what was appended -/
def Wr (xs : List UInt8) : List Ch := [.cells [.bool true, .sl 1 .byte 0 xs.length], .rows .byte xs]
attribute [go_sem] Wr
theorem b_wok (xs : List UInt8) : DoesK Try.prog 1 82 [.ptr 0 0] [.pack (Wr xs)] (EndF 1 (.bool true) ([.pack (Wr xs)] ++ [])) := by
  refine DoesK.close ?_
  refine w_body (rs := [.tmp 2]) (tm := [.ptr 0 0, .any, .any, .any, .any, .any, .any, .any, .any, .any, .any]) fn_82 rfl rfl rfl rfl fun R hR => ?_
  (all_goals (try ((first | (with_reducible refine wp_id ?_) | (with_reducible refine does_id ?_) | (with_reducible refine ops_id ?_)); refine walk ?_; (repeat' (first | exact trivial | with_reducible refine And.intro ?_ ?_)); all_goals (repeat (first | (with_reducible refine ImpB.mk fun hb => ?_) | (with_reducible refine ImpK.mk fun hK => ?_) | (with_reducible refine ImpF.mk fun hF => ?_) | (with_reducible refine ImpQ.mk fun hp => ?_) | (with_reducible refine AllE.mk fun p => ?_) | (with_reducible refine AllR.mk fun rest => ?_) | (with_reducible refine AllK.mk fun K => ?_))))); repeat' (with_reducible refine And.intro ?_ ?_))
  (focus (refine ⟨_, _, gh_close (t := 0) (ts := [1]) (l := Wr xs) ⟨⟨_, _, rfl⟩, ?_, by simp⟩, [0], rfl, ?_⟩; all_goals (refine ⟨?_, ?_, ?_⟩ <;> simp only [go_sem, List.range, List.range.loop, List.nodup_cons, List.nodup_nil, List.mem_cons, List.not_mem_nil, or_false, or_self, decide_true, decide_false, Int.reduceToNat, Nat.min_eq_left, Nat.min_eq_right, Int.reducePow, Nat.reducePow, Int.reduceLE, Int.reduceLT, Int.reduceMul, Int.reduceAdd, Int.reduceSub, Int.reduceNeg, Bool.not_true, Bool.not_false, Bool.not_not, ↓reduceIte, Nat.reduceAdd, Nat.reduceSub, Nat.reduceMul, Nat.reduceEqDiff, reduceCtorEq, Nat.reduceLT, Nat.reduceLeDiff, Nat.reduceGT]); (try any_goals (refine ⟨?_, ?_⟩)); (try any_goals (with_reducible rfl))))
theorem c_wok {h : List Ch} {K : KT} {t : Nat} {xs : List UInt8} (H : K (.bool true) h) (o : hth h t = .pack (Wr xs)) : Does Try.prog 82 [.ptr t 0] h K :=
  frame_look (b_wok xs) o (by simp) (fitC_pack _) (br_cons (br_ptr rfl) br_nil) (.inl rfl) (fun _ => rfl) rfl H
abbrev i_wok := Ctr.mk (i := 0) (g := 82) @c_wok
attribute [instance] i_wok
theorem b_zz (n : Int) (hn : I64 n) : DoesK Try.prog 0 83 [.int .i64 n] [] (EndF 0 (.int .u64 (zz n)) []) := by
  refine DoesK.close ?_
  refine w_body (rs := [.tmp 2]) (tm := [.int .i64 n, .any, .any, .any, .any, .any, .any, .any, .any, .any]) fn_83 rfl rfl rfl rfl fun R hR => ?_
  (all_goals (try ((first | (with_reducible refine wp_id ?_) | (with_reducible refine does_id ?_) | (with_reducible refine ops_id ?_)); refine walk ?_; (repeat' (first | exact trivial | with_reducible refine And.intro ?_ ?_)); all_goals (repeat (first | (with_reducible refine ImpB.mk fun hb => ?_) | (with_reducible refine ImpK.mk fun hK => ?_) | (with_reducible refine ImpF.mk fun hF => ?_) | (with_reducible refine ImpQ.mk fun hp => ?_) | (with_reducible refine AllE.mk fun p => ?_) | (with_reducible refine AllR.mk fun rest => ?_) | (with_reducible refine AllK.mk fun K => ?_))))); repeat' (with_reducible refine And.intro ?_ ?_))
  (focus (refine ⟨_, _, Gh.refl, [], rfl, ?_⟩; (refine ⟨?_, ?_, ?_⟩ <;> simp only [go_sem, List.range, List.range.loop, List.nodup_cons, List.nodup_nil, List.mem_cons, List.not_mem_nil, or_false, or_self, decide_true, decide_false, Int.reduceToNat, Nat.min_eq_left, Nat.min_eq_right, Int.reducePow, Nat.reducePow, Int.reduceLE, Int.reduceLT, Int.reduceMul, Int.reduceAdd, Int.reduceSub, Int.reduceNeg, Bool.not_true, Bool.not_false, Bool.not_not, ↓reduceIte, Nat.reduceAdd, Nat.reduceSub, Nat.reduceMul, Nat.reduceEqDiff, reduceCtorEq, Nat.reduceLT, Nat.reduceLeDiff, Nat.reduceGT]); (try any_goals (refine ⟨?_, ?_⟩)); (try any_goals (with_reducible rfl))))
  rw [zz_bits n hn]
theorem c_zz {h : List Ch} {K : KT} {n : Int} (H : K (.int .u64 (zz n)) h) (s1 : I64 n) : Does Try.prog 83 [.int .i64 n] h K :=
  frame_pure (b_zz n s1) (br_cons br_int br_nil) (.inl rfl) (fun _ => rfl) H
abbrev i_zz := Ctr.mk (i := 0) (g := 83) @c_zz
attribute [instance] i_zz
theorem b_newW : DoesK Try.prog 0 49 [] [] (EndF 0 (.ptr 0 0) [.pack (Wr [])]) := by
  refine DoesK.close ?_
  refine w_body (rs := [.tmp 0]) (tm := [.any, .any, .any]) fn_49 rfl rfl rfl rfl fun R hR => ?_
  (all_goals (try ((first | (with_reducible refine wp_id ?_) | (with_reducible refine does_id ?_) | (with_reducible refine ops_id ?_)); refine walk ?_; (repeat' (first | exact trivial | with_reducible refine And.intro ?_ ?_)); all_goals (repeat (first | (with_reducible refine ImpB.mk fun hb => ?_) | (with_reducible refine ImpK.mk fun hK => ?_) | (with_reducible refine ImpF.mk fun hF => ?_) | (with_reducible refine ImpQ.mk fun hp => ?_) | (with_reducible refine AllE.mk fun p => ?_) | (with_reducible refine AllR.mk fun rest => ?_) | (with_reducible refine AllK.mk fun K => ?_))))); repeat' (with_reducible refine And.intro ?_ ?_))
  refine ⟨_, _, (gh_adoptC (t := 0) (i := 1) (vs := [.bool true, .lit (.slice none 0 0)]) .byte rfl trivial).trans (gh_close (t := 0) (ts := [1]) (l := Wr []) ⟨⟨_, _, rfl⟩, ?fh, by simp⟩), [0], rfl, ?ft⟩
  case ft => (refine ⟨?_, ?_, ?_⟩ <;> simp only [go_sem, List.range, List.range.loop, List.nodup_cons, List.nodup_nil, List.mem_cons, List.not_mem_nil, or_false, or_self, decide_true, decide_false, Int.reduceToNat, Nat.min_eq_left, Nat.min_eq_right, Int.reducePow, Nat.reducePow, Int.reduceLE, Int.reduceLT, Int.reduceMul, Int.reduceAdd, Int.reduceSub, Int.reduceNeg, Bool.not_true, Bool.not_false, Bool.not_not, ↓reduceIte, Nat.reduceAdd, Nat.reduceSub, Nat.reduceMul, Nat.reduceEqDiff, reduceCtorEq, Nat.reduceLT, Nat.reduceLeDiff, Nat.reduceGT])
  case fh => simp only [go_sem, decide_true, decide_false, Int.reduceToNat, Nat.min_eq_left, Nat.min_eq_right, Int.reducePow, Nat.reducePow, Int.reduceLE, Int.reduceLT, Int.reduceMul, Int.reduceAdd, Int.reduceSub, Int.reduceNeg, Bool.not_true, Bool.not_false, Bool.not_not, ↓reduceIte, Nat.reduceAdd, Nat.reduceSub, Nat.reduceMul, Nat.reduceEqDiff, reduceCtorEq, Nat.reduceLT, Nat.reduceLeDiff, Nat.reduceGT]
theorem c_newW {h : List Ch} {K : KT} (H : K (.ptr h.length 0) (h ++ [.pack (Wr [])])) : Does Try.prog 49 [] h K :=
  frame_new b_newW br_nil (.inl rfl) (fun _ => rfl) rfl H
abbrev i_newW := Ctr.mk (i := 0) (g := 49) @c_newW
attribute [instance] i_newW
theorem b_wint (xs : List UInt8) (n : Int) (hn : I64 n) (hl : xs.length ≤ 1099511627776) : DoesK Try.prog 1 50 [.ptr 0 0, .int .i64 n] [.pack (Wr xs)] (EndF 1 (.ptr 0 0) ([.pack (Wr (xs ++ encI n))] ++ [])) := by
  refine DoesK.close ?_
  refine w_body (rs := [.tmp 4]) (tm := [.ptr 0 0, .int .i64 n, .any, .any, .any, .any, .any, .any, .any, .any, .any, .any, .any, .any, .any, .any, .any, .any, .any, .any, .any, .any, .any, .any, .any, .any, .any, .any, .any, .any, .any, .any, .any, .any, .any, .any, .any, .any, .any]) fn_50 rfl rfl rfl rfl fun R hR => ?_
  (all_goals (try ((first | (with_reducible refine wp_id ?_) | (with_reducible refine does_id ?_) | (with_reducible refine ops_id ?_)); refine walk ?_; (repeat' (first | exact trivial | with_reducible refine And.intro ?_ ?_)); all_goals (repeat (first | (with_reducible refine ImpB.mk fun hb => ?_) | (with_reducible refine ImpK.mk fun hK => ?_) | (with_reducible refine ImpF.mk fun hF => ?_) | (with_reducible refine ImpQ.mk fun hp => ?_) | (with_reducible refine AllE.mk fun p => ?_) | (with_reducible refine AllR.mk fun rest => ?_) | (with_reducible refine AllK.mk fun K => ?_))))); repeat' (with_reducible refine And.intro ?_ ?_))
  any_goals ((try (refine w_seq fun K hK => ?_)); (try (refine w_block ?_)); refine w_loop (A := List UInt8 × Nat) (fun p => p.1 ++ vint p.2 = encI n) (fun p => p.2) (fun p => [(5, .int .u64 p.2)]) (fun p => [(0, .pack (Wr (xs ++ p.1)))]) (([], zz n)) (ws := ?ws1) (tk := ?tk1) ?hw1 ?ht1 ?hi ?h0 ?LH1; (case hw1 => simp only [go_sem, decide_true, decide_false, Int.reduceToNat, Nat.min_eq_left, Nat.min_eq_right, Int.reducePow, Nat.reducePow, Int.reduceLE, Int.reduceLT, Int.reduceMul, Int.reduceAdd, Int.reduceSub, Int.reduceNeg, Bool.not_true, Bool.not_false, Bool.not_not, ↓reduceIte, Nat.reduceAdd, Nat.reduceSub, Nat.reduceMul, Nat.reduceEqDiff, reduceCtorEq, Nat.reduceLT, Nat.reduceLeDiff, Nat.reduceGT]; exact rfl); (case ht1 => simp only [go_sem, decide_true, decide_false, Int.reduceToNat, Nat.min_eq_left, Nat.min_eq_right, Int.reducePow, Nat.reducePow, Int.reduceLE, Int.reduceLT, Int.reduceMul, Int.reduceAdd, Int.reduceSub, Int.reduceNeg, Bool.not_true, Bool.not_false, Bool.not_not, ↓reduceIte, Nat.reduceAdd, Nat.reduceSub, Nat.reduceMul, Nat.reduceEqDiff, reduceCtorEq, Nat.reduceLT, Nat.reduceLeDiff, Nat.reduceGT]; exact rfl); (case' LH1 => rintro ⟨pre, z⟩ E t hx hE ht; simp only [go_sem] at ht; subst ht; simp only [go_sem]; try dsimp only at hx))
  (all_goals (try ((first | (with_reducible refine wp_id ?_) | (with_reducible refine does_id ?_) | (with_reducible refine ops_id ?_)); refine walk ?_; (repeat' (first | exact trivial | with_reducible refine And.intro ?_ ?_)); all_goals (repeat (first | (with_reducible refine ImpB.mk fun hb => ?_) | (with_reducible refine ImpK.mk fun hK => ?_) | (with_reducible refine ImpF.mk fun hF => ?_) | (with_reducible refine ImpQ.mk fun hp => ?_) | (with_reducible refine AllE.mk fun p => ?_) | (with_reducible refine AllR.mk fun rest => ?_) | (with_reducible refine AllK.mk fun K => ?_))))); repeat' (with_reducible refine And.intro ?_ ?_))
  (all_goals (repeat (first | (clear hK; clear K) | (clear hE; clear E) | (clear hF; clear F) | (clear hR; clear R))); all_goals (try simp only [decide_eq_true_eq, decide_eq_false_iff_not, Bool.not_eq_true', Bool.not_eq_false', Bool.not_eq_true, Bool.not_eq_false, decide_not, decide_true, decide_false, Bool.decide_and, Bool.and_eq_true, Bool.or_eq_true, Bool.and_eq_false_imp, Decidable.not_not] at *); all_goals (try omega); all_goals (try (first | exact u8w_lo _ | exact u8w_hi _ | exact (bits8 _ _ _).1 | exact (bits8 _ _ _).2 | exact Int.natCast_nonneg _ | exact u8_ltI _)))
  case hi => rfl
  case h0 => (focus (refine ⟨_, _, Gh.refl, [0], rfl, ?_⟩; (refine ⟨?_, ?_, ?_⟩ <;> simp only [go_sem, List.range, List.range.loop, List.nodup_cons, List.nodup_nil, List.mem_cons, List.not_mem_nil, or_false, or_self, decide_true, decide_false, Int.reduceToNat, Nat.min_eq_left, Nat.min_eq_right, Int.reducePow, Nat.reducePow, Int.reduceLE, Int.reduceLT, Int.reduceMul, Int.reduceAdd, Int.reduceSub, Int.reduceNeg, Bool.not_true, Bool.not_false, Bool.not_not, ↓reduceIte, Nat.reduceAdd, Nat.reduceSub, Nat.reduceMul, Nat.reduceEqDiff, reduceCtorEq, Nat.reduceLT, Nat.reduceLeDiff, Nat.reduceGT]); (try any_goals (refine ⟨?_, ?_⟩)); (try any_goals (with_reducible rfl))))
  all_goals try (first | exact u8w_lo _ | exact u8w_hi _ | exact (bits8 _ _ _).1 | exact (bits8 _ _ _).2 | exact Int.natCast_nonneg _ | exact u8_ltI _)
  all_goals
    have hle := congrArg List.length hx
    have h10 := encI_le n hn
    have hvp := vint_pos z
    simp only [List.length_append] at hle
    try omega
  · rw [or_128_u8 _ (by omega)]
    have hz : ¬ z < 128 := by omega
    rw [vint_big hz] at hx
    refine ⟨(pre ++ [UInt8.ofNat (z % 128 + 128)], z / 128), ⟨by simpa using hx, by dsimp only; omega⟩, ?_⟩
    (focus (refine ⟨_, _, gh_close (t := 0) (ts := [3]) (l := Wr (xs ++ (pre ++ [UInt8.ofNat (z % 128 + 128)]))) ⟨⟨_, _, rfl⟩, ?_, by simp⟩, [0], rfl, ?_⟩; all_goals (refine ⟨?_, ?_, ?_⟩ <;> simp only [go_sem, List.range, List.range.loop, List.nodup_cons, List.nodup_nil, List.mem_cons, List.not_mem_nil, or_false, or_self, decide_true, decide_false, Int.reduceToNat, Nat.min_eq_left, Nat.min_eq_right, Int.reducePow, Nat.reducePow, Int.reduceLE, Int.reduceLT, Int.reduceMul, Int.reduceAdd, Int.reduceSub, Int.reduceNeg, Bool.not_true, Bool.not_false, Bool.not_not, ↓reduceIte, Nat.reduceAdd, Nat.reduceSub, Nat.reduceMul, Nat.reduceEqDiff, reduceCtorEq, Nat.reduceLT, Nat.reduceLeDiff, Nat.reduceGT]); (try any_goals (refine ⟨?_, ?_⟩)); (try any_goals (with_reducible rfl))))
    · omega
    · rw [List.append_assoc]
    · rw [Int.fdiv_eq_ediv_of_nonneg _ (by omega)]; omega
  · have hz : z < 128 := by omega
    rw [vint_small hz] at hx
    rw [← hx]
    (focus (refine ⟨_, _, gh_close (t := 0) (ts := [3]) (l := Wr (xs ++ (pre ++ [UInt8.ofNat z]))) ⟨⟨_, _, rfl⟩, ?_, by simp⟩, [0], rfl, ?_⟩; all_goals (refine ⟨?_, ?_, ?_⟩ <;> simp only [go_sem, List.range, List.range.loop, List.nodup_cons, List.nodup_nil, List.mem_cons, List.not_mem_nil, or_false, or_self, decide_true, decide_false, Int.reduceToNat, Nat.min_eq_left, Nat.min_eq_right, Int.reducePow, Nat.reducePow, Int.reduceLE, Int.reduceLT, Int.reduceMul, Int.reduceAdd, Int.reduceSub, Int.reduceNeg, Bool.not_true, Bool.not_false, Bool.not_not, ↓reduceIte, Nat.reduceAdd, Nat.reduceSub, Nat.reduceMul, Nat.reduceEqDiff, reduceCtorEq, Nat.reduceLT, Nat.reduceLeDiff, Nat.reduceGT]); (try any_goals (refine ⟨?_, ?_⟩)); (try any_goals (with_reducible rfl))))
    · omega
    · rw [wrap_u8, show ((z : Int) % 256).toNat = z from by omega]; simp
theorem c_wint {h : List Ch} {K : KT} {t : Nat} {xs : List UInt8} {n : Int} (H : K (.ptr t 0) (h.set t (.pack (Wr (xs ++ encI n))))) (o : hth h t = .pack (Wr xs)) (s1 : I64 n) (s2 : xs.length ≤ 1099511627776) : Does Try.prog 50 [.ptr t 0, .int .i64 n] h K :=
  frame_obj0 (ret' := .ptr t 0) (b_wint xs n s1 s2) o (by simp) (fitC_pack _) (br_cons (br_ptr rfl) (br_cons br_int br_nil)) (.inl rfl) (fun _ => rfl) rfl H
abbrev i_wint := Ctr.mk (i := 0) (g := 50) @c_wint
attribute [instance] i_wint
theorem b_wuint (xs : List UInt8) (n : Nat) (size : Nat) (h1 : 1 ≤ size) (h8 : size ≤ 8) (hl : xs.length ≤ 1099511627776) : DoesK Try.prog 1 52 [.ptr 0 0, .int .u64 n, .int .i64 size] [.pack (Wr xs)] (EndF 1 (.ptr 0 0) ([.pack (Wr (xs ++ be n size))] ++ [])) := by
  refine DoesK.close ?_
  refine w_body (rs := [.tmp 6]) (tm := [.ptr 0 0, .int .u64 n, .int .i64 size, .any, .any, .any, .any, .any, .any, .any, .any, .any, .any, .any, .any, .any, .any, .any, .any, .any, .any, .any, .any, .any, .any, .any, .any, .any, .any, .any, .any, .any, .any, .any, .any, .any, .any, .any, .any]) fn_52 rfl rfl rfl rfl fun R hR => ?_
  (all_goals (try ((first | (with_reducible refine wp_id ?_) | (with_reducible refine does_id ?_) | (with_reducible refine ops_id ?_)); refine walk ?_; (repeat' (first | exact trivial | with_reducible refine And.intro ?_ ?_)); all_goals (repeat (first | (with_reducible refine ImpB.mk fun hb => ?_) | (with_reducible refine ImpK.mk fun hK => ?_) | (with_reducible refine ImpF.mk fun hF => ?_) | (with_reducible refine ImpQ.mk fun hp => ?_) | (with_reducible refine AllE.mk fun p => ?_) | (with_reducible refine AllR.mk fun rest => ?_) | (with_reducible refine AllK.mk fun K => ?_))))); repeat' (with_reducible refine And.intro ?_ ?_))
  (all_goals try (exfalso; (try simp only [decide_eq_true_eq, decide_eq_false_iff_not, Bool.not_eq_true', Bool.not_eq_false', Bool.not_eq_true, Bool.not_eq_false, decide_not, decide_true, decide_false, Bool.decide_and, Bool.and_eq_true, Bool.or_eq_true, Bool.and_eq_false_imp, Decidable.not_not] at *); omega))
  any_goals ((try (refine w_seq fun K hK => ?_)); (try (refine w_block ?_)); refine w_loop (A := List UInt8 × Nat) (fun p => p.1 ++ be n p.2 = be n size ∧ p.2 ≤ size) (fun p => p.2) (fun p => [(7, .int .i64 ((p.2 : Int) - 1))]) (fun p => [(0, .pack (Wr (xs ++ p.1)))]) (([], size)) (ws := ?ws2) (tk := ?tk2) ?hw2 ?ht2 ?hi ?h0 ?LH2; (case hw2 => simp only [go_sem, decide_true, decide_false, Int.reduceToNat, Nat.min_eq_left, Nat.min_eq_right, Int.reducePow, Nat.reducePow, Int.reduceLE, Int.reduceLT, Int.reduceMul, Int.reduceAdd, Int.reduceSub, Int.reduceNeg, Bool.not_true, Bool.not_false, Bool.not_not, ↓reduceIte, Nat.reduceAdd, Nat.reduceSub, Nat.reduceMul, Nat.reduceEqDiff, reduceCtorEq, Nat.reduceLT, Nat.reduceLeDiff, Nat.reduceGT]; exact rfl); (case ht2 => simp only [go_sem, decide_true, decide_false, Int.reduceToNat, Nat.min_eq_left, Nat.min_eq_right, Int.reducePow, Nat.reducePow, Int.reduceLE, Int.reduceLT, Int.reduceMul, Int.reduceAdd, Int.reduceSub, Int.reduceNeg, Bool.not_true, Bool.not_false, Bool.not_not, ↓reduceIte, Nat.reduceAdd, Nat.reduceSub, Nat.reduceMul, Nat.reduceEqDiff, reduceCtorEq, Nat.reduceLT, Nat.reduceLeDiff, Nat.reduceGT]; exact rfl); (case' LH2 => rintro ⟨pre, j⟩ E t hx hE ht; simp only [go_sem] at ht; subst ht; simp only [go_sem]; try dsimp only at hx))
  case' LH2 => refine w_open 0 rfl rfl ?_
  (all_goals (try ((first | (with_reducible refine wp_id ?_) | (with_reducible refine does_id ?_) | (with_reducible refine ops_id ?_)); refine walk ?_; (repeat' (first | exact trivial | with_reducible refine And.intro ?_ ?_)); all_goals (repeat (first | (with_reducible refine ImpB.mk fun hb => ?_) | (with_reducible refine ImpK.mk fun hK => ?_) | (with_reducible refine ImpF.mk fun hF => ?_) | (with_reducible refine ImpQ.mk fun hp => ?_) | (with_reducible refine AllE.mk fun p => ?_) | (with_reducible refine AllR.mk fun rest => ?_) | (with_reducible refine AllK.mk fun K => ?_))))); repeat' (with_reducible refine And.intro ?_ ?_))
  (all_goals (repeat (first | (clear hK; clear K) | (clear hE; clear E) | (clear hF; clear F) | (clear hR; clear R))); all_goals (try simp only [decide_eq_true_eq, decide_eq_false_iff_not, Bool.not_eq_true', Bool.not_eq_false', Bool.not_eq_true, Bool.not_eq_false, decide_not, decide_true, decide_false, Bool.decide_and, Bool.and_eq_true, Bool.or_eq_true, Bool.and_eq_false_imp, Decidable.not_not] at *); all_goals (try omega); all_goals (try (first | exact u8w_lo _ | exact u8w_hi _ | exact (bits8 _ _ _).1 | exact (bits8 _ _ _).2 | exact Int.natCast_nonneg _ | exact u8_ltI _)))
  all_goals try (first | exact u8w_lo _ | exact u8w_hi _ | exact (bits8 _ _ _).1 | exact (bits8 _ _ _).2 | exact Int.natCast_nonneg _ | exact u8_ltI _)
  all_goals
    try have hle := congrArg List.length hx.1
    try simp only [List.length_append, be_len] at *
    try omega
  · obtain ⟨k, rfl⟩ : ∃ k, j = k + 1 := ⟨j - 1, by omega⟩
    have hby : UInt8.ofNat (IntKind.u8.wrap ((n : Int).fdiv (2 ^ min (IntKind.i64.wrap (8 * (((k + 1 : Nat) : Int) - 1))).toNat 64))).toNat = UInt8.ofNat (n / 256 ^ k % 256) := by
      rw [wrap_i64 _ (by omega) (by omega), show 8 * (((k + 1 : Nat) : Int) - 1) = 8 * (k : Int) from by omega]
      rcases be_step n k with h | h
      · rw [h]
      · omega
    rw [hby]
    refine ⟨(pre ++ [UInt8.ofNat (n / 256 ^ k % 256)], k), ⟨⟨by rw [← hx.1]; simp [be], by dsimp only; omega⟩, by dsimp only; omega⟩, ?_⟩
    (focus (refine ⟨_, _, gh_close (t := 0) (ts := [3]) (l := Wr (xs ++ (pre ++ [UInt8.ofNat (n / 256 ^ k % 256)]))) ⟨⟨_, _, rfl⟩, ?_, by simp⟩, [0], rfl, ?_⟩; all_goals (refine ⟨?_, ?_, ?_⟩ <;> simp only [go_sem, List.range, List.range.loop, List.nodup_cons, List.nodup_nil, List.mem_cons, List.not_mem_nil, or_false, or_self, decide_true, decide_false, Int.reduceToNat, Nat.min_eq_left, Nat.min_eq_right, Int.reducePow, Nat.reducePow, Int.reduceLE, Int.reduceLT, Int.reduceMul, Int.reduceAdd, Int.reduceSub, Int.reduceNeg, Bool.not_true, Bool.not_false, Bool.not_not, ↓reduceIte, Nat.reduceAdd, Nat.reduceSub, Nat.reduceMul, Nat.reduceEqDiff, reduceCtorEq, Nat.reduceLT, Nat.reduceLeDiff, Nat.reduceGT]); (try any_goals (refine ⟨?_, ?_⟩)); (try any_goals (with_reducible rfl))))
    all_goals (first | with_reducible rfl | omega | ((simp (disch := omega) only [wrap_i64]); first | done | omega) | (simp only [List.append_assoc, List.cons_append, List.nil_append]; done))
  · rw [wrap_i64 _ (by omega) (by omega)]; omega
  · have hj : j = 0 := by omega
    subst hj
    have hp : pre = be n size := by simpa [be] using hx.1
    subst hp
    (focus (refine ⟨_, _, gh_close (t := 0) (ts := [1]) (l := Wr (xs ++ be n size)) ⟨⟨_, _, rfl⟩, ?_, by simp⟩, [0], rfl, ?_⟩; all_goals (refine ⟨?_, ?_, ?_⟩ <;> simp only [go_sem, List.range, List.range.loop, List.nodup_cons, List.nodup_nil, List.mem_cons, List.not_mem_nil, or_false, or_self, decide_true, decide_false, Int.reduceToNat, Nat.min_eq_left, Nat.min_eq_right, Int.reducePow, Nat.reducePow, Int.reduceLE, Int.reduceLT, Int.reduceMul, Int.reduceAdd, Int.reduceSub, Int.reduceNeg, Bool.not_true, Bool.not_false, Bool.not_not, ↓reduceIte, Nat.reduceAdd, Nat.reduceSub, Nat.reduceMul, Nat.reduceEqDiff, reduceCtorEq, Nat.reduceLT, Nat.reduceLeDiff, Nat.reduceGT]); (try any_goals (refine ⟨?_, ?_⟩)); (try any_goals (with_reducible rfl))))
    all_goals (try simp only [List.length_append, be_len]; try omega)
  · rfl
  · (focus (refine ⟨_, _, Gh.refl, [0], rfl, ?_⟩; (refine ⟨?_, ?_, ?_⟩ <;> simp only [go_sem, List.range, List.range.loop, List.nodup_cons, List.nodup_nil, List.mem_cons, List.not_mem_nil, or_false, or_self, decide_true, decide_false, Int.reduceToNat, Nat.min_eq_left, Nat.min_eq_right, Int.reducePow, Nat.reducePow, Int.reduceLE, Int.reduceLT, Int.reduceMul, Int.reduceAdd, Int.reduceSub, Int.reduceNeg, Bool.not_true, Bool.not_false, Bool.not_not, ↓reduceIte, Nat.reduceAdd, Nat.reduceSub, Nat.reduceMul, Nat.reduceEqDiff, reduceCtorEq, Nat.reduceLT, Nat.reduceLeDiff, Nat.reduceGT]); (try any_goals (refine ⟨?_, ?_⟩)); (try any_goals (with_reducible rfl))))
    (simp (disch := omega) only [wrap_i64])
theorem c_wuint {h : List Ch} {K : KT} {t : Nat} {xs : List UInt8} {n size : Nat} (H : K (.ptr t 0) (h.set t (.pack (Wr (xs ++ be n size))))) (o : hth h t = .pack (Wr xs)) (s1 : 1 ≤ size) (s2 : size ≤ 8) (s3 : xs.length ≤ 1099511627776) : Does Try.prog 52 [.ptr t 0, .int .u64 n, .int .i64 size] h K :=
  frame_obj0 (ret' := .ptr t 0) (b_wuint xs n size s1 s2 s3) o (by simp) (fitC_pack _) (br_cons (br_ptr rfl) (br_cons br_int (br_cons br_int br_nil))) (.inl rfl) (fun _ => rfl) rfl H
theorem b_wblob (xs bs : List UInt8) (hl : xs.length ≤ 1099511627776) (hb : bs.length ≤ 1099511627776) : DoesK Try.prog 1 53 [.ptr 0 0, .ro .byte bs] [.pack (Wr xs)] (EndF 1 (.ptr 0 0) ([.pack (Wr (xs ++ encI bs.length ++ bs))] ++ [])) := by
  refine DoesK.close ?_
  refine w_body (rs := [.tmp 4]) (tm := [.ptr 0 0, .ro .byte bs, .any, .any, .any, .any, .any, .any, .any, .any, .any, .any, .any, .any, .any, .any, .any, .any, .any, .any, .any, .any]) fn_53 rfl rfl rfl rfl fun R hR => ?_
  (all_goals (try ((first | (with_reducible refine wp_id ?_) | (with_reducible refine does_id ?_) | (with_reducible refine ops_id ?_)); refine walk ?_; (repeat' (first | exact trivial | with_reducible refine And.intro ?_ ?_)); all_goals (repeat (first | (with_reducible refine ImpB.mk fun hb => ?_) | (with_reducible refine ImpK.mk fun hK => ?_) | (with_reducible refine ImpF.mk fun hF => ?_) | (with_reducible refine ImpQ.mk fun hp => ?_) | (with_reducible refine AllE.mk fun p => ?_) | (with_reducible refine AllR.mk fun rest => ?_) | (with_reducible refine AllK.mk fun K => ?_))))); repeat' (with_reducible refine And.intro ?_ ?_))
  (all_goals (repeat (first | (clear hK; clear K) | (clear hE; clear E) | (clear hF; clear F) | (clear hR; clear R))); all_goals (try simp only [decide_eq_true_eq, decide_eq_false_iff_not, Bool.not_eq_true', Bool.not_eq_false', Bool.not_eq_true, Bool.not_eq_false, decide_not, decide_true, decide_false, Bool.decide_and, Bool.and_eq_true, Bool.or_eq_true, Bool.and_eq_false_imp, Decidable.not_not] at *); all_goals (try omega); all_goals (try (first | exact u8w_lo _ | exact u8w_hi _ | exact (bits8 _ _ _).1 | exact (bits8 _ _ _).2 | exact Int.natCast_nonneg _ | exact u8_ltI _)))
  · have := encI_le bs.length (by constructor <;> omega); omega
  · (focus (refine ⟨_, _, gh_close (t := 0) (ts := [2]) (l := Wr (xs ++ encI bs.length ++ bs)) ⟨⟨_, _, rfl⟩, ?_, by simp⟩, [0], rfl, ?_⟩; all_goals (refine ⟨?_, ?_, ?_⟩ <;> simp only [go_sem, List.range, List.range.loop, List.nodup_cons, List.nodup_nil, List.mem_cons, List.not_mem_nil, or_false, or_self, decide_true, decide_false, Int.reduceToNat, Nat.min_eq_left, Nat.min_eq_right, Int.reducePow, Nat.reducePow, Int.reduceLE, Int.reduceLT, Int.reduceMul, Int.reduceAdd, Int.reduceSub, Int.reduceNeg, Bool.not_true, Bool.not_false, Bool.not_not, ↓reduceIte, Nat.reduceAdd, Nat.reduceSub, Nat.reduceMul, Nat.reduceEqDiff, reduceCtorEq, Nat.reduceLT, Nat.reduceLeDiff, Nat.reduceGT]); (try any_goals (refine ⟨?_, ?_⟩)); (try any_goals (with_reducible rfl))))
  · constructor <;> omega
theorem c_wblob {h : List Ch} {K : KT} {t : Nat} {xs bs : List UInt8} {a : AV} (H : K (.ptr t 0) (h.set t (.pack (Wr (xs ++ encI bs.length ++ bs))))) (o : hth h t = .pack (Wr xs)) (b1 : brA [t] h (.ro .byte bs) a) (s1 : xs.length ≤ 1099511627776) (s2 : bs.length ≤ 1099511627776) : Does Try.prog 53 [.ptr t 0, a] h K :=
  frame_obj0 (ret' := .ptr t 0) (b_wblob xs bs s1 s2) o (by simp) (fitC_pack _) (br_cons (br_ptr rfl) (br_cons b1 br_nil)) (.inr rfl) (fun _ => rfl) rfl H
abbrev i_wblob := Ctr.mk (i := 0) (g := 53) @c_wblob
attribute [instance] i_wblob
theorem b_wbytes (xs : List UInt8) (hl : xs.length ≤ 1099511627776) : DoesK Try.prog 1 54 [.ptr 0 0] [.pack (Wr xs)] (EndF 1 (.sl 1 .byte 0 xs.length) ([.pack (Wr xs)] ++ [.rows .byte xs])) := by
  refine DoesK.close ?_
  refine w_body (rs := [.tmp 2]) (tm := [.ptr 0 0, .any, .any, .any, .any, .any, .any, .any, .any, .any, .any, .any]) fn_54 rfl rfl rfl rfl fun R hR => ?_
  (all_goals (try ((first | (with_reducible refine wp_id ?_) | (with_reducible refine does_id ?_) | (with_reducible refine ops_id ?_)); refine walk ?_; (repeat' (first | exact trivial | with_reducible refine And.intro ?_ ?_)); all_goals (repeat (first | (with_reducible refine ImpB.mk fun hb => ?_) | (with_reducible refine ImpK.mk fun hK => ?_) | (with_reducible refine ImpF.mk fun hF => ?_) | (with_reducible refine ImpQ.mk fun hp => ?_) | (with_reducible refine AllE.mk fun p => ?_) | (with_reducible refine AllR.mk fun rest => ?_) | (with_reducible refine AllK.mk fun K => ?_))))); repeat' (with_reducible refine And.intro ?_ ?_))
  (all_goals (repeat (first | (clear hK; clear K) | (clear hE; clear E) | (clear hF; clear F) | (clear hR; clear R))); all_goals (try simp only [decide_eq_true_eq, decide_eq_false_iff_not, Bool.not_eq_true', Bool.not_eq_false', Bool.not_eq_true, Bool.not_eq_false, decide_not, decide_true, decide_false, Bool.decide_and, Bool.and_eq_true, Bool.or_eq_true, Bool.and_eq_false_imp, Decidable.not_not] at *); all_goals (try omega); all_goals (try (first | exact u8w_lo _ | exact u8w_hi _ | exact (bits8 _ _ _).1 | exact (bits8 _ _ _).2 | exact Int.natCast_nonneg _ | exact u8_ltI _)))
  all_goals try simp only [List.take_length] at *
  all_goals try omega
  · (focus (refine ⟨_, _, gh_close (t := 0) (ts := [2]) (l := Wr xs) ⟨⟨_, _, rfl⟩, ?_, by simp⟩, [0, 3], rfl, ?_⟩; all_goals (refine ⟨?_, ?_, ?_⟩ <;> simp only [go_sem, List.range, List.range.loop, List.nodup_cons, List.nodup_nil, List.mem_cons, List.not_mem_nil, or_false, or_self, decide_true, decide_false, Int.reduceToNat, Nat.min_eq_left, Nat.min_eq_right, Int.reducePow, Nat.reducePow, Int.reduceLE, Int.reduceLT, Int.reduceMul, Int.reduceAdd, Int.reduceSub, Int.reduceNeg, Bool.not_true, Bool.not_false, Bool.not_not, ↓reduceIte, Nat.reduceAdd, Nat.reduceSub, Nat.reduceMul, Nat.reduceEqDiff, reduceCtorEq, Nat.reduceLT, Nat.reduceLeDiff, Nat.reduceGT]); (try any_goals (refine ⟨?_, ?_⟩)); (try any_goals (with_reducible rfl))))
end Go.V

set_option maxRecDepth 100000
set_option maxHeartbeats 1000000
namespace Go.V
open Go.Proofs
def RdS (ys : List UInt8) : List Ch := [.cells [.bool true, .bool false, .ro .byte ys]]
def RdN : List Ch := [.cells [.bool true, .bool true, .ro .byte []]]
/-- a Reader: what is left to read; none: a read failed -/
def Rd : Option (List UInt8) → List Ch
  | some ys => RdS ys
  | none => RdN
attribute [go_sem] RdS RdN
end Go.V

set_option maxRecDepth 100000
set_option maxHeartbeats 1000000
namespace Go.V
open Go.Proofs
theorem Rd_some (ys : List UInt8) : Rd (some ys) = RdS ys := rfl
theorem Rd_none : Rd none = RdN := rfl
attribute [local go_sem] Rd_some Rd_none
end Go.V

set_option maxRecDepth 100000
set_option maxHeartbeats 1000000
namespace Go.V
open Go.Proofs
/-- ref03.Reader -/
def FdS (ys : List UInt8) (b : Bool) : List Ch := [.cells [.ro .byte ys, .bool b]]
attribute [go_sem] FdS
def Fd : Option (List UInt8) → List Ch
  | some ys => FdS ys false
  | none => FdS [] true
theorem Fd_some (ys : List UInt8) : Fd (some ys) = FdS ys false := rfl
theorem Fd_none : Fd none = FdS [] true := rfl
attribute [local go_sem] Fd_some Fd_none
end Go.V

set_option maxRecDepth 100000
set_option maxHeartbeats 1000000
namespace Go.V
open Go.Proofs
attribute [local go_sem] Fd_some Fd_none
end Go.V

set_option maxRecDepth 100000
namespace Go.V
open Go.Proofs
theorem c_wuint1 {h : List Ch} {K : KT} {t : Nat} {xs : List UInt8} {n : Nat} (H : K (.ptr t 0) (h.set t (.pack (Wr (xs ++ be n 1))))) (o : hth h t = .pack (Wr xs)) (s3 : xs.length ≤ 1099511627776) : Does Try.prog 52 [.ptr t 0, .int .u64 n, .int .i64 1] h K :=
  c_wuint (size := 1) H o (by decide) (by decide) s3
abbrev i_wuint1 := Ctr.mk (i := 0) (g := 52) @c_wuint1
attribute [instance] i_wuint1
theorem c_wuint2 {h : List Ch} {K : KT} {t : Nat} {xs : List UInt8} {n : Nat} (H : K (.ptr t 0) (h.set t (.pack (Wr (xs ++ be n 2))))) (o : hth h t = .pack (Wr xs)) (s3 : xs.length ≤ 1099511627776) : Does Try.prog 52 [.ptr t 0, .int .u64 n, .int .i64 2] h K :=
  c_wuint (size := 2) H o (by decide) (by decide) s3
abbrev i_wuint2 := Ctr.mk (i := 1) (g := 52) @c_wuint2
attribute [instance] i_wuint2
end Go.V

set_option maxRecDepth 100000
set_option maxHeartbeats 1000000
namespace Go.V
open Go.Proofs
/-- the rows of the table: arguments, whether data follow, least and most mode -/
def rowsL : List (List Int) := [[0, 0, 1, 4], [1, 0, 1, 4], [2, 0, 1, 4], [2, 1, 1, 4], [1, 0, 1, 4], [2, 0, 1, 4], [2, 0, 1, 4], [2, 0, 1, 4], [1, 1, 2, 4], [1, 0, 2, 4], [2, 0, 2, 4], [2, 1, 2, 4], [1, 0, 2, 4], [2, 0, 2, 4], [2, 0, 2, 4], [2, 1, 2, 4], [1, 0, 3, 4], [1, 0, 1, 4], [2, 1, 1, 2], [2, 0, 1, 4], [2, 0, 1, 4], [1, 1, 2, 4], [0, 1, 2, 4], [1, 0, 1, 4], [2, 0, 1, 2], [3, 0, 2, 4], [2, 0, 2, 4], [0, 0, 1, 2]]
def namesL : List (List UInt8) := [[112, 105, 110, 103], [115, 101, 116, 109, 111, 100, 101], [115, 101, 116, 112, 97, 114, 97, 109], [104, 107, 100, 101, 102, 105, 110, 101], [104, 107, 100, 101, 108, 101, 116, 101], [104, 107, 101, 110, 97, 98, 108, 101], [109, 111, 110, 101, 110, 97, 98, 108, 101], [101, 118, 101, 110, 116, 101, 110, 97, 98, 108, 101], [97, 99, 116, 97, 100, 100], [97, 99, 116, 100, 101, 108, 101, 116, 101], [97, 99, 116, 101, 110, 97, 98, 108, 101], [115, 99, 104, 101, 100, 105, 110, 115, 101, 114, 116], [115, 99, 104, 101, 100, 100, 101, 108, 101, 116, 101], [115, 99, 104, 101, 100, 115, 104, 105, 102, 116], [115, 99, 104, 101, 100, 101, 110, 97, 98, 108, 101], [115, 101, 113, 108, 111, 97, 100], [115, 101, 113, 115, 116, 97, 114, 116], [115, 101, 113, 115, 116, 111, 112], [109, 101, 109, 108, 111, 97, 100], [109, 101, 109, 100, 117, 109, 112], [109, 101, 109, 99, 104, 101, 99, 107], [102, 105, 108, 101, 115, 101, 110, 100], [102, 105, 108, 101, 100, 101, 108, 101, 116, 101], [102, 105, 108, 101, 99, 111, 110, 116, 114, 111, 108], [117, 110, 105, 116, 115, 119, 105, 116, 99, 104], [114, 101, 99, 114, 101, 112, 108, 97, 121], [114, 101, 99, 100, 101, 108, 101, 116, 101], [114, 101, 98, 111, 111, 116]]
def rowL (s : Int) : List Int := if s < 1 ∨ 28 < s then [] else rowsL.getD (s.toNat - 1) []
def nameL (s : Int) : List UInt8 := if s < 1 ∨ 28 < s then [] else namesL.getD (s.toNat - 1) []
def argN (s : Int) (j : Nat) : Int := (rowL s).getD j 0
def rowC (s : Int) : List AV := [.str (nameL s), .int .i64 (argN s 0), .bool (argN s 1 == 1), .int .i64 (argN s 2), .int .i64 (argN s 3)]
def tabF : List AV := List.flatten [[.str [], .int .i64 0, .bool false, .int .i64 0, .int .i64 0], [.str [112, 105, 110, 103], .int .i64 0, .bool false, .int .i64 1, .int .i64 4], [.str [115, 101, 116, 109, 111, 100, 101], .int .i64 1, .bool false, .int .i64 1, .int .i64 4], [.str [115, 101, 116, 112, 97, 114, 97, 109], .int .i64 2, .bool false, .int .i64 1, .int .i64 4], [.str [104, 107, 100, 101, 102, 105, 110, 101], .int .i64 2, .bool true, .int .i64 1, .int .i64 4], [.str [104, 107, 100, 101, 108, 101, 116, 101], .int .i64 1, .bool false, .int .i64 1, .int .i64 4], [.str [104, 107, 101, 110, 97, 98, 108, 101], .int .i64 2, .bool false, .int .i64 1, .int .i64 4], [.str [109, 111, 110, 101, 110, 97, 98, 108, 101], .int .i64 2, .bool false, .int .i64 1, .int .i64 4], [.str [101, 118, 101, 110, 116, 101, 110, 97, 98, 108, 101], .int .i64 2, .bool false, .int .i64 1, .int .i64 4], [.str [97, 99, 116, 97, 100, 100], .int .i64 1, .bool true, .int .i64 2, .int .i64 4], [.str [97, 99, 116, 100, 101, 108, 101, 116, 101], .int .i64 1, .bool false, .int .i64 2, .int .i64 4], [.str [97, 99, 116, 101, 110, 97, 98, 108, 101], .int .i64 2, .bool false, .int .i64 2, .int .i64 4], [.str [115, 99, 104, 101, 100, 105, 110, 115, 101, 114, 116], .int .i64 2, .bool true, .int .i64 2, .int .i64 4], [.str [115, 99, 104, 101, 100, 100, 101, 108, 101, 116, 101], .int .i64 1, .bool false, .int .i64 2, .int .i64 4], [.str [115, 99, 104, 101, 100, 115, 104, 105, 102, 116], .int .i64 2, .bool false, .int .i64 2, .int .i64 4], [.str [115, 99, 104, 101, 100, 101, 110, 97, 98, 108, 101], .int .i64 2, .bool false, .int .i64 2, .int .i64 4], [.str [115, 101, 113, 108, 111, 97, 100], .int .i64 2, .bool true, .int .i64 2, .int .i64 4], [.str [115, 101, 113, 115, 116, 97, 114, 116], .int .i64 1, .bool false, .int .i64 3, .int .i64 4], [.str [115, 101, 113, 115, 116, 111, 112], .int .i64 1, .bool false, .int .i64 1, .int .i64 4], [.str [109, 101, 109, 108, 111, 97, 100], .int .i64 2, .bool true, .int .i64 1, .int .i64 2], [.str [109, 101, 109, 100, 117, 109, 112], .int .i64 2, .bool false, .int .i64 1, .int .i64 4], [.str [109, 101, 109, 99, 104, 101, 99, 107], .int .i64 2, .bool false, .int .i64 1, .int .i64 4], [.str [102, 105, 108, 101, 115, 101, 110, 100], .int .i64 1, .bool true, .int .i64 2, .int .i64 4], [.str [102, 105, 108, 101, 100, 101, 108, 101, 116, 101], .int .i64 0, .bool true, .int .i64 2, .int .i64 4], [.str [102, 105, 108, 101, 99, 111, 110, 116, 114, 111, 108], .int .i64 1, .bool false, .int .i64 1, .int .i64 4], [.str [117, 110, 105, 116, 115, 119, 105, 116, 99, 104], .int .i64 2, .bool false, .int .i64 1, .int .i64 2], [.str [114, 101, 99, 114, 101, 112, 108, 97, 121], .int .i64 3, .bool false, .int .i64 2, .int .i64 4], [.str [114, 101, 99, 100, 101, 108, 101, 116, 101], .int .i64 2, .bool false, .int .i64 2, .int .i64 4], [.str [114, 101, 98, 111, 111, 116], .int .i64 0, .bool false, .int .i64 1, .int .i64 2]]
theorem tab_len : tabF.length = 145 := rfl
theorem tab_row0 : AV.agg ((tabF.drop 0).take 5) = .agg (rowC 0) := by simp [tabF, rowC, nameL, argN, rowL, namesL, rowsL]
theorem tab_row1 : AV.agg ((tabF.drop 5).take 5) = .agg (rowC 1) := by simp [tabF, rowC, nameL, argN, rowL, namesL, rowsL]
theorem tab_row2 : AV.agg ((tabF.drop 10).take 5) = .agg (rowC 2) := by simp [tabF, rowC, nameL, argN, rowL, namesL, rowsL]
theorem tab_row3 : AV.agg ((tabF.drop 15).take 5) = .agg (rowC 3) := by simp [tabF, rowC, nameL, argN, rowL, namesL, rowsL]
theorem tab_row4 : AV.agg ((tabF.drop 20).take 5) = .agg (rowC 4) := by simp [tabF, rowC, nameL, argN, rowL, namesL, rowsL]
theorem tab_row5 : AV.agg ((tabF.drop 25).take 5) = .agg (rowC 5) := by simp [tabF, rowC, nameL, argN, rowL, namesL, rowsL]
theorem tab_row6 : AV.agg ((tabF.drop 30).take 5) = .agg (rowC 6) := by simp [tabF, rowC, nameL, argN, rowL, namesL, rowsL]
theorem tab_row7 : AV.agg ((tabF.drop 35).take 5) = .agg (rowC 7) := by simp [tabF, rowC, nameL, argN, rowL, namesL, rowsL]
theorem tab_row8 : AV.agg ((tabF.drop 40).take 5) = .agg (rowC 8) := by simp [tabF, rowC, nameL, argN, rowL, namesL, rowsL]
theorem tab_row9 : AV.agg ((tabF.drop 45).take 5) = .agg (rowC 9) := by simp [tabF, rowC, nameL, argN, rowL, namesL, rowsL]
theorem tab_row10 : AV.agg ((tabF.drop 50).take 5) = .agg (rowC 10) := by simp [tabF, rowC, nameL, argN, rowL, namesL, rowsL]
theorem tab_row11 : AV.agg ((tabF.drop 55).take 5) = .agg (rowC 11) := by simp [tabF, rowC, nameL, argN, rowL, namesL, rowsL]
theorem tab_row12 : AV.agg ((tabF.drop 60).take 5) = .agg (rowC 12) := by simp [tabF, rowC, nameL, argN, rowL, namesL, rowsL]
theorem tab_row13 : AV.agg ((tabF.drop 65).take 5) = .agg (rowC 13) := by simp [tabF, rowC, nameL, argN, rowL, namesL, rowsL]
theorem tab_row14 : AV.agg ((tabF.drop 70).take 5) = .agg (rowC 14) := by simp [tabF, rowC, nameL, argN, rowL, namesL, rowsL]
theorem tab_row15 : AV.agg ((tabF.drop 75).take 5) = .agg (rowC 15) := by simp [tabF, rowC, nameL, argN, rowL, namesL, rowsL]
theorem tab_row16 : AV.agg ((tabF.drop 80).take 5) = .agg (rowC 16) := by simp [tabF, rowC, nameL, argN, rowL, namesL, rowsL]
theorem tab_row17 : AV.agg ((tabF.drop 85).take 5) = .agg (rowC 17) := by simp [tabF, rowC, nameL, argN, rowL, namesL, rowsL]
theorem tab_row18 : AV.agg ((tabF.drop 90).take 5) = .agg (rowC 18) := by simp [tabF, rowC, nameL, argN, rowL, namesL, rowsL]
theorem tab_row19 : AV.agg ((tabF.drop 95).take 5) = .agg (rowC 19) := by simp [tabF, rowC, nameL, argN, rowL, namesL, rowsL]
theorem tab_row20 : AV.agg ((tabF.drop 100).take 5) = .agg (rowC 20) := by simp [tabF, rowC, nameL, argN, rowL, namesL, rowsL]
theorem tab_row21 : AV.agg ((tabF.drop 105).take 5) = .agg (rowC 21) := by simp [tabF, rowC, nameL, argN, rowL, namesL, rowsL]
theorem tab_row22 : AV.agg ((tabF.drop 110).take 5) = .agg (rowC 22) := by simp [tabF, rowC, nameL, argN, rowL, namesL, rowsL]
theorem tab_row23 : AV.agg ((tabF.drop 115).take 5) = .agg (rowC 23) := by simp [tabF, rowC, nameL, argN, rowL, namesL, rowsL]
theorem tab_row24 : AV.agg ((tabF.drop 120).take 5) = .agg (rowC 24) := by simp [tabF, rowC, nameL, argN, rowL, namesL, rowsL]
theorem tab_row25 : AV.agg ((tabF.drop 125).take 5) = .agg (rowC 25) := by simp [tabF, rowC, nameL, argN, rowL, namesL, rowsL]
theorem tab_row26 : AV.agg ((tabF.drop 130).take 5) = .agg (rowC 26) := by simp [tabF, rowC, nameL, argN, rowL, namesL, rowsL]
theorem tab_row27 : AV.agg ((tabF.drop 135).take 5) = .agg (rowC 27) := by simp [tabF, rowC, nameL, argN, rowL, namesL, rowsL]
theorem tab_row28 : AV.agg ((tabF.drop 140).take 5) = .agg (rowC 28) := by simp [tabF, rowC, nameL, argN, rowL, namesL, rowsL]
theorem tab_row (n : Nat) (hn : n < 29) : partA Try.prog 109 tabF (n * szT Try.prog 109) = .agg (rowC n) := by
  rw [partA, kd_109, sz_109]
  dsimp only
  match n with
  | 0 => exact tab_row0
  | 1 => exact tab_row1
  | 2 => exact tab_row2
  | 3 => exact tab_row3
  | 4 => exact tab_row4
  | 5 => exact tab_row5
  | 6 => exact tab_row6
  | 7 => exact tab_row7
  | 8 => exact tab_row8
  | 9 => exact tab_row9
  | 10 => exact tab_row10
  | 11 => exact tab_row11
  | 12 => exact tab_row12
  | 13 => exact tab_row13
  | 14 => exact tab_row14
  | 15 => exact tab_row15
  | 16 => exact tab_row16
  | 17 => exact tab_row17
  | 18 => exact tab_row18
  | 19 => exact tab_row19
  | 20 => exact tab_row20
  | 21 => exact tab_row21
  | 22 => exact tab_row22
  | 23 => exact tab_row23
  | 24 => exact tab_row24
  | 25 => exact tab_row25
  | 26 => exact tab_row26
  | 27 => exact tab_row27
  | 28 => exact tab_row28
  | n + 29 => omega
theorem allN_i {n : Nat} {F : Nat → Prop} (h : ∀ j, j < n → F j) : allN n F := by
  induction n with
  | zero => trivial
  | succ n ih => exact ⟨ih fun j hj => h j (by omega), h n (by omega)⟩
theorem allN_e {n : Nat} {F : Nat → Prop} (h : allN n F) : ∀ j, j < n → F j := by
  induction n with
  | zero => intro j hj; omega
  | succ n ih =>
    intro j hj
    rcases Nat.lt_or_ge j n with h1 | h1
    · exact ih h.1 j h1
    · have : j = n := by omega
      subst this
      exact h.2
theorem idx_tab {i : Int} {K : AV → Prop} : idxK Try.prog (.array 29 109) (.agg tabF) (.int .i64 i) K = ((0 ≤ i ∧ i < 29) ∧ K (.agg (rowC i))) := by
  have e : ∀ j, j < 29 → partA Try.prog 109 tabF (j * szT Try.prog 109) = .agg (rowC j) := tab_row
  unfold idxK
  apply propext
  constructor
  · rintro ⟨h1, _, h3⟩
    refine ⟨h1, ?_⟩
    have := allN_e h3 i.toNat (by omega) (by omega)
    rw [e _ (by omega)] at this
    rw [show ((i.toNat : Nat) : Int) = i by omega] at this
    exact this
  · rintro ⟨h1, h2⟩
    refine ⟨h1, by rw [tab_len, sz_109], allN_i fun j hj hi => ?_⟩
    rw [e j hj, ← hi]
    exact h2
theorem b_row (s : Int) : DoesK Try.prog 0 95 [.int .i64 s] [] (EndF 0 (.ro .int (rowL s)) []) := by
  refine DoesK.close ?_
  refine w_body (rs := [.tmp 2]) (tm := [.int .i64 s, .any, .any, .any, .any, .any, .any, .any, .any, .any, .any, .any, .any, .any, .any, .any, .any, .any, .any, .any, .any, .any, .any, .any, .any, .any, .any, .any, .any, .any, .any, .any, .any, .any, .any, .any, .any, .any, .any, .any, .any, .any, .any, .any, .any, .any]) fn_95 rfl rfl rfl rfl fun R hR => ?_
  (all_goals (try ((first | (with_reducible refine wp_id ?_) | (with_reducible refine does_id ?_) | (with_reducible refine ops_id ?_)); refine walk ?_; (repeat' (first | exact trivial | with_reducible refine And.intro ?_ ?_)); all_goals (repeat (first | (with_reducible refine ImpB.mk fun hb => ?_) | (with_reducible refine ImpK.mk fun hK => ?_) | (with_reducible refine ImpF.mk fun hF => ?_) | (with_reducible refine ImpQ.mk fun hp => ?_) | (with_reducible refine AllE.mk fun p => ?_) | (with_reducible refine AllR.mk fun rest => ?_) | (with_reducible refine AllK.mk fun K => ?_))))); repeat' (with_reducible refine And.intro ?_ ?_))
  (all_goals (repeat (first | (clear hK; clear K) | (clear hE; clear E) | (clear hF; clear F) | (clear hR; clear R))); all_goals (try simp only [decide_eq_true_eq, decide_eq_false_iff_not, Bool.not_eq_true', Bool.not_eq_false', Bool.not_eq_true, Bool.not_eq_false, decide_not, decide_true, decide_false, Bool.decide_and, Bool.and_eq_true, Bool.or_eq_true, Bool.and_eq_false_imp, Decidable.not_not] at *); all_goals (try omega); all_goals (try (first | exact u8w_lo _ | exact u8w_hi _ | exact (bits8 _ _ _).1 | exact (bits8 _ _ _).2 | exact Int.natCast_nonneg _ | exact u8_ltI _)))
  all_goals try (rw [rowL, if_pos (by omega)])
  · (focus (refine ⟨_, _, Gh.refl, [], rfl, ?_⟩; (refine ⟨?_, ?_, ?_⟩ <;> simp only [go_sem, List.range, List.range.loop, List.nodup_cons, List.nodup_nil, List.mem_cons, List.not_mem_nil, or_false, or_self, decide_true, decide_false, Int.reduceToNat, Nat.min_eq_left, Nat.min_eq_right, Int.reducePow, Nat.reducePow, Int.reduceLE, Int.reduceLT, Int.reduceMul, Int.reduceAdd, Int.reduceSub, Int.reduceNeg, Bool.not_true, Bool.not_false, Bool.not_not, ↓reduceIte, Nat.reduceAdd, Nat.reduceSub, Nat.reduceMul, Nat.reduceEqDiff, reduceCtorEq, Nat.reduceLT, Nat.reduceLeDiff, Nat.reduceGT]); (try any_goals (refine ⟨?_, ?_⟩)); (try any_goals (with_reducible rfl))))
  · (focus (refine ⟨_, _, Gh.refl, [], rfl, ?_⟩; (refine ⟨?_, ?_, ?_⟩ <;> simp only [go_sem, List.range, List.range.loop, List.nodup_cons, List.nodup_nil, List.mem_cons, List.not_mem_nil, or_false, or_self, decide_true, decide_false, Int.reduceToNat, Nat.min_eq_left, Nat.min_eq_right, Int.reducePow, Nat.reducePow, Int.reduceLE, Int.reduceLT, Int.reduceMul, Int.reduceAdd, Int.reduceSub, Int.reduceNeg, Bool.not_true, Bool.not_false, Bool.not_not, ↓reduceIte, Nat.reduceAdd, Nat.reduceSub, Nat.reduceMul, Nat.reduceEqDiff, reduceCtorEq, Nat.reduceLT, Nat.reduceLeDiff, Nat.reduceGT]); (try any_goals (refine ⟨?_, ?_⟩)); (try any_goals (with_reducible rfl))))
  all_goals have hw : IntKind.i64.wrap (s - 1) = s - 1 := wrap_i64 _ (by omega) (by omega)
  all_goals rw [hw]
  · omega
  · omega
  · omega
  · rw [rowL, if_neg (by omega), show s.toNat - 1 = (s - 1).toNat from by omega]
    (focus (refine ⟨_, _, Gh.refl, [], rfl, ?_⟩; (refine ⟨?_, ?_, ?_⟩ <;> simp only [go_sem, List.range, List.range.loop, List.nodup_cons, List.nodup_nil, List.mem_cons, List.not_mem_nil, or_false, or_self, decide_true, decide_false, Int.reduceToNat, Nat.min_eq_left, Nat.min_eq_right, Int.reducePow, Nat.reducePow, Int.reduceLE, Int.reduceLT, Int.reduceMul, Int.reduceAdd, Int.reduceSub, Int.reduceNeg, Bool.not_true, Bool.not_false, Bool.not_not, ↓reduceIte, Nat.reduceAdd, Nat.reduceSub, Nat.reduceMul, Nat.reduceEqDiff, reduceCtorEq, Nat.reduceLT, Nat.reduceLeDiff, Nat.reduceGT]); (try any_goals (refine ⟨?_, ?_⟩)); (try any_goals (with_reducible rfl))))
    rfl
theorem c_row {h : List Ch} {K : KT} {s : Int} (H : K (.ro .int (rowL s)) h) : Does Try.prog 95 [.int .i64 s] h K :=
  frame_pure (b_row s) (br_cons br_int br_nil) (.inl rfl) (fun _ => rfl) H
abbrev i_row := Ctr.mk (i := 0) (g := 95) @c_row
attribute [instance] i_row
theorem b_table : DoesK Try.prog 0 96 [] [] (EndF 0 (.agg tabF) []) := by
  refine DoesK.close ?_
  refine w_body (rs := [.cell 0 136]) (tm := [.any, .any, .any, .any, .any, .any, .any, .any, .any, .any, .any, .any, .any, .any, .any, .any, .any, .any, .any, .any, .any, .any, .any, .any, .any, .any, .any, .any, .any, .any]) fn_96 rfl rfl rfl rfl fun R hR => ?_
  (all_goals (try ((first | (with_reducible refine wp_id ?_) | (with_reducible refine does_id ?_) | (with_reducible refine ops_id ?_)); refine walk ?_; (repeat' (first | exact trivial | with_reducible refine And.intro ?_ ?_)); all_goals (repeat (first | (with_reducible refine ImpB.mk fun hb => ?_) | (with_reducible refine ImpK.mk fun hK => ?_) | (with_reducible refine ImpF.mk fun hF => ?_) | (with_reducible refine ImpQ.mk fun hp => ?_) | (with_reducible refine AllE.mk fun p => ?_) | (with_reducible refine AllR.mk fun rest => ?_) | (with_reducible refine AllK.mk fun K => ?_))))); repeat' (with_reducible refine And.intro ?_ ?_))
  (all_goals (repeat (first | (clear hK; clear K) | (clear hE; clear E) | (clear hF; clear F) | (clear hR; clear R))); all_goals (try simp only [decide_eq_true_eq, decide_eq_false_iff_not, Bool.not_eq_true', Bool.not_eq_false', Bool.not_eq_true, Bool.not_eq_false, decide_not, decide_true, decide_false, Bool.decide_and, Bool.and_eq_true, Bool.or_eq_true, Bool.and_eq_false_imp, Decidable.not_not] at *); all_goals (try omega); all_goals (try (first | exact u8w_lo _ | exact u8w_hi _ | exact (bits8 _ _ _).1 | exact (bits8 _ _ _).2 | exact Int.natCast_nonneg _ | exact u8_ltI _)))
  simp only [tabF, List.flatten_cons, List.flatten_nil, List.append_nil, List.cons_append, List.nil_append]
  (focus (refine ⟨_, _, Gh.refl, [], rfl, ?_⟩; (refine ⟨?_, ?_, ?_⟩ <;> simp only [go_sem, List.range, List.range.loop, List.nodup_cons, List.nodup_nil, List.mem_cons, List.not_mem_nil, or_false, or_self, decide_true, decide_false, Int.reduceToNat, Nat.min_eq_left, Nat.min_eq_right, Int.reducePow, Nat.reducePow, Int.reduceLE, Int.reduceLT, Int.reduceMul, Int.reduceAdd, Int.reduceSub, Int.reduceNeg, Bool.not_true, Bool.not_false, Bool.not_not, ↓reduceIte, Nat.reduceAdd, Nat.reduceSub, Nat.reduceMul, Nat.reduceEqDiff, reduceCtorEq, Nat.reduceLT, Nat.reduceLeDiff, Nat.reduceGT]); (try any_goals (refine ⟨?_, ?_⟩)); (try any_goals (with_reducible rfl))))
theorem c_table {h : List Ch} {K : KT} (H : K (.agg tabF) h) : Does Try.prog 96 [] h K :=
  frame_pure b_table br_nil (.inl rfl) (fun _ => rfl) H
abbrev i_table := Ctr.mk (i := 0) (g := 96) @c_table
attribute [instance] i_table
theorem fit_tab : fitL [] tabF tabF = True := by
  apply eq_true
  simp only [tabF, List.flatten_cons, List.flatten_nil, List.append_nil, List.cons_append, List.nil_append, go_sem]
attribute [go_sem] fit_tab
attribute [irreducible] tabF
attribute [-go_sem] idxK
attribute [go_sem] idx_tab
attribute [go_sem] rowC
def okS (s : Int) : Bool := decide (1 ≤ s ∧ s ≤ 28)
theorem okS_f {s : Int} (h : s < 1 ∨ 28 < s) : okS s = false := by simp [okS]; omega
theorem okS_t {s : Int} (h : ¬ (s < 1 ∨ 28 < s)) : okS s = true := by simp [okS]; omega
theorem nameL_out {s : Int} (h : s < 1 ∨ 28 < s) : nameL s = [] := by rw [nameL, if_pos h]
theorem argN_out {s : Int} {j : Nat} (h : s < 1 ∨ 28 < s) : argN s j = 0 := by simp only [argN, rowL, if_pos h]; rfl
theorem b_find (s : Int) : DoesK Try.prog 0 76 [.int .i64 s] [] (EndF 0 (.tup [.agg (rowC s), .bool (okS s)]) []) := by
  refine DoesK.close ?_
  refine w_body (rs := [.cell 2 109, .tmp 3]) (tm := [.int .i64 s, .any, .any, .any, .any, .any, .any, .any, .any, .any, .any, .any, .any, .any]) fn_76 rfl rfl rfl rfl fun R hR => ?_
  (all_goals (try ((first | (with_reducible refine wp_id ?_) | (with_reducible refine does_id ?_) | (with_reducible refine ops_id ?_)); refine walk ?_; (repeat' (first | exact trivial | with_reducible refine And.intro ?_ ?_)); all_goals (repeat (first | (with_reducible refine ImpB.mk fun hb => ?_) | (with_reducible refine ImpK.mk fun hK => ?_) | (with_reducible refine ImpF.mk fun hF => ?_) | (with_reducible refine ImpQ.mk fun hp => ?_) | (with_reducible refine AllE.mk fun p => ?_) | (with_reducible refine AllR.mk fun rest => ?_) | (with_reducible refine AllK.mk fun K => ?_))))); repeat' (with_reducible refine And.intro ?_ ?_))
  (all_goals (repeat (first | (clear hK; clear K) | (clear hE; clear E) | (clear hF; clear F) | (clear hR; clear R))); all_goals (try simp only [decide_eq_true_eq, decide_eq_false_iff_not, Bool.not_eq_true', Bool.not_eq_false', Bool.not_eq_true, Bool.not_eq_false, decide_not, decide_true, decide_false, Bool.decide_and, Bool.and_eq_true, Bool.or_eq_true, Bool.and_eq_false_imp, Decidable.not_not] at *); all_goals (try omega); all_goals (try (first | exact u8w_lo _ | exact u8w_hi _ | exact (bits8 _ _ _).1 | exact (bits8 _ _ _).2 | exact Int.natCast_nonneg _ | exact u8_ltI _)))
  · rw [okS_f (by omega), nameL_out (by omega), argN_out (by omega), argN_out (by omega), argN_out (by omega), argN_out (by omega)]
    (focus (refine ⟨_, _, Gh.refl, [], rfl, ?_⟩; (refine ⟨?_, ?_, ?_⟩ <;> simp only [go_sem, List.range, List.range.loop, List.nodup_cons, List.nodup_nil, List.mem_cons, List.not_mem_nil, or_false, or_self, decide_true, decide_false, Int.reduceToNat, Nat.min_eq_left, Nat.min_eq_right, Int.reducePow, Nat.reducePow, Int.reduceLE, Int.reduceLT, Int.reduceMul, Int.reduceAdd, Int.reduceSub, Int.reduceNeg, Bool.not_true, Bool.not_false, Bool.not_not, ↓reduceIte, Nat.reduceAdd, Nat.reduceSub, Nat.reduceMul, Nat.reduceEqDiff, reduceCtorEq, Nat.reduceLT, Nat.reduceLeDiff, Nat.reduceGT]); (try any_goals (refine ⟨?_, ?_⟩)); (try any_goals (with_reducible rfl))))
    all_goals rfl
  · rw [okS_f (by omega), nameL_out (by omega), argN_out (by omega), argN_out (by omega), argN_out (by omega), argN_out (by omega)]
    (focus (refine ⟨_, _, Gh.refl, [], rfl, ?_⟩; (refine ⟨?_, ?_, ?_⟩ <;> simp only [go_sem, List.range, List.range.loop, List.nodup_cons, List.nodup_nil, List.mem_cons, List.not_mem_nil, or_false, or_self, decide_true, decide_false, Int.reduceToNat, Nat.min_eq_left, Nat.min_eq_right, Int.reducePow, Nat.reducePow, Int.reduceLE, Int.reduceLT, Int.reduceMul, Int.reduceAdd, Int.reduceSub, Int.reduceNeg, Bool.not_true, Bool.not_false, Bool.not_not, ↓reduceIte, Nat.reduceAdd, Nat.reduceSub, Nat.reduceMul, Nat.reduceEqDiff, reduceCtorEq, Nat.reduceLT, Nat.reduceLeDiff, Nat.reduceGT]); (try any_goals (refine ⟨?_, ?_⟩)); (try any_goals (with_reducible rfl))))
    all_goals rfl
  · rw [okS_t (by omega)]
    (focus (refine ⟨_, _, Gh.refl, [], rfl, ?_⟩; (refine ⟨?_, ?_, ?_⟩ <;> simp only [go_sem, List.range, List.range.loop, List.nodup_cons, List.nodup_nil, List.mem_cons, List.not_mem_nil, or_false, or_self, decide_true, decide_false, Int.reduceToNat, Nat.min_eq_left, Nat.min_eq_right, Int.reducePow, Nat.reducePow, Int.reduceLE, Int.reduceLT, Int.reduceMul, Int.reduceAdd, Int.reduceSub, Int.reduceNeg, Bool.not_true, Bool.not_false, Bool.not_not, ↓reduceIte, Nat.reduceAdd, Nat.reduceSub, Nat.reduceMul, Nat.reduceEqDiff, reduceCtorEq, Nat.reduceLT, Nat.reduceLeDiff, Nat.reduceGT]); (try any_goals (refine ⟨?_, ?_⟩)); (try any_goals (with_reducible rfl))))
theorem c_find {h : List Ch} {K : KT} {s : Int} (H : K (.tup [.agg (rowC s), .bool (okS s)]) h) : Does Try.prog 76 [.int .i64 s] h K :=
  frame_pure (b_find s) (br_cons br_int br_nil) (.inl rfl) (fun _ => rfl) H
abbrev i_find := Ctr.mk (i := 0) (g := 76) @c_find
attribute [instance] i_find
theorem rowL_len (s : Int) : (rowL s).length = 0 ∧ (s < 1 ∨ 28 < s) ∨ (rowL s).length = 4 ∧ ¬ (s < 1 ∨ 28 < s) := by
  by_cases h : s < 1 ∨ 28 < s
  · left
    rw [rowL, if_pos h]
    exact ⟨rfl, h⟩
  · right
    refine ⟨?_, h⟩
    rw [rowL, if_neg h]
    have e : rowsL.length = 28 := rfl
    have k : ∀ x ∈ rowsL, x.length = 4 := by decide
    have hl : s.toNat - 1 < rowsL.length := by omega
    rw [List.getD_eq_getElem?_getD, List.getElem?_eq_getElem hl, Option.getD_some]
    exact k _ (List.getElem_mem hl)
end Go.V

set_option maxRecDepth 100000
namespace Go.V
open Go.Proofs
def intsR (r : Option (List UInt8)) : Nat → List Int × Option (List UInt8)
  | 0 => ([], r)
  | k + 1 => ((intsR r k).1 ++ [(intR (intsR r k).2).1], (intR (intsR r k).2).2)
theorem intsR_len (r : Option (List UInt8)) (k : Nat) : (intsR r k).1.length = k := by
  induction k with
  | zero => rfl
  | succ k ih => simp [intsR, ih]
def dataS (s : Int) : Bool := argN s 1 == 1
/-- a command that may be sent -/
def validC (c : Cmd) : Bool := okS c.srv && decide (0 ≤ c.src) && decide (c.src ≤ 15) && decide (0 ≤ c.num) && decide (c.num ≤ 65535) && decide ((c.args.length : Int) = argN c.srv 0)
  && c.args.all (fun a => decide (-1099511627776 ≤ a) && decide (a ≤ 1099511627776))
  && (if dataS c.srv = true then decide (1 ≤ c.data.length) && decide (c.data.length ≤ 512) else decide (c.data.length = 0))
def encC (c : Cmd) : List UInt8 := be c.src.toNat 1 ++ be c.num.toNat 2 ++ be c.srv.toNat 1 ++ c.args.flatMap encI ++ (if dataS c.srv = true then encI c.data.length ++ c.data else [])
theorem validC_iff (c : Cmd) : validC c = true ↔ okS c.srv = true ∧ 0 ≤ c.src ∧ c.src ≤ 15 ∧ 0 ≤ c.num ∧ c.num ≤ 65535 ∧ (c.args.length : Int) = argN c.srv 0
  ∧ (∀ a ∈ c.args, -1099511627776 ≤ a ∧ a ≤ 1099511627776) ∧ (if dataS c.srv = true then 1 ≤ c.data.length ∧ c.data.length ≤ 512 else c.data.length = 0) := by
  unfold validC
  split <;> simp [and_assoc]
theorem okS_iff (s : Int) : okS s = true ↔ 1 ≤ s ∧ s ≤ 28 := by simp [okS]
theorem arg0_le (s : Int) : argN s 0 ≤ 3 := by
  have k : ∀ x ∈ rowsL, x.getD 0 0 ≤ 3 := by decide
  unfold argN rowL
  split
  · decide
  · rw [List.getD_eq_getElem?_getD (l := rowsL)]
    cases e : rowsL[s.toNat - 1]? with
    | none => decide
    | some x => exact k x (List.mem_of_getElem? e)
theorem encs_len : ∀ zs : List Int, (∀ a ∈ zs, -1099511627776 ≤ a ∧ a ≤ 1099511627776) → (zs.flatMap encI).length ≤ 10 * zs.length := by
  intro zs
  induction zs with
  | nil => intro _; simp
  | cons a zs ih =>
    intro ha
    have := ih fun x hx => ha x (List.mem_cons_of_mem _ hx)
    have h0 := ha a (List.mem_cons_self ..)
    have := encI_le a (by constructor <;> omega)
    simp only [List.flatMap_cons, List.length_append, List.length_cons]
    omega
theorem encC_len {c : Cmd} (h : validC c = true) : (encC c).length ≤ 600 := by
  rw [validC_iff] at h
  obtain ⟨h1, h2, h3, h4, h5, h6, h7, h8⟩ := h
  have hal := arg0_le c.srv
  have hf := encs_len
  have := hf c.args h7
  have := encI_le c.data.length (by split at h8 <;> constructor <;> omega)
  unfold encC
  simp only [List.length_append, be_len]
  split at h8 <;> rename_i hd
  · rw [if_pos hd]
    simp only [List.length_append]
    omega
  · rw [if_neg hd]
    simp only [List.length_nil]
    omega
end Go.V
