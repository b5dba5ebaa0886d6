/-
  command and ref39: Encode, Same.
  ref39: Encode.
  command: Decode.
  ref39: Decode; the laws' helpers.
  ref39: Decode.
  Steps of sequences: which are valid, and their encodings.
-/
import Derived.Test.YtpnfoffggcfhfaaPart15
set_option linter.unusedVariables false
set_option linter.unusedSimpArgs false
set_option maxRecDepth 100000
set_option maxHeartbeats 1000000
namespace Go.V
open Go.Proofs
attribute [-go_sem] Wr
theorem b_encF (c : Cmd) (hl : c.args.length ≤ 1099511627776) (hv : validC ⟨c.src, c.num, c.srv, c.args, c.data⟩ = false) : DoesK Try.prog 0 38 [.agg [.int .i64 c.src, .int .i64 c.num, .int .i64 c.srv, .ro .int c.args, .ro .byte c.data]] [] (EndF 0 (.tup [.lit (.slice none 0 0), .int .i64 1]) []) := by
  refine DoesK.close ?_
  refine w_body (rs := [.tmp 2, .tmp 3]) (tm := [.agg [.int .i64 c.src, .int .i64 c.num, .int .i64 c.srv, .ro .int c.args, .ro .byte c.data], .any, .any, .any, .any, .any, .any, .any, .any, .any, .any, .any, .any, .any, .any, .any, .any, .any, .any, .any, .any, .any, .any, .any, .any, .any, .any, .any, .any, .any, .any, .any, .any, .any, .any, .any, .any, .any, .any, .any, .any, .any, .any, .any, .any, .any, .any, .any, .any, .any, .any]) fn_38 rfl rfl rfl rfl fun R hR => ?_
  (have zx1 := @hv; all_goals (try ((first | (with_reducible refine wp_id ?_) | (with_reducible refine does_id ?_) | (with_reducible refine ops_id ?_)); refine walk ?_; (repeat' (first | exact trivial | with_reducible refine And.intro ?_ ?_)); all_goals (repeat (first | (with_reducible refine ImpB.mk fun hb => ?_) | (with_reducible refine ImpK.mk fun hK => ?_) | (with_reducible refine ImpF.mk fun hF => ?_) | (with_reducible refine ImpQ.mk fun hp => ?_) | (with_reducible refine AllE.mk fun p => ?_) | (with_reducible refine AllR.mk fun rest => ?_) | (with_reducible refine AllK.mk fun K => ?_))))); repeat' (with_reducible refine And.intro ?_ ?_))
  (all_goals (repeat (first | (clear hK; clear K) | (clear hE; clear E) | (clear hF; clear F) | (clear hR; clear R))); all_goals (try simp only [decide_eq_true_eq, decide_eq_false_iff_not, Bool.not_eq_true', Bool.not_eq_false', Bool.not_eq_true, Bool.not_eq_false, decide_not, decide_true, decide_false, Bool.decide_and, Bool.and_eq_true, Bool.or_eq_true, Bool.and_eq_false_imp, Decidable.not_not] at *); all_goals (try omega); all_goals (try (first | exact u8w_lo _ | exact u8w_hi _ | exact (bits8 _ _ _).1 | exact (bits8 _ _ _).2 | exact Int.natCast_nonneg _ | exact u8_ltI _)))
  (focus (refine ⟨_, _, Gh.refl, [], rfl, ?_⟩; (refine fitq ?_ ?_ ?_ <;> try exact trivial); (try any_goals (refine ⟨?_, ?_⟩)); (try any_goals (with_reducible rfl))))
theorem b_encT (c : Cmd) (hv : validC ⟨c.src, c.num, c.srv, c.args, c.data⟩ = true) : DoesK Try.prog 0 38 [.agg [.int .i64 c.src, .int .i64 c.num, .int .i64 c.srv, .ro .int c.args, .ro .byte c.data]] [] (EndF 0 (.tup [.sl 0 .byte 0 (encC c).length, .int .i64 0]) [.rows .byte (encC c)]) := by
  refine DoesK.close ?_
  obtain ⟨h1, h2, h3, h4, h5, h6, h7, h8⟩ := (validC_iff c).1 hv
  rw [okS_iff] at h1
  have w1 : IntKind.u64.wrap c.src = (c.src.toNat : Int) := by rw [wrap_u64]; omega
  have w2 : IntKind.u64.wrap c.num = (c.num.toNat : Int) := by rw [wrap_u64]; omega
  have w3 : IntKind.u64.wrap c.srv = (c.srv.toNat : Int) := by rw [wrap_u64]; omega
  have ha3 := arg0_le c.srv
  have hlen : ∀ k, ((c.args.take k).flatMap encI).length ≤ 30 := fun k => by
    have h9 := encs_len (c.args.take k) fun a ha => h7 a (List.mem_of_mem_take ha)
    have h10 : (c.args.take k).length ≤ c.args.length := by rw [List.length_take]; omega
    omega
  have hi : ∀ k, I64 (c.args.getD k 0) := fun k => by
    rw [List.getD_eq_getElem?_getD]
    cases e : c.args[k]? with
    | none => constructor <;> decide
    | some x =>
      have := h7 x (List.mem_of_getElem? e)
      rw [Option.getD_some]
      constructor <;> omega
  have hl : c.args.length ≤ 1099511627776 := by omega
  have hd : c.data.length ≤ 512 := by split at h8 <;> omega
  have hel := encI_le c.data.length (by constructor <;> omega)
  refine w_body (rs := [.tmp 2, .tmp 3]) (tm := [.agg [.int .i64 c.src, .int .i64 c.num, .int .i64 c.srv, .ro .int c.args, .ro .byte c.data], .any, .any, .any, .any, .any, .any, .any, .any, .any, .any, .any, .any, .any, .any, .any, .any, .any, .any, .any, .any, .any, .any, .any, .any, .any, .any, .any, .any, .any, .any, .any, .any, .any, .any, .any, .any, .any, .any, .any, .any, .any, .any, .any, .any, .any, .any, .any, .any, .any, .any]) fn_38 rfl rfl rfl rfl fun R hR => ?_
  (have zx1 := @hv; have zx2 := @w1; have zx3 := @w2; have zx4 := @w3; all_goals (try ((first | (with_reducible refine wp_id ?_) | (with_reducible refine does_id ?_) | (with_reducible refine ops_id ?_)); refine walk ?_; (repeat' (first | exact trivial | with_reducible refine And.intro ?_ ?_)); all_goals (repeat (first | (with_reducible refine ImpB.mk fun hb => ?_) | (with_reducible refine ImpK.mk fun hK => ?_) | (with_reducible refine ImpF.mk fun hF => ?_) | (with_reducible refine ImpQ.mk fun hp => ?_) | (with_reducible refine AllE.mk fun p => ?_) | (with_reducible refine AllR.mk fun rest => ?_) | (with_reducible refine AllK.mk fun K => ?_))))); repeat' (with_reducible refine And.intro ?_ ?_))
  any_goals ((try (refine w_seq fun K hK => ?_)); (try (refine w_block ?_)); refine w_loop (A := Nat) (fun k => k ≤ c.args.length) (fun k => c.args.length - k) (fun k => [(29, .int .i64 k)]) (fun k => [(1, .pack (Wr (be c.src.toNat 1 ++ be c.num.toNat 2 ++ be c.srv.toNat 1 ++ (c.args.take k).flatMap encI)))]) (0) (ws := ?ws1) (tk := ?tk1) ?hw1 ?ht1 ?hi ?h0 ?LH1; (case hw1 => simp only [go_sem, decide_true, decide_false, Int.reduceToNat, Nat.min_eq_left, Nat.min_eq_right, Int.reducePow, Nat.reducePow, Int.reduceLE, Int.reduceLT, Int.reduceMul, Int.reduceAdd, Int.reduceSub, Int.reduceNeg, Bool.not_true, Bool.not_false, Bool.not_not, ↓reduceIte, Nat.reduceAdd, Nat.reduceSub, Nat.reduceMul, Nat.reduceEqDiff, reduceCtorEq, Nat.reduceLT, Nat.reduceLeDiff, Nat.reduceGT]; exact rfl); (case ht1 => simp only [go_sem, decide_true, decide_false, Int.reduceToNat, Nat.min_eq_left, Nat.min_eq_right, Int.reducePow, Nat.reducePow, Int.reduceLE, Int.reduceLT, Int.reduceMul, Int.reduceAdd, Int.reduceSub, Int.reduceNeg, Bool.not_true, Bool.not_false, Bool.not_not, ↓reduceIte, Nat.reduceAdd, Nat.reduceSub, Nat.reduceMul, Nat.reduceEqDiff, reduceCtorEq, Nat.reduceLT, Nat.reduceLeDiff, Nat.reduceGT]; exact rfl); (case' LH1 => rintro k E t hx hE ht; simp only [go_sem] at ht; subst ht; simp only [go_sem]; try dsimp only at hx))
  (have zx1 := @hv; all_goals (try ((first | (with_reducible refine wp_id ?_) | (with_reducible refine does_id ?_) | (with_reducible refine ops_id ?_)); refine walk ?_; (repeat' (first | exact trivial | with_reducible refine And.intro ?_ ?_)); all_goals (repeat (first | (with_reducible refine ImpB.mk fun hb => ?_) | (with_reducible refine ImpK.mk fun hK => ?_) | (with_reducible refine ImpF.mk fun hF => ?_) | (with_reducible refine ImpQ.mk fun hp => ?_) | (with_reducible refine AllE.mk fun p => ?_) | (with_reducible refine AllR.mk fun rest => ?_) | (with_reducible refine AllK.mk fun K => ?_))))); repeat' (with_reducible refine And.intro ?_ ?_))
  (all_goals (repeat (first | (clear hK; clear K) | (clear hE; clear E) | (clear hF; clear F) | (clear hR; clear R))); all_goals (try simp only [decide_eq_true_eq, decide_eq_false_iff_not, Bool.not_eq_true', Bool.not_eq_false', Bool.not_eq_true, Bool.not_eq_false, decide_not, decide_true, decide_false, Bool.decide_and, Bool.and_eq_true, Bool.or_eq_true, Bool.and_eq_false_imp, Decidable.not_not] at *); all_goals (try omega); all_goals (try (first | exact u8w_lo _ | exact u8w_hi _ | exact (bits8 _ _ _).1 | exact (bits8 _ _ _).2 | exact Int.natCast_nonneg _ | exact u8_ltI _)))
  all_goals first
    | exact hi k
    | omega
    | (have h11 := hlen k; simp only [List.length_append, be_len]; omega)
    | skip
  · refine ⟨k + 1, ⟨by first | omega | (dsimp only; omega), by first | omega | (dsimp only; omega)⟩, ?_⟩
    (focus (refine ⟨_, _, Gh.refl, [0, 1], rfl, ?_⟩; (refine fitq ?_ ?_ ?_ <;> try exact trivial); (try any_goals (refine ⟨?_, ?_⟩)); (try any_goals (with_reducible rfl))))
    all_goals first | (first | with_reducible rfl | omega | ((simp (disch := omega) only [wrap_i64]); first | done | omega) | (simp only [List.append_assoc, List.cons_append, List.nil_append]; done)) | skip
    rw [List.append_assoc _ (List.flatMap encI _)]
    congr 1
    have hk : k < c.args.length := by omega
    rw [List.take_succ_eq_append_getElem hk, List.flatMap_append, List.getD_eq_getElem?_getD, List.getElem?_eq_getElem hk]
    simp
  · have hk : c.args.take k = c.args := List.take_of_length_le (by omega)
    rw [hk, encC, if_pos (by unfold dataS; assumption)]
    (focus (refine ⟨_, _, Gh.refl, [3], rfl, ?_⟩; (refine fitq ?_ ?_ ?_ <;> try exact trivial); (try any_goals (refine ⟨?_, ?_⟩)); (try any_goals (with_reducible rfl))))
    all_goals simp [List.append_assoc, be_len, Nat.add_assoc]
  · have hk : c.args.take k = c.args := List.take_of_length_le (by omega)
    rw [hk, encC, if_neg (by unfold dataS; simp [*]), List.append_nil]
    (focus (refine ⟨_, _, Gh.refl, [3], rfl, ?_⟩; (refine fitq ?_ ?_ ?_ <;> try exact trivial); (try any_goals (refine ⟨?_, ?_⟩)); (try any_goals (with_reducible rfl))))
    all_goals simp [List.append_assoc, be_len, Nat.add_assoc]
  · (focus (refine ⟨_, _, Gh.refl, [0, 1], rfl, ?_⟩; (refine fitq ?_ ?_ ?_ <;> try exact trivial); (try any_goals (refine ⟨?_, ?_⟩)); (try any_goals (with_reducible rfl))))
    simp
  all_goals (simp only [List.length_append, be_len]; omega)
theorem c_encF {h : List Ch} {K : KT} {x y z : Int} {args : List Int} {data : List UInt8} {a d : AV} (H : K (.tup [.lit (.slice none 0 0), .int .i64 1]) h) (b1 : brA [] h (.ro .int args) a) (b2 : brA [] h (.ro .byte data) d) (e1 : validC ⟨x, y, z, args, data⟩ = false) (s1 : args.length ≤ 1099511627776) : Does Try.prog 38 [.agg [.int .i64 x, .int .i64 y, .int .i64 z, a, d]] h K :=
  frame_pure (b_encF ⟨x, y, z, args, data⟩ s1 e1) (br_cmd b1 b2) (.inr rfl) (fun _ => rfl) H
abbrev i_encF := Ctr.mk (i := 0) (g := 38) @c_encF
attribute [instance] i_encF
theorem c_encT {h : List Ch} {K : KT} {x y z : Int} {args : List Int} {data : List UInt8} {a d : AV} (H : K (.tup [.sl h.length .byte 0 (encC ⟨x, y, z, args, data⟩).length, .int .i64 0]) (h ++ [.rows .byte (encC ⟨x, y, z, args, data⟩)])) (b1 : brA [] h (.ro .int args) a) (b2 : brA [] h (.ro .byte data) d) (e1 : validC ⟨x, y, z, args, data⟩ = true) : Does Try.prog 38 [.agg [.int .i64 x, .int .i64 y, .int .i64 z, a, d]] h K :=
  frame_new (ret' := .tup [.sl h.length .byte 0 (encC ⟨x, y, z, args, data⟩).length, .int .i64 0]) (b_encT ⟨x, y, z, args, data⟩ e1) (br_cmd b1 b2) (.inr rfl) (fun _ => rfl) rfl H
abbrev i_encT := Ctr.mk (i := 1) (g := 38) @c_encT
attribute [instance] i_encT
theorem getD_ext {l m : List Int} (hl : l.length = m.length) (h : ∀ j, j < l.length → l.getD j 0 = m.getD j 0) : l = m := by
  apply List.ext_getElem hl
  intro j h1 h2
  have := h j h1
  rwa [List.getD_eq_getElem?_getD, List.getD_eq_getElem?_getD, List.getElem?_eq_getElem h1, List.getElem?_eq_getElem h2, Option.getD_some, Option.getD_some] at this
theorem b_rsame (c d : Cmd) (hl : c.args.length ≤ 1099511627776) : DoesK Try.prog 0 25 [.agg [.int .i64 c.src, .int .i64 c.num, .int .i64 c.srv, .ro .int c.args, .ro .byte c.data], .agg [.int .i64 d.src, .int .i64 d.num, .int .i64 d.srv, .ro .int d.args, .ro .byte d.data]] [] (EndF 0 (.bool (decide (c = d))) []) := by
  refine DoesK.close ?_
  refine w_body (rs := [.tmp 4]) (tm := [.agg [.int .i64 c.src, .int .i64 c.num, .int .i64 c.srv, .ro .int c.args, .ro .byte c.data], .agg [.int .i64 d.src, .int .i64 d.num, .int .i64 d.srv, .ro .int d.args, .ro .byte d.data], .any, .any, .any, .any, .any, .any, .any, .any, .any, .any, .any, .any, .any, .any, .any, .any, .any, .any, .any, .any, .any, .any, .any, .any, .any, .any, .any, .any, .any, .any, .any, .any, .any, .any, .any, .any, .any, .any, .any, .any, .any, .any, .any, .any, .any, .any, .any, .any, .any, .any, .any, .any, .any, .any, .any, .any, .any, .any, .any]) fn_25 rfl rfl rfl rfl fun R hR => ?_
  (all_goals (try ((first | (with_reducible refine wp_id ?_) | (with_reducible refine does_id ?_) | (with_reducible refine ops_id ?_)); refine walk ?_; (repeat' (first | exact trivial | with_reducible refine And.intro ?_ ?_)); all_goals (repeat (first | (with_reducible refine ImpB.mk fun hb => ?_) | (with_reducible refine ImpK.mk fun hK => ?_) | (with_reducible refine ImpF.mk fun hF => ?_) | (with_reducible refine ImpQ.mk fun hp => ?_) | (with_reducible refine AllE.mk fun p => ?_) | (with_reducible refine AllR.mk fun rest => ?_) | (with_reducible refine AllK.mk fun K => ?_))))); repeat' (with_reducible refine And.intro ?_ ?_))
  any_goals ((try (refine w_seq fun K hK => ?_)); (try (refine w_block ?_)); refine w_loop (A := Nat) (fun k => (∀ j, j < k → c.args.getD j 0 = d.args.getD j 0) ∧ k ≤ c.args.length) (fun k => c.args.length - k) (fun k => [(5, .int .i64 k)]) (fun _ => []) (0) (ws := ?ws2) (tk := ?tk2) ?hw2 ?ht2 ?hi ?h0 ?LH2; (case hw2 => simp only [go_sem, decide_true, decide_false, Int.reduceToNat, Nat.min_eq_left, Nat.min_eq_right, Int.reducePow, Nat.reducePow, Int.reduceLE, Int.reduceLT, Int.reduceMul, Int.reduceAdd, Int.reduceSub, Int.reduceNeg, Bool.not_true, Bool.not_false, Bool.not_not, ↓reduceIte, Nat.reduceAdd, Nat.reduceSub, Nat.reduceMul, Nat.reduceEqDiff, reduceCtorEq, Nat.reduceLT, Nat.reduceLeDiff, Nat.reduceGT]; exact rfl); (case ht2 => simp only [go_sem, decide_true, decide_false, Int.reduceToNat, Nat.min_eq_left, Nat.min_eq_right, Int.reducePow, Nat.reducePow, Int.reduceLE, Int.reduceLT, Int.reduceMul, Int.reduceAdd, Int.reduceSub, Int.reduceNeg, Bool.not_true, Bool.not_false, Bool.not_not, ↓reduceIte, Nat.reduceAdd, Nat.reduceSub, Nat.reduceMul, Nat.reduceEqDiff, reduceCtorEq, Nat.reduceLT, Nat.reduceLeDiff, Nat.reduceGT]; exact rfl); (case' LH2 => rintro k E t hx hE ht; simp only [go_sem] at ht; subst ht; simp only [go_sem]; try dsimp only at hx))
  (all_goals (try ((first | (with_reducible refine wp_id ?_) | (with_reducible refine does_id ?_) | (with_reducible refine ops_id ?_)); refine walk ?_; (repeat' (first | exact trivial | with_reducible refine And.intro ?_ ?_)); all_goals (repeat (first | (with_reducible refine ImpB.mk fun hb => ?_) | (with_reducible refine ImpK.mk fun hK => ?_) | (with_reducible refine ImpF.mk fun hF => ?_) | (with_reducible refine ImpQ.mk fun hp => ?_) | (with_reducible refine AllE.mk fun p => ?_) | (with_reducible refine AllR.mk fun rest => ?_) | (with_reducible refine AllK.mk fun K => ?_))))); repeat' (with_reducible refine And.intro ?_ ?_))
  (all_goals (repeat (first | (clear hK; clear K) | (clear hE; clear E) | (clear hF; clear F) | (clear hR; clear R))); all_goals (try simp only [decide_eq_true_eq, decide_eq_false_iff_not, Bool.not_eq_true', Bool.not_eq_false', Bool.not_eq_true, Bool.not_eq_false, decide_not, decide_true, decide_false, Bool.decide_and, Bool.and_eq_true, Bool.or_eq_true, Bool.and_eq_false_imp, Decidable.not_not] at *); all_goals (try omega); all_goals (try (first | exact u8w_lo _ | exact u8w_hi _ | exact (bits8 _ _ _).1 | exact (bits8 _ _ _).2 | exact Int.natCast_nonneg _ | exact u8_ltI _)))
  all_goals try (rw [show decide (c = d) = false from by rw [decide_eq_false_iff_not]; intro e; subst e; first | omega | (simp_all; done)]; (focus (refine ⟨_, _, Gh.refl, [], rfl, ?_⟩; (refine fitq ?_ ?_ ?_ <;> try exact trivial); (try any_goals (refine ⟨?_, ?_⟩)); (try any_goals (with_reducible rfl)))); done)
  · refine ⟨k + 1, ⟨⟨fun j hj => ?_, by first | omega | (dsimp only; omega)⟩, by first | omega | (dsimp only; omega)⟩, ?_⟩
    · by_cases hjk : j = k
      · subst hjk; assumption
      · exact hx.1 j (by omega)
    (focus (refine ⟨_, _, Gh.refl, [0, 1], rfl, ?_⟩; (refine fitq ?_ ?_ ?_ <;> try exact trivial); (try any_goals (refine ⟨?_, ?_⟩)); (try any_goals (with_reducible rfl))))
    all_goals (first | with_reducible rfl | omega | ((simp (disch := omega) only [wrap_i64]); first | done | omega) | (simp only [List.append_assoc, List.cons_append, List.nil_append]; done))
  · rw [show decide (c = d) = true from by
      rw [decide_eq_true_iff]
      obtain ⟨c1, c2, c3, c4, c5⟩ := c
      obtain ⟨d1, d2, d3, d4, d5⟩ := d
      have he := getD_ext (l := c4) (m := d4) (by dsimp only at *; omega) (fun j hj => hx.1 j (by dsimp only at *; omega))
      simp_all]
    (focus (refine ⟨_, _, Gh.refl, [], rfl, ?_⟩; (refine fitq ?_ ?_ ?_ <;> try exact trivial); (try any_goals (refine ⟨?_, ?_⟩)); (try any_goals (with_reducible rfl))))
  · (focus (refine ⟨_, _, Gh.refl, [0, 1], rfl, ?_⟩; (refine fitq ?_ ?_ ?_ <;> try exact trivial); (try any_goals (refine ⟨?_, ?_⟩)); (try any_goals (with_reducible rfl))))
theorem c_rsame {h : List Ch} {K : KT} {x y z x' y' z' : Int} {args args' : List Int} {data data' : List UInt8} {a d a' d' : AV} (H : K (.bool (decide ((⟨x, y, z, args, data⟩ : Cmd) = ⟨x', y', z', args', data'⟩))) h) (b1 : brA [] h (.ro .int args) a) (b2 : brA [] h (.ro .byte data) d) (b3 : brA [] h (.ro .int args') a') (b4 : brA [] h (.ro .byte data') d') (s1 : args.length ≤ 1099511627776) : Does Try.prog 25 [.agg [.int .i64 x, .int .i64 y, .int .i64 z, a, d], .agg [.int .i64 x', .int .i64 y', .int .i64 z', a', d']] h K :=
  frame_pure (b_rsame ⟨x, y, z, args, data⟩ ⟨x', y', z', args', data'⟩ s1) (br_cons (br_agg (br_cons br_int (br_cons br_int (br_cons br_int (br_cons b1 (br_cons b2 br_nil)))))) (br_cons (br_agg (br_cons br_int (br_cons br_int (br_cons br_int (br_cons b3 (br_cons b4 br_nil)))))) br_nil)) (.inr rfl) (fun _ => rfl) H
abbrev i_rsame := Ctr.mk (i := 0) (g := 25) @c_rsame
attribute [instance] i_rsame
end Go.V

set_option maxRecDepth 100000
set_option maxHeartbeats 1000000
namespace Go.V
open Go.Proofs
/-- the reference encodes data where there are any -/
def rencC (c : Cmd) : List UInt8 := be c.src.toNat 1 ++ be c.num.toNat 2 ++ be c.srv.toNat 1 ++ c.args.flatMap encI ++ (if 0 < c.data.length then encI c.data.length ++ c.data else [])
theorem rencC_eq {c : Cmd} (h : validC c = true) : rencC c = encC c := by
  have h8 := ((validC_iff c).1 h).2.2.2.2.2.2.2
  unfold rencC encC
  split at h8
  · rw [if_pos (by omega), if_pos (by assumption)]
  · rw [if_neg (by omega), if_neg (by assumption)]
theorem take_be (n s : Nat) : (be n s).take s = be n s := List.take_of_length_le (by rw [be_len]; exact Nat.le_refl _)
theorem b_renc (c : Cmd) (hv : validC c = true) : DoesK Try.prog 0 67 [.agg [.int .i64 c.src, .int .i64 c.num, .int .i64 c.srv, .ro .int c.args, .ro .byte c.data]] [] (EndF 0 (.sl 0 .byte 0 (encC c).length) [.rows .byte (encC c)]) := by
  refine DoesK.close ?_
  rw [← rencC_eq hv]
  obtain ⟨h1, h2, h3, h4, h5, h6, h7, h8⟩ := (validC_iff c).1 hv
  rw [okS_iff] at h1
  have w1 : IntKind.u64.wrap c.src = (c.src.toNat : Int) := by rw [wrap_u64]; omega
  have w2 : IntKind.u64.wrap c.num = (c.num.toNat : Int) := by rw [wrap_u64]; omega
  have w3 : IntKind.u8.wrap c.srv = (c.srv.toNat : Int) := by rw [wrap_u8]; omega
  have ha3 := arg0_le c.srv
  have hlen : ∀ k, ((c.args.take k).flatMap encI).length ≤ 30 := fun k => by
    have h9 := encs_len (c.args.take k) fun a ha => h7 a (List.mem_of_mem_take ha)
    have h10 : (c.args.take k).length ≤ c.args.length := by rw [List.length_take]; omega
    omega
  have hi : ∀ k, I64 (c.args.getD k 0) := fun k => by
    rw [List.getD_eq_getElem?_getD]
    cases e : c.args[k]? with
    | none => constructor <;> decide
    | some x =>
      have := h7 x (List.mem_of_getElem? e)
      rw [Option.getD_some]
      constructor <;> omega
  have hl : c.args.length ≤ 1099511627776 := by omega
  have hd : c.data.length ≤ 512 := by split at h8 <;> omega
  have hel := encI_le c.data.length (by constructor <;> omega)
  refine w_body (rs := [.tmp 2]) (tm := [.agg [.int .i64 c.src, .int .i64 c.num, .int .i64 c.srv, .ro .int c.args, .ro .byte c.data], .any, .any, .any, .any, .any, .any, .any, .any, .any, .any, .any, .any, .any, .any, .any, .any, .any, .any, .any, .any, .any, .any, .any, .any, .any, .any, .any, .any, .any, .any, .any, .any, .any, .any, .any, .any, .any, .any, .any, .any, .any, .any, .any, .any]) fn_67 rfl rfl rfl rfl fun R hR => ?_
  (have zx1 := @w1; have zx2 := @w2; have zx3 := @w3; have zx4 := @be_len; have zx5 := @take_be; all_goals (try ((first | (with_reducible refine wp_id ?_) | (with_reducible refine does_id ?_) | (with_reducible refine ops_id ?_)); refine walk ?_; (repeat' (first | exact trivial | with_reducible refine And.intro ?_ ?_)); all_goals (repeat (first | (with_reducible refine ImpB.mk fun hb => ?_) | (with_reducible refine ImpK.mk fun hK => ?_) | (with_reducible refine ImpF.mk fun hF => ?_) | (with_reducible refine ImpQ.mk fun hp => ?_) | (with_reducible refine AllE.mk fun p => ?_) | (with_reducible refine AllR.mk fun rest => ?_) | (with_reducible refine AllK.mk fun K => ?_))))); repeat' (with_reducible refine And.intro ?_ ?_))
  any_goals ((try (refine w_seq fun K hK => ?_)); (try (refine w_block ?_)); refine w_loop (A := Nat) (fun k => k ≤ c.args.length) (fun k => c.args.length - k) (fun k => [(19, .any), (4, .int .i64 k), (3, .sl 5 .byte 0 (4 + ((c.args.take k).flatMap encI).length))]) (fun k => [(5, .rows .byte (be c.src.toNat 1 ++ be c.num.toNat 2 ++ be c.srv.toNat 1 ++ (c.args.take k).flatMap encI))]) (0) (ws := ?ws1) (tk := ?tk1) ?hw1 ?ht1 ?hi ?h0 ?LH1; (case hw1 => simp only [go_sem, decide_true, decide_false, Int.reduceToNat, Nat.min_eq_left, Nat.min_eq_right, Int.reducePow, Nat.reducePow, Int.reduceLE, Int.reduceLT, Int.reduceMul, Int.reduceAdd, Int.reduceSub, Int.reduceNeg, Bool.not_true, Bool.not_false, Bool.not_not, ↓reduceIte, Nat.reduceAdd, Nat.reduceSub, Nat.reduceMul, Nat.reduceEqDiff, reduceCtorEq, Nat.reduceLT, Nat.reduceLeDiff, Nat.reduceGT]; exact rfl); (case ht1 => simp only [go_sem, decide_true, decide_false, Int.reduceToNat, Nat.min_eq_left, Nat.min_eq_right, Int.reducePow, Nat.reducePow, Int.reduceLE, Int.reduceLT, Int.reduceMul, Int.reduceAdd, Int.reduceSub, Int.reduceNeg, Bool.not_true, Bool.not_false, Bool.not_not, ↓reduceIte, Nat.reduceAdd, Nat.reduceSub, Nat.reduceMul, Nat.reduceEqDiff, reduceCtorEq, Nat.reduceLT, Nat.reduceLeDiff, Nat.reduceGT]; exact rfl); (case' LH1 => rintro k E t hx hE ht; simp only [go_sem] at ht; subst ht; simp only [go_sem]; try dsimp only at hx))
  (have zx1 := @hi; have zx2 := @be_len; all_goals (try ((first | (with_reducible refine wp_id ?_) | (with_reducible refine does_id ?_) | (with_reducible refine ops_id ?_)); refine walk ?_; (repeat' (first | exact trivial | with_reducible refine And.intro ?_ ?_)); all_goals (repeat (first | (with_reducible refine ImpB.mk fun hb => ?_) | (with_reducible refine ImpK.mk fun hK => ?_) | (with_reducible refine ImpF.mk fun hF => ?_) | (with_reducible refine ImpQ.mk fun hp => ?_) | (with_reducible refine AllE.mk fun p => ?_) | (with_reducible refine AllR.mk fun rest => ?_) | (with_reducible refine AllK.mk fun K => ?_))))); repeat' (with_reducible refine And.intro ?_ ?_))
  (all_goals (repeat (first | (clear hK; clear K) | (clear hE; clear E) | (clear hF; clear F) | (clear hR; clear R))); all_goals (try simp only [decide_eq_true_eq, decide_eq_false_iff_not, Bool.not_eq_true', Bool.not_eq_false', Bool.not_eq_true, Bool.not_eq_false, decide_not, decide_true, decide_false, Bool.decide_and, Bool.and_eq_true, Bool.or_eq_true, Bool.and_eq_false_imp, Decidable.not_not] at *); all_goals (try omega); all_goals (try (first | exact u8w_lo _ | exact u8w_hi _ | exact (bits8 _ _ _).1 | exact (bits8 _ _ _).2 | exact Int.natCast_nonneg _ | exact u8_ltI _)))
  all_goals first
    | exact hi k
    | (have h11 := hlen k; have h12 := encI_le _ (hi k); (try simp only [List.length_append, be_len]); omega)
    | skip
  · refine ⟨k + 1, ⟨by first | omega | (dsimp only; omega), by first | omega | (dsimp only; omega)⟩, ?_⟩
    have hk : k < c.args.length := by omega
    have e : (c.args.take (k + 1)).flatMap encI = (c.args.take k).flatMap encI ++ encI (c.args.getD k 0) := by
      rw [List.take_succ_eq_append_getElem hk, List.flatMap_append, List.getD_eq_getElem?_getD, List.getElem?_eq_getElem hk]
      simp
    (focus (refine ⟨_, _, Gh.refl, [0, 1, 2, 3, 4, 7], rfl, ?_⟩; (refine fitq ?_ ?_ ?_ <;> try exact trivial); (try any_goals (refine ⟨?_, ?_⟩)); (try any_goals (with_reducible rfl))))
    all_goals first | rw [e] | skip
    all_goals first | (first | with_reducible rfl | omega | ((simp (disch := omega) only [wrap_i64]); first | done | omega) | (simp only [List.append_assoc, List.cons_append, List.nil_append]; done)) | (simp only [List.length_append]; omega) | (simp only [List.append_assoc]; done) | skip
  · have hk : c.args.take k = c.args := List.take_of_length_le (by omega)
    rw [hk, rencC, if_pos (by omega)]
    (focus (refine ⟨_, _, Gh.refl, [7], rfl, ?_⟩; (refine fitq ?_ ?_ ?_ <;> try exact trivial); (try any_goals (refine ⟨?_, ?_⟩)); (try any_goals (with_reducible rfl))))
    all_goals first | (simp [List.append_assoc, be_len, Nat.add_assoc]; done) | (rw [List.take_of_length_le (by simp)])
  · have hk : c.args.take k = c.args := List.take_of_length_le (by omega)
    rw [hk, rencC, if_neg (by omega), List.append_nil]
    (focus (refine ⟨_, _, Gh.refl, [5], rfl, ?_⟩; (refine fitq ?_ ?_ ?_ <;> try exact trivial); (try any_goals (refine ⟨?_, ?_⟩)); (try any_goals (with_reducible rfl))))
    all_goals simp [List.append_assoc, be_len, Nat.add_assoc]
  · (focus (refine ⟨_, _, Gh.refl, [0, 1, 2, 3, 4, 5], rfl, ?_⟩; (refine fitq ?_ ?_ ?_ <;> try exact trivial); (try any_goals (refine ⟨?_, ?_⟩)); (try any_goals (with_reducible rfl))))
    all_goals first | (simp; done) | (simp [be]; rw [Nat.mod_eq_of_lt (by omega)])
theorem c_renc {h : List Ch} {K : KT} {x y z : Int} {args : List Int} {data : List UInt8} {a d : AV} (H : K (.sl h.length .byte 0 (encC ⟨x, y, z, args, data⟩).length) (h ++ [.rows .byte (encC ⟨x, y, z, args, data⟩)])) (b1 : brA [] h (.ro .int args) a) (b2 : brA [] h (.ro .byte data) d) (e1 : validC ⟨x, y, z, args, data⟩ = true) : Does Try.prog 67 [.agg [.int .i64 x, .int .i64 y, .int .i64 z, a, d]] h K :=
  frame_new (ret' := .sl h.length .byte 0 (encC ⟨x, y, z, args, data⟩).length) (b_renc ⟨x, y, z, args, data⟩ e1) (br_cmd b1 b2) (.inr rfl) (fun _ => rfl) rfl H
abbrev i_renc := Ctr.mk (i := 0) (g := 67) @c_renc
attribute [instance] i_renc
end Go.V

set_option maxRecDepth 100000
set_option maxHeartbeats 1000000
namespace Go.V
open Go.Proofs
attribute [-go_sem] Wr
theorem b_beq (a b : List UInt8) : DoesK Try.prog 0 48 [.ro .byte a, .ro .byte b] [] (EndF 0 (.bool (decide (a = b))) []) := by
  refine DoesK.close ?_
  refine w_body (rs := [.tmp 4]) (tm := [.ro .byte a, .ro .byte b, .any, .any, .any, .any, .any, .any, .any, .any]) fn_48 rfl rfl rfl rfl fun R hR => ?_
  (all_goals (try ((first | (with_reducible refine wp_id ?_) | (with_reducible refine does_id ?_) | (with_reducible refine ops_id ?_)); refine walk ?_; (repeat' (first | exact trivial | with_reducible refine And.intro ?_ ?_)); all_goals (repeat (first | (with_reducible refine ImpB.mk fun hb => ?_) | (with_reducible refine ImpK.mk fun hK => ?_) | (with_reducible refine ImpF.mk fun hF => ?_) | (with_reducible refine ImpQ.mk fun hp => ?_) | (with_reducible refine AllE.mk fun p => ?_) | (with_reducible refine AllR.mk fun rest => ?_) | (with_reducible refine AllK.mk fun K => ?_))))); repeat' (with_reducible refine And.intro ?_ ?_))
  (all_goals (repeat (first | (clear hK; clear K) | (clear hE; clear E) | (clear hF; clear F) | (clear hR; clear R))); all_goals (try simp only [decide_eq_true_eq, decide_eq_false_iff_not, Bool.not_eq_true', Bool.not_eq_false', Bool.not_eq_true, Bool.not_eq_false, decide_not, decide_true, decide_false, Bool.decide_and, Bool.and_eq_true, Bool.or_eq_true, Bool.and_eq_false_imp, Decidable.not_not] at *); all_goals (try omega); all_goals (try (first | exact u8w_lo _ | exact u8w_hi _ | exact (bits8 _ _ _).1 | exact (bits8 _ _ _).2 | exact Int.natCast_nonneg _ | exact u8_ltI _)))
  (focus (refine ⟨_, _, Gh.refl, [], rfl, ?_⟩; (refine fitq ?_ ?_ ?_ <;> try exact trivial); (try any_goals (refine ⟨?_, ?_⟩)); (try any_goals (with_reducible rfl))))
theorem c_beq {h : List Ch} {K : KT} {a b : List UInt8} {a' b' : AV} (H : K (.bool (decide (a = b))) h) (b1 : brA [] h (.ro .byte a) a') (b2 : brA [] h (.ro .byte b) b') : Does Try.prog 48 [a', b'] h K :=
  frame_pure (b_beq a b) (br_cons b1 (br_cons b2 br_nil)) (.inr rfl) (fun _ => rfl) H
abbrev i_beq := Ctr.mk (i := 0) (g := 48) @c_beq
attribute [instance] i_beq
/-- what decoding answers -/
def decA (o : Option Cmd) : AV := match o with
  | some c => .tup [.agg [.int .i64 c.src, .int .i64 c.num, .int .i64 c.srv, .ro .int c.args, .ro .byte c.data], .int .i64 0]
  | none => .tup [.agg [.int .i64 0, .int .i64 0, .int .i64 0, .ro .int [], .ro .byte []], .int .i64 4]
theorem uintR_bd (r : Option (List UInt8)) (s : Nat) : (uintR r s).1 < 256 ^ s := by
  unfold uintR
  split
  · exact Nat.pow_pos (by decide)
  · split
    · rename_i ys h
      have := beval_bd (ys.take s) 0 0 (by decide)
      rwa [Nat.zero_add, List.length_take, Nat.min_eq_left h] at this
    · exact Nat.pow_pos (by decide)
theorem uintR_lenR (r : Option (List UInt8)) (s : Nat) : lenR (uintR r s).2 ≤ lenR r := by
  unfold uintR
  split
  · exact Nat.le_refl _
  · split
    · simp [lenR]
    · simp [lenR]
theorem intsR_lenR (r : Option (List UInt8)) (k : Nat) : lenR (intsR r k).2 ≤ lenR r := by
  induction k with
  | zero => exact Nat.le_refl _
  | succ k ih =>
    have := intR_len (intsR r k).2
    simp only [intsR]
    omega
theorem arg0_ge (s : Int) : 0 ≤ argN s 0 := by
  have k : ∀ x ∈ rowsL, 0 ≤ x.getD 0 0 := by decide
  unfold argN rowL
  split
  · decide
  · rw [List.getD_eq_getElem?_getD (l := rowsL)]
    cases e : rowsL[s.toNat - 1]? with
    | none => decide
    | some x => exact k x (List.mem_of_getElem? e)
attribute [simp] intsR_len
theorem decC_some {b : List UInt8} {c : Cmd} {r : Option (List UInt8)} (h : rdC b = (c, r)) (h1 : r = some []) (h2 : validC c = true) (h3 : encC c = b) : decC b = some c := by
  rw [decC, h]
  exact if_pos ⟨h1, h2, h3⟩
theorem decC_none {b : List UInt8} {c : Cmd} {r : Option (List UInt8)} (h : rdC b = (c, r)) (h1 : ¬ r = some [] ∨ validC c = false ∨ ¬ encC c = b) : decC b = none := by
  rw [decC, h]
  apply if_neg
  rintro ⟨h2, h3, h4⟩
  rcases h1 with h1 | h1 | h1
  · exact h1 h2
  · rw [h3] at h1; cases h1
  · exact h1 h4
theorem b_dec (b : List UInt8) (hb : b.length ≤ 1000000) : DoesK Try.prog 0 72 [.ro .byte b] [] (EndF 0 (decA (decC b)) []) := by
  refine DoesK.close ?_
  have hb0 := uintR_bd (some b) 1
  have hL0 := uintR_lenR (some b) 1
  rcases e0 : uintR (some b) 1 with ⟨n0, r0⟩
  have hb1 := uintR_bd r0 2
  have hL1 := uintR_lenR r0 2
  rcases e1 : uintR r0 2 with ⟨n1, r1⟩
  have hb2 := uintR_bd r1 1
  have hL2 := uintR_lenR r1 1
  rcases e2 : uintR r1 1 with ⟨n2, r2⟩
  rw [e0] at hb0 hL0
  rw [e1] at hb1 hL1
  rw [e2] at hb2 hL2
  have hLb : lenR (some b) = b.length := rfl
  simp only [hLb] at hL0 hL1 hL2
  have w0 : IntKind.i64.wrap (n0 : Int) = n0 := wrap_i64 _ (by omega) (by simp only at hb0; omega)
  have w1 : IntKind.i64.wrap (n1 : Int) = n1 := wrap_i64 _ (by omega) (by simp only at hb1; omega)
  have w2 : IntKind.i64.wrap (n2 : Int) = n2 := wrap_i64 _ (by omega) (by simp only at hb2; omega)
  have ha3 := arg0_le n2
  have ha0 := arg0_ge n2
  refine w_body (rs := [.cell 2 31, .tmp 3]) (tm := [.ro .byte b, .any, .any, .any, .any, .any, .any, .any, .any, .any, .any, .any, .any, .any, .any, .any, .any, .any, .any, .any, .any, .any, .any, .any, .any, .any, .any, .any, .any, .any, .any, .any, .any, .any, .any, .any, .any, .any, .any, .any, .any, .any, .any, .any, .any, .any, .any, .any, .any, .any, .any, .any, .any, .any, .any, .any, .any, .any, .any, .any, .any, .any, .any, .any, .any]) fn_72 rfl rfl rfl rfl fun R hR => ?_
  (have zx1 := @w0; have zx2 := @w1; have zx3 := @w2; all_goals (try ((first | (with_reducible refine wp_id ?_) | (with_reducible refine does_id ?_) | (with_reducible refine ops_id ?_)); refine walk ?_; (repeat' (first | exact trivial | with_reducible refine And.intro ?_ ?_)); all_goals (repeat (first | (with_reducible refine ImpB.mk fun hb => ?_) | (with_reducible refine ImpK.mk fun hK => ?_) | (with_reducible refine ImpF.mk fun hF => ?_) | (with_reducible refine ImpQ.mk fun hp => ?_) | (with_reducible refine AllE.mk fun p => ?_) | (with_reducible refine AllR.mk fun rest => ?_) | (with_reducible refine AllK.mk fun K => ?_))))); repeat' (with_reducible refine And.intro ?_ ?_))
  any_goals refine Wp.ghost (gh_adoptC (t := 2) (i := 3) .int rfl trivial) ?_
  any_goals ((try (refine w_seq fun K hK => ?_)); (try (refine w_block ?_)); refine w_loop (A := Nat) (fun k => k ≤ (argN n2 0).toNat) (fun k => (argN n2 0).toNat - k) (fun k => [(30, .int .i64 k)]) (fun k => [(1, .pack (Rd (intsR r2 k).2)), (2, .cells [.int .i64 n0, .int .i64 n1, .int .i64 n2, .sl 4 .int 0 k, .lit (.slice none 0 0)]), (4, .rows .int (intsR r2 k).1)]) (0) (ws := ?ws1) (tk := ?tk1) ?hw1 ?ht1 ?hi ?h0 ?LH1; (case hw1 => simp only [go_sem, decide_true, decide_false, Int.reduceToNat, Nat.min_eq_left, Nat.min_eq_right, Int.reducePow, Nat.reducePow, Int.reduceLE, Int.reduceLT, Int.reduceMul, Int.reduceAdd, Int.reduceSub, Int.reduceNeg, Bool.not_true, Bool.not_false, Bool.not_not, ↓reduceIte, Nat.reduceAdd, Nat.reduceSub, Nat.reduceMul, Nat.reduceEqDiff, reduceCtorEq, Nat.reduceLT, Nat.reduceLeDiff, Nat.reduceGT]; exact rfl); (case ht1 => simp only [go_sem, decide_true, decide_false, Int.reduceToNat, Nat.min_eq_left, Nat.min_eq_right, Int.reducePow, Nat.reducePow, Int.reduceLE, Int.reduceLT, Int.reduceMul, Int.reduceAdd, Int.reduceSub, Int.reduceNeg, Bool.not_true, Bool.not_false, Bool.not_not, ↓reduceIte, Nat.reduceAdd, Nat.reduceSub, Nat.reduceMul, Nat.reduceEqDiff, reduceCtorEq, Nat.reduceLT, Nat.reduceLeDiff, Nat.reduceGT]; exact rfl); (case' LH1 => rintro k E t hx hE ht; simp only [go_sem] at ht; subst ht; simp only [go_sem]; try dsimp only at hx))
  case LH1 =>
    have hL3 := intsR_lenR r2 k
    have hLr : lenR r2 ≤ 1000000 := by omega
    rcases e3 : intR (intsR r2 k).2 with ⟨n3, r3⟩
    rcases e4 : blobR (intsR r2 k).2 512 with ⟨d, r4⟩
    have eS : intsR r2 (k + 1) = ((intsR r2 k).1 ++ [n3], r3) := by rw [intsR, e3]
    cases hds : (argN (n2 : Int) 1 == 1)
    · have hr : k = (argN (n2 : Int) 0).toNat → rdC b = (⟨n0, n1, n2, (intsR r2 k).1, []⟩, (intsR r2 k).2) := by
        intro hk
        unfold rdC
        simp only [e0, e1, e2, dataS, hds, ← hk]
        rfl
      cases hv : validC ⟨n0, n1, n2, (intsR r2 k).1, []⟩
      · (have zx1 := @w0; have zx2 := @w1; have zx3 := @w2; have zx4 := @hds; have zx5 := @intsR_len; all_goals (try ((first | (with_reducible refine wp_id ?_) | (with_reducible refine does_id ?_) | (with_reducible refine ops_id ?_)); refine walk ?_; (repeat' (first | exact trivial | with_reducible refine And.intro ?_ ?_)); all_goals (repeat (first | (with_reducible refine ImpB.mk fun hb => ?_) | (with_reducible refine ImpK.mk fun hK => ?_) | (with_reducible refine ImpF.mk fun hF => ?_) | (with_reducible refine ImpQ.mk fun hp => ?_) | (with_reducible refine AllE.mk fun p => ?_) | (with_reducible refine AllR.mk fun rest => ?_) | (with_reducible refine AllK.mk fun K => ?_))))); repeat' (with_reducible refine And.intro ?_ ?_))
        (all_goals (repeat (first | (clear hK; clear K) | (clear hE; clear E) | (clear hF; clear F) | (clear hR; clear R))); all_goals (try simp only [decide_eq_true_eq, decide_eq_false_iff_not, Bool.not_eq_true', Bool.not_eq_false', Bool.not_eq_true, Bool.not_eq_false, decide_not, decide_true, decide_false, Bool.decide_and, Bool.and_eq_true, Bool.or_eq_true, Bool.and_eq_false_imp, Decidable.not_not] at *); all_goals (try omega); all_goals (try (first | exact u8w_lo _ | exact u8w_hi _ | exact (bits8 _ _ _).1 | exact (bits8 _ _ _).2 | exact Int.natCast_nonneg _ | exact u8_ltI _)))
        all_goals first | (rw [intsR_len]; omega) | (rw [intsR_len]) | skip
        · refine ⟨k + 1, ⟨by first | omega | (dsimp only; omega), by first | omega | (dsimp only; omega)⟩, ?_⟩
          (focus (refine ⟨_, _, Gh.refl, [0, 1, 2, 3, 6], rfl, ?_⟩; (refine fitq ?_ ?_ ?_ <;> try exact trivial); (try any_goals (refine ⟨?_, ?_⟩)); (try any_goals (with_reducible rfl))))
          all_goals first | (first | with_reducible rfl | omega | ((simp (disch := omega) only [wrap_i64]); first | done | omega) | (simp only [List.append_assoc, List.cons_append, List.nil_append]; done)) | (rw [eS]; done) | (simp only [eS]; done) | (simp only [hds, eS, true_and, and_self]; done) | (simp only [hds, true_and]; (first | with_reducible rfl | omega | ((simp (disch := omega) only [wrap_i64]); first | done | omega) | (simp only [List.append_assoc, List.cons_append, List.nil_append]; done)))
        · rw [decC_none (hr (by omega)) (.inr (.inl hv))]
          simp only [decA]
          (focus (refine ⟨_, _, Gh.refl, [], rfl, ?_⟩; (refine fitq ?_ ?_ ?_ <;> try exact trivial); (try any_goals (refine ⟨?_, ?_⟩)); (try any_goals (with_reducible rfl))))
        · rw [decC_none (hr (by omega)) (.inr (.inl hv))]
          simp only [decA]
          (focus (refine ⟨_, _, Gh.refl, [], rfl, ?_⟩; (refine fitq ?_ ?_ ?_ <;> try exact trivial); (try any_goals (refine ⟨?_, ?_⟩)); (try any_goals (with_reducible rfl))))
      · (have zx1 := @w0; have zx2 := @w1; have zx3 := @w2; have zx4 := @hds; have zx5 := @intsR_len; all_goals (try ((first | (with_reducible refine wp_id ?_) | (with_reducible refine does_id ?_) | (with_reducible refine ops_id ?_)); refine walk ?_; (repeat' (first | exact trivial | with_reducible refine And.intro ?_ ?_)); all_goals (repeat (first | (with_reducible refine ImpB.mk fun hb => ?_) | (with_reducible refine ImpK.mk fun hK => ?_) | (with_reducible refine ImpF.mk fun hF => ?_) | (with_reducible refine ImpQ.mk fun hp => ?_) | (with_reducible refine AllE.mk fun p => ?_) | (with_reducible refine AllR.mk fun rest => ?_) | (with_reducible refine AllK.mk fun K => ?_))))); repeat' (with_reducible refine And.intro ?_ ?_))
        (all_goals (repeat (first | (clear hK; clear K) | (clear hE; clear E) | (clear hF; clear F) | (clear hR; clear R))); all_goals (try simp only [decide_eq_true_eq, decide_eq_false_iff_not, Bool.not_eq_true', Bool.not_eq_false', Bool.not_eq_true, Bool.not_eq_false, decide_not, decide_true, decide_false, Bool.decide_and, Bool.and_eq_true, Bool.or_eq_true, Bool.and_eq_false_imp, Decidable.not_not] at *); all_goals (try omega); all_goals (try (first | exact u8w_lo _ | exact u8w_hi _ | exact (bits8 _ _ _).1 | exact (bits8 _ _ _).2 | exact Int.natCast_nonneg _ | exact u8_ltI _)))
        all_goals first | (rw [intsR_len]; omega) | (rw [intsR_len]) | skip
        · refine ⟨k + 1, ⟨by first | omega | (dsimp only; omega), by first | omega | (dsimp only; omega)⟩, ?_⟩
          (focus (refine ⟨_, _, Gh.refl, [0, 1, 2, 3, 6], rfl, ?_⟩; (refine fitq ?_ ?_ ?_ <;> try exact trivial); (try any_goals (refine ⟨?_, ?_⟩)); (try any_goals (with_reducible rfl))))
          all_goals first | (first | with_reducible rfl | omega | ((simp (disch := omega) only [wrap_i64]); first | done | omega) | (simp only [List.append_assoc, List.cons_append, List.nil_append]; done)) | (rw [eS]; done) | (simp only [eS]; done) | (simp only [hds, eS, true_and, and_self]; done) | (simp only [hds, true_and]; (first | with_reducible rfl | omega | ((simp (disch := omega) only [wrap_i64]); first | done | omega) | (simp only [List.append_assoc, List.cons_append, List.nil_append]; done)))
        · rw [decC_none (hr (by omega)) (.inl (by assumption))]
          simp only [decA]
          (focus (refine ⟨_, _, Gh.refl, [], rfl, ?_⟩; (refine fitq ?_ ?_ ?_ <;> try exact trivial); (try any_goals (refine ⟨?_, ?_⟩)); (try any_goals (with_reducible rfl))))
        · rw [decC_none (hr (by omega)) (.inr (.inr (by assumption)))]
          simp only [decA]
          (focus (refine ⟨_, _, Gh.refl, [], rfl, ?_⟩; (refine fitq ?_ ?_ ?_ <;> try exact trivial); (try any_goals (refine ⟨?_, ?_⟩)); (try any_goals (with_reducible rfl))))
        · rw [decC_some (hr (by omega)) (by assumption) hv (by assumption)]
          simp only [decA]
          refine ⟨_, _, gh_frz (t := 4) (e := .int) (xs := (intsR r2 k).1) rfl ?f1 ?f2, [], rfl, ?ft⟩
          case' ft => (refine fitq ?_ ?_ ?_ <;> try exact trivial)
          case' f1 => simp only [go_sem, decide_true, decide_false, Int.reduceToNat, Nat.min_eq_left, Nat.min_eq_right, Int.reducePow, Nat.reducePow, Int.reduceLE, Int.reduceLT, Int.reduceMul, Int.reduceAdd, Int.reduceSub, Int.reduceNeg, Bool.not_true, Bool.not_false, Bool.not_not, ↓reduceIte, Nat.reduceAdd, Nat.reduceSub, Nat.reduceMul, Nat.reduceEqDiff, reduceCtorEq, Nat.reduceLT, Nat.reduceLeDiff, Nat.reduceGT]
          case' f2 => simp only [go_sem, decide_true, decide_false, Int.reduceToNat, Nat.min_eq_left, Nat.min_eq_right, Int.reducePow, Nat.reducePow, Int.reduceLE, Int.reduceLT, Int.reduceMul, Int.reduceAdd, Int.reduceSub, Int.reduceNeg, Bool.not_true, Bool.not_false, Bool.not_not, ↓reduceIte, Nat.reduceAdd, Nat.reduceSub, Nat.reduceMul, Nat.reduceEqDiff, reduceCtorEq, Nat.reduceLT, Nat.reduceLeDiff, Nat.reduceGT]
          case ft => rw [List.take_of_length_le (by rw [intsR_len]; exact Nat.le_refl _)]
          case f1 => exact Nat.le_of_eq (intsR_len _ _).symm
          case f2 => exact Nat.le_of_eq (intsR_len _ _).symm
    · have hr : k = (argN (n2 : Int) 0).toNat → rdC b = (⟨n0, n1, n2, (intsR r2 k).1, d⟩, r4) := by
        intro hk
        unfold rdC
        simp only [e0, e1, e2, dataS, hds, ← hk, if_true, e4]
      cases hv : validC ⟨n0, n1, n2, (intsR r2 k).1, d⟩
      · (have zx1 := @w0; have zx2 := @w1; have zx3 := @w2; have zx4 := @hds; have zx5 := @intsR_len; all_goals (try ((first | (with_reducible refine wp_id ?_) | (with_reducible refine does_id ?_) | (with_reducible refine ops_id ?_)); refine walk ?_; (repeat' (first | exact trivial | with_reducible refine And.intro ?_ ?_)); all_goals (repeat (first | (with_reducible refine ImpB.mk fun hb => ?_) | (with_reducible refine ImpK.mk fun hK => ?_) | (with_reducible refine ImpF.mk fun hF => ?_) | (with_reducible refine ImpQ.mk fun hp => ?_) | (with_reducible refine AllE.mk fun p => ?_) | (with_reducible refine AllR.mk fun rest => ?_) | (with_reducible refine AllK.mk fun K => ?_))))); repeat' (with_reducible refine And.intro ?_ ?_))
        (all_goals (repeat (first | (clear hK; clear K) | (clear hE; clear E) | (clear hF; clear F) | (clear hR; clear R))); all_goals (try simp only [decide_eq_true_eq, decide_eq_false_iff_not, Bool.not_eq_true', Bool.not_eq_false', Bool.not_eq_true, Bool.not_eq_false, decide_not, decide_true, decide_false, Bool.decide_and, Bool.and_eq_true, Bool.or_eq_true, Bool.and_eq_false_imp, Decidable.not_not] at *); all_goals (try omega); all_goals (try (first | exact u8w_lo _ | exact u8w_hi _ | exact (bits8 _ _ _).1 | exact (bits8 _ _ _).2 | exact Int.natCast_nonneg _ | exact u8_ltI _)))
        all_goals first | (rw [intsR_len]; omega) | (rw [intsR_len]) | skip
        · refine ⟨k + 1, ⟨by first | omega | (dsimp only; omega), by first | omega | (dsimp only; omega)⟩, ?_⟩
          (focus (refine ⟨_, _, Gh.refl, [0, 1, 2, 3, 6], rfl, ?_⟩; (refine fitq ?_ ?_ ?_ <;> try exact trivial); (try any_goals (refine ⟨?_, ?_⟩)); (try any_goals (with_reducible rfl))))
          all_goals first | (first | with_reducible rfl | omega | ((simp (disch := omega) only [wrap_i64]); first | done | omega) | (simp only [List.append_assoc, List.cons_append, List.nil_append]; done)) | (rw [eS]; done) | (simp only [eS]; done) | (simp only [hds, eS, true_and, and_self]; done) | (simp only [hds, true_and]; (first | with_reducible rfl | omega | ((simp (disch := omega) only [wrap_i64]); first | done | omega) | (simp only [List.append_assoc, List.cons_append, List.nil_append]; done)))
        · rw [decC_none (hr (by omega)) (.inr (.inl hv))]
          simp only [decA]
          (focus (refine ⟨_, _, Gh.refl, [], rfl, ?_⟩; (refine fitq ?_ ?_ ?_ <;> try exact trivial); (try any_goals (refine ⟨?_, ?_⟩)); (try any_goals (with_reducible rfl))))
        · rw [decC_none (hr (by omega)) (.inr (.inl hv))]
          simp only [decA]
          (focus (refine ⟨_, _, Gh.refl, [], rfl, ?_⟩; (refine fitq ?_ ?_ ?_ <;> try exact trivial); (try any_goals (refine ⟨?_, ?_⟩)); (try any_goals (with_reducible rfl))))
      · (have zx1 := @w0; have zx2 := @w1; have zx3 := @w2; have zx4 := @hds; have zx5 := @intsR_len; all_goals (try ((first | (with_reducible refine wp_id ?_) | (with_reducible refine does_id ?_) | (with_reducible refine ops_id ?_)); refine walk ?_; (repeat' (first | exact trivial | with_reducible refine And.intro ?_ ?_)); all_goals (repeat (first | (with_reducible refine ImpB.mk fun hb => ?_) | (with_reducible refine ImpK.mk fun hK => ?_) | (with_reducible refine ImpF.mk fun hF => ?_) | (with_reducible refine ImpQ.mk fun hp => ?_) | (with_reducible refine AllE.mk fun p => ?_) | (with_reducible refine AllR.mk fun rest => ?_) | (with_reducible refine AllK.mk fun K => ?_))))); repeat' (with_reducible refine And.intro ?_ ?_))
        (all_goals (repeat (first | (clear hK; clear K) | (clear hE; clear E) | (clear hF; clear F) | (clear hR; clear R))); all_goals (try simp only [decide_eq_true_eq, decide_eq_false_iff_not, Bool.not_eq_true', Bool.not_eq_false', Bool.not_eq_true, Bool.not_eq_false, decide_not, decide_true, decide_false, Bool.decide_and, Bool.and_eq_true, Bool.or_eq_true, Bool.and_eq_false_imp, Decidable.not_not] at *); all_goals (try omega); all_goals (try (first | exact u8w_lo _ | exact u8w_hi _ | exact (bits8 _ _ _).1 | exact (bits8 _ _ _).2 | exact Int.natCast_nonneg _ | exact u8_ltI _)))
        all_goals first | (rw [intsR_len]; omega) | (rw [intsR_len]) | skip
        · refine ⟨k + 1, ⟨by first | omega | (dsimp only; omega), by first | omega | (dsimp only; omega)⟩, ?_⟩
          (focus (refine ⟨_, _, Gh.refl, [0, 1, 2, 3, 6], rfl, ?_⟩; (refine fitq ?_ ?_ ?_ <;> try exact trivial); (try any_goals (refine ⟨?_, ?_⟩)); (try any_goals (with_reducible rfl))))
          all_goals first | (first | with_reducible rfl | omega | ((simp (disch := omega) only [wrap_i64]); first | done | omega) | (simp only [List.append_assoc, List.cons_append, List.nil_append]; done)) | (rw [eS]; done) | (simp only [eS]; done) | (simp only [hds, eS, true_and, and_self]; done) | (simp only [hds, true_and]; (first | with_reducible rfl | omega | ((simp (disch := omega) only [wrap_i64]); first | done | omega) | (simp only [List.append_assoc, List.cons_append, List.nil_append]; done)))
        · rw [decC_none (hr (by omega)) (.inl (by assumption))]
          simp only [decA]
          (focus (refine ⟨_, _, Gh.refl, [], rfl, ?_⟩; (refine fitq ?_ ?_ ?_ <;> try exact trivial); (try any_goals (refine ⟨?_, ?_⟩)); (try any_goals (with_reducible rfl))))
        · rw [decC_none (hr (by omega)) (.inr (.inr (by assumption)))]
          simp only [decA]
          (focus (refine ⟨_, _, Gh.refl, [], rfl, ?_⟩; (refine fitq ?_ ?_ ?_ <;> try exact trivial); (try any_goals (refine ⟨?_, ?_⟩)); (try any_goals (with_reducible rfl))))
        · rw [decC_some (hr (by omega)) (by assumption) hv (by assumption)]
          simp only [decA]
          refine ⟨_, _, gh_frz (t := 4) (e := .int) (xs := (intsR r2 k).1) rfl ?f3 ?f4, [], rfl, ?fu⟩
          case' fu => (refine fitq ?_ ?_ ?_ <;> try exact trivial)
          case' f3 => simp only [go_sem, decide_true, decide_false, Int.reduceToNat, Nat.min_eq_left, Nat.min_eq_right, Int.reducePow, Nat.reducePow, Int.reduceLE, Int.reduceLT, Int.reduceMul, Int.reduceAdd, Int.reduceSub, Int.reduceNeg, Bool.not_true, Bool.not_false, Bool.not_not, ↓reduceIte, Nat.reduceAdd, Nat.reduceSub, Nat.reduceMul, Nat.reduceEqDiff, reduceCtorEq, Nat.reduceLT, Nat.reduceLeDiff, Nat.reduceGT]
          case' f4 => simp only [go_sem, decide_true, decide_false, Int.reduceToNat, Nat.min_eq_left, Nat.min_eq_right, Int.reducePow, Nat.reducePow, Int.reduceLE, Int.reduceLT, Int.reduceMul, Int.reduceAdd, Int.reduceSub, Int.reduceNeg, Bool.not_true, Bool.not_false, Bool.not_not, ↓reduceIte, Nat.reduceAdd, Nat.reduceSub, Nat.reduceMul, Nat.reduceEqDiff, reduceCtorEq, Nat.reduceLT, Nat.reduceLeDiff, Nat.reduceGT]
          case fu => rw [List.take_of_length_le (by rw [intsR_len]; exact Nat.le_refl _)]
          case f3 => exact Nat.le_of_eq (intsR_len _ _).symm
          case f4 => exact Nat.le_of_eq (intsR_len _ _).symm
  · omega
  · (focus (refine ⟨_, _, Gh.refl, [0, 1, 2, 3, 4], rfl, ?_⟩; (refine fitq ?_ ?_ ?_ <;> try exact trivial); (try any_goals (refine ⟨?_, ?_⟩)); (try any_goals (with_reducible rfl))))
    all_goals rfl
theorem c_dec {h : List Ch} {K : KT} {b : List UInt8} {a : AV} (H : K (decA (decC b)) h) (q1 : isRO .byte b a) (s1 : b.length ≤ 1000000) : Does Try.prog 72 [a] h K :=
  frame_pure (b_dec b s1) (br_cons q1.br br_nil) (.inl (by rw [brTL, q1.brT]; rfl)) (fun _ => by unfold decA; cases decC b <;> rfl) H
abbrev i_dec := Ctr.mk (i := 0) (g := 72) @c_dec
attribute [instance] i_dec
end Go.V

set_option maxRecDepth 100000
set_option maxHeartbeats 1000000
namespace Go.V
open Go.Proofs
attribute [local go_sem] decA
end Go.V

set_option maxRecDepth 100000
set_option maxHeartbeats 1000000
namespace Go.V
open Go.Proofs
/-- what the reference's decoding answers -/
def rdecA (o : Option Cmd) : AV := match o with
  | some c => .tup [.agg [.int .i64 c.src, .int .i64 c.num, .int .i64 c.srv, .ro .int c.args, .ro .byte c.data], .bool true]
  | none => .tup [.agg [.int .i64 0, .int .i64 0, .int .i64 0, .ro .int [], .ro .byte []], .bool false]
theorem some_ne {ys : List UInt8} (h : 0 < ys.length) : ¬ some ys = some [] := by
  intro e
  injection e with e
  subst e
  simp at h
theorem rdec_no {b : List UInt8} {c : Cmd} {r : Option (List UInt8)} {h : List Ch} (e : rdC b = (c, r)) (h1 : ¬ r = some [] ∨ validC c = false ∨ ¬ encC c = b) : ∃ v' h2, Gh [.tup [.agg [.int .i64 0, .int .i64 0, .int .i64 0, .lit (.slice none 0 0), .lit (.slice none 0 0)], .bool false]] h [v'] h2 ∧ EndF 0 (rdecA (decC b)) [] v' h2 := by
  rw [decC_none e h1]
  simp only [rdecA]
  (focus (refine ⟨_, _, Gh.refl, [], rfl, ?_⟩; (refine fitq ?_ ?_ ?_ <;> try exact trivial); (try any_goals (refine ⟨?_, ?_⟩)); (try any_goals (with_reducible rfl))))
theorem c_fruint_s {h : List Ch} {K : KT} {t : Nat} {ys : List UInt8} {n : Nat} {r' : Option (List UInt8)} (H : K (.int .u64 n) (h.set t (.pack (Fd r')))) (o : hth h t = .pack [.cells [.ro .byte ys, .bool false]]) (e : uintR (some ys) 1 = (n, r')) : Does Try.prog 77 [.ptr t 0, .int .i64 1] h K :=
  c_fruint (r := some ys) H o e (by decide) (by decide)
abbrev i_fruint_s := Ctr.mk (i := 6) (g := 77) @c_fruint_s
attribute [instance] i_fruint_s
theorem b_rdec (b : List UInt8) (hb : b.length ≤ 1000000) : DoesK Try.prog 0 78 [.ro .byte b] [] (EndF 0 (rdecA (decC b)) []) := by
  refine DoesK.close ?_
  have hb0 := uintR_bd (some b) 1
  have hL0 := uintR_lenR (some b) 1
  rcases e0 : uintR (some b) 1 with ⟨n0, r0⟩
  have hb1 := uintR_bd r0 2
  have hL1 := uintR_lenR r0 2
  rcases e1 : uintR r0 2 with ⟨n1, r1⟩
  have hb2 := uintR_bd r1 1
  have hL2 := uintR_lenR r1 1
  rcases e2 : uintR r1 1 with ⟨n2, r2⟩
  rw [e0] at hb0 hL0
  rw [e1] at hb1 hL1
  rw [e2] at hb2 hL2
  have hLb : lenR (some b) = b.length := rfl
  simp only [hLb] at hL0 hL1 hL2
  have w0 : IntKind.i64.wrap (n0 : Int) = n0 := wrap_i64 _ (by omega) (by simp only at hb0; omega)
  have w1 : IntKind.i64.wrap (n1 : Int) = n1 := wrap_i64 _ (by omega) (by simp only at hb1; omega)
  have w2 : IntKind.i64.wrap (n2 : Int) = n2 := wrap_i64 _ (by omega) (by simp only at hb2; omega)
  have ha3 := arg0_le n2
  have ha0 := arg0_ge n2
  have hfd : FdS b false = Fd (some b) := rfl
  refine w_body (rs := [.cell 2 31, .tmp 3]) (tm := [.ro .byte b, .any, .any, .any, .any, .any, .any, .any, .any, .any, .any, .any, .any, .any, .any, .any, .any, .any, .any, .any, .any, .any, .any, .any, .any, .any, .any, .any, .any, .any, .any, .any, .any, .any, .any, .any, .any, .any, .any, .any, .any, .any, .any, .any, .any, .any, .any, .any, .any, .any, .any, .any, .any, .any, .any, .any, .any, .any, .any, .any, .any, .any, .any, .any, .any, .any, .any, .any, .any, .any, .any]) fn_78 rfl rfl rfl rfl fun R hR => ?_
  (have zx1 := @w0; have zx2 := @w1; have zx3 := @w2; all_goals (try ((first | (with_reducible refine wp_id ?_) | (with_reducible refine does_id ?_) | (with_reducible refine ops_id ?_)); refine walk ?_; (repeat' (first | exact trivial | with_reducible refine And.intro ?_ ?_)); all_goals (repeat (first | (with_reducible refine ImpB.mk fun hb => ?_) | (with_reducible refine ImpK.mk fun hK => ?_) | (with_reducible refine ImpF.mk fun hF => ?_) | (with_reducible refine ImpQ.mk fun hp => ?_) | (with_reducible refine AllE.mk fun p => ?_) | (with_reducible refine AllR.mk fun rest => ?_) | (with_reducible refine AllK.mk fun K => ?_))))); repeat' (with_reducible refine And.intro ?_ ?_))
  any_goals refine Wp.ghost (gh_adoptC (t := 2) (i := 3) .int rfl trivial) ?_
  any_goals ((try (refine w_seq fun K hK => ?_)); (try (refine w_block ?_)); refine w_loop (A := Nat) (fun k => k ≤ (argN n2 0).toNat) (fun k => (argN n2 0).toNat - k) (fun k => [(8, .int .i64 k)]) (fun k => [(1, .pack (Fd (intsR r2 k).2)), (2, .cells [.int .i64 n0, .int .i64 n1, .int .i64 n2, .sl 3 .int 0 k, .lit (.slice none 0 0)]), (3, .rows .int (intsR r2 k).1)]) (0) (ws := ?ws1) (tk := ?tk1) ?hw1 ?ht1 ?hi ?h0 ?LH1; (case hw1 => simp only [go_sem, decide_true, decide_false, Int.reduceToNat, Nat.min_eq_left, Nat.min_eq_right, Int.reducePow, Nat.reducePow, Int.reduceLE, Int.reduceLT, Int.reduceMul, Int.reduceAdd, Int.reduceSub, Int.reduceNeg, Bool.not_true, Bool.not_false, Bool.not_not, ↓reduceIte, Nat.reduceAdd, Nat.reduceSub, Nat.reduceMul, Nat.reduceEqDiff, reduceCtorEq, Nat.reduceLT, Nat.reduceLeDiff, Nat.reduceGT]; exact rfl); (case ht1 => simp only [go_sem, decide_true, decide_false, Int.reduceToNat, Nat.min_eq_left, Nat.min_eq_right, Int.reducePow, Nat.reducePow, Int.reduceLE, Int.reduceLT, Int.reduceMul, Int.reduceAdd, Int.reduceSub, Int.reduceNeg, Bool.not_true, Bool.not_false, Bool.not_not, ↓reduceIte, Nat.reduceAdd, Nat.reduceSub, Nat.reduceMul, Nat.reduceEqDiff, reduceCtorEq, Nat.reduceLT, Nat.reduceLeDiff, Nat.reduceGT]; exact rfl); (case' LH1 => rintro k E t hx hE ht; simp only [go_sem] at ht; subst ht; simp only [go_sem]; try dsimp only at hx))
  case LH1 =>
    have hL3 := intsR_lenR r2 k
    have hLr : lenR r2 ≤ 1000000 := by omega
    by_cases hk : k < (argN (n2 : Int) 0).toNat
    · rcases e3 : intR (intsR r2 k).2 with ⟨n3, r3⟩
      have eS : intsR r2 (k + 1) = ((intsR r2 k).1 ++ [n3], r3) := by rw [intsR, e3]
      have hkk : (k : Int) < argN (n2 : Int) 0 := by omega
      have hkd : decide ((k : Int) < argN (n2 : Int) 0) = true := decide_eq_true hkk
      (have zx1 := @w0; have zx2 := @w1; have zx3 := @w2; have zx4 := @hkd; have zx5 := @intsR_len; all_goals (try ((first | (with_reducible refine wp_id ?_) | (with_reducible refine does_id ?_) | (with_reducible refine ops_id ?_)); refine walk ?_; (repeat' (first | exact trivial | with_reducible refine And.intro ?_ ?_)); all_goals (repeat (first | (with_reducible refine ImpB.mk fun hb => ?_) | (with_reducible refine ImpK.mk fun hK => ?_) | (with_reducible refine ImpF.mk fun hF => ?_) | (with_reducible refine ImpQ.mk fun hp => ?_) | (with_reducible refine AllE.mk fun p => ?_) | (with_reducible refine AllR.mk fun rest => ?_) | (with_reducible refine AllK.mk fun K => ?_))))); repeat' (with_reducible refine And.intro ?_ ?_))
      (all_goals (repeat (first | (clear hK; clear K) | (clear hE; clear E) | (clear hF; clear F) | (clear hR; clear R))); all_goals (try simp only [decide_eq_true_eq, decide_eq_false_iff_not, Bool.not_eq_true', Bool.not_eq_false', Bool.not_eq_true, Bool.not_eq_false, decide_not, decide_true, decide_false, Bool.decide_and, Bool.and_eq_true, Bool.or_eq_true, Bool.and_eq_false_imp, Decidable.not_not] at *); all_goals (try omega); all_goals (try (first | exact u8w_lo _ | exact u8w_hi _ | exact (bits8 _ _ _).1 | exact (bits8 _ _ _).2 | exact Int.natCast_nonneg _ | exact u8_ltI _)))
      all_goals first | (rw [intsR_len]; omega) | (rw [intsR_len]) | skip
      refine ⟨k + 1, ⟨by first | omega | (dsimp only; omega), by first | omega | (dsimp only; omega)⟩, ?_⟩
      (focus (refine ⟨_, _, Gh.refl, [0, 1, 2, 5], rfl, ?_⟩; (refine fitq ?_ ?_ ?_ <;> try exact trivial); (try any_goals (refine ⟨?_, ?_⟩)); (try any_goals (with_reducible rfl))))
      all_goals first | (first | with_reducible rfl | omega | ((simp (disch := omega) only [wrap_i64]); first | done | omega) | (simp only [List.append_assoc, List.cons_append, List.nil_append]; done)) | (rw [eS]; done) | (simp only [eS]; done) | (simp only [eS, true_and, and_self]; done)
    · have hkd : decide ((k : Int) < argN (n2 : Int) 0) = false := decide_eq_false (by omega)
      have hke : k = (argN (n2 : Int) 0).toNat := by omega
      have hil := intsR_len r2 k
      have hrd : rdC b = if dataS n2 = true then (⟨n0, n1, n2, (intsR r2 k).1, (blobR (intsR r2 k).2 512).1⟩, (blobR (intsR r2 k).2 512).2) else (⟨n0, n1, n2, (intsR r2 k).1, []⟩, (intsR r2 k).2) := by
        unfold rdC
        simp only [e0, e1, e2, ← hke]
        split <;> rfl
      rcases e3 : intsR r2 k with ⟨az, r3⟩
      rw [e3] at hrd hil hL3
      replace hil : az.length = k := hil
      have hil' : az.length ≤ 1099511627776 := by omega
      have hL4 : lenR r3 ≤ 1099511627776 := by simp only at hL3; omega
      clear ha3 ha0 hL3
      rcases e4 : blobR r3 512 with ⟨d, r4⟩
      simp only [e4] at hrd
      cases hds : (argN (n2 : Int) 1 == 1)
      · rw [if_neg (by rw [dataS, hds]; simp)] at hrd
        cases hv : validC ⟨n0, n1, n2, az, []⟩
        all_goals rcases r3 with _ | ys
        all_goals
          (have zx1 := @w0; have zx2 := @w1; have zx3 := @w2; have zx4 := @hkd; have zx5 := @hds; have zx6 := @hv; have zx7 := @Fd_some; have zx8 := @Fd_none; all_goals (try ((first | (with_reducible refine wp_id ?_) | (with_reducible refine does_id ?_) | (with_reducible refine ops_id ?_)); refine walk ?_; (repeat' (first | exact trivial | with_reducible refine And.intro ?_ ?_)); all_goals (repeat (first | (with_reducible refine ImpB.mk fun hb => ?_) | (with_reducible refine ImpK.mk fun hK => ?_) | (with_reducible refine ImpF.mk fun hF => ?_) | (with_reducible refine ImpQ.mk fun hp => ?_) | (with_reducible refine AllE.mk fun p => ?_) | (with_reducible refine AllR.mk fun rest => ?_) | (with_reducible refine AllK.mk fun K => ?_))))); repeat' (with_reducible refine And.intro ?_ ?_))
        (all_goals (repeat (first | (clear hK; clear K) | (clear hE; clear E) | (clear hF; clear F) | (clear hR; clear R))); all_goals (try simp only [decide_eq_true_eq, decide_eq_false_iff_not, Bool.not_eq_true', Bool.not_eq_false', Bool.not_eq_true, Bool.not_eq_false, decide_not, decide_true, decide_false, Bool.decide_and, Bool.and_eq_true, Bool.or_eq_true, Bool.and_eq_false_imp, Decidable.not_not] at *); all_goals (try omega); all_goals (try (first | exact u8w_lo _ | exact u8w_hi _ | exact (bits8 _ _ _).1 | exact (bits8 _ _ _).2 | exact Int.natCast_nonneg _ | exact u8_ltI _)))
        · exact rdec_no hrd (.inl (by simp))
        · exact rdec_no hrd (.inl (some_ne (by omega)))
        · exact rdec_no hrd (.inr (.inl hv))
        · exact rdec_no hrd (.inl (by simp))
        · exact rdec_no hrd (.inl (some_ne (by omega)))
        · exact rdec_no hrd (.inr (.inr (by assumption)))
        · rw [decC_some hrd (by rw [List.eq_nil_of_length_eq_zero (l := ys) (by omega)]) hv (by assumption)]
          simp only [rdecA]
          refine ⟨_, _, gh_frz (t := 3) (e := .int) (xs := az) rfl ?f1 ?f1b, [], rfl, ?f1c⟩
          case' f1c => (refine fitq ?_ ?_ ?_ <;> try exact trivial)
          case' f1 => simp only [go_sem, decide_true, decide_false, Int.reduceToNat, Nat.min_eq_left, Nat.min_eq_right, Int.reducePow, Nat.reducePow, Int.reduceLE, Int.reduceLT, Int.reduceMul, Int.reduceAdd, Int.reduceSub, Int.reduceNeg, Bool.not_true, Bool.not_false, Bool.not_not, ↓reduceIte, Nat.reduceAdd, Nat.reduceSub, Nat.reduceMul, Nat.reduceEqDiff, reduceCtorEq, Nat.reduceLT, Nat.reduceLeDiff, Nat.reduceGT]
          case' f1b => simp only [go_sem, decide_true, decide_false, Int.reduceToNat, Nat.min_eq_left, Nat.min_eq_right, Int.reducePow, Nat.reducePow, Int.reduceLE, Int.reduceLT, Int.reduceMul, Int.reduceAdd, Int.reduceSub, Int.reduceNeg, Bool.not_true, Bool.not_false, Bool.not_not, ↓reduceIte, Nat.reduceAdd, Nat.reduceSub, Nat.reduceMul, Nat.reduceEqDiff, reduceCtorEq, Nat.reduceLT, Nat.reduceLeDiff, Nat.reduceGT]
          all_goals first | omega | rw [List.take_of_length_le (by omega)]
      · rw [if_pos (by rw [dataS, hds])] at hrd
        cases hv : validC ⟨n0, n1, n2, az, d⟩
        all_goals rcases r4 with _ | ys
        all_goals
          (have zx1 := @w0; have zx2 := @w1; have zx3 := @w2; have zx4 := @hkd; have zx5 := @hds; have zx6 := @hv; have zx7 := @Fd_some; have zx8 := @Fd_none; all_goals (try ((first | (with_reducible refine wp_id ?_) | (with_reducible refine does_id ?_) | (with_reducible refine ops_id ?_)); refine walk ?_; (repeat' (first | exact trivial | with_reducible refine And.intro ?_ ?_)); all_goals (repeat (first | (with_reducible refine ImpB.mk fun hb => ?_) | (with_reducible refine ImpK.mk fun hK => ?_) | (with_reducible refine ImpF.mk fun hF => ?_) | (with_reducible refine ImpQ.mk fun hp => ?_) | (with_reducible refine AllE.mk fun p => ?_) | (with_reducible refine AllR.mk fun rest => ?_) | (with_reducible refine AllK.mk fun K => ?_))))); repeat' (with_reducible refine And.intro ?_ ?_))
        (all_goals (repeat (first | (clear hK; clear K) | (clear hE; clear E) | (clear hF; clear F) | (clear hR; clear R))); all_goals (try simp only [decide_eq_true_eq, decide_eq_false_iff_not, Bool.not_eq_true', Bool.not_eq_false', Bool.not_eq_true, Bool.not_eq_false, decide_not, decide_true, decide_false, Bool.decide_and, Bool.and_eq_true, Bool.or_eq_true, Bool.and_eq_false_imp, Decidable.not_not] at *); all_goals (try omega); all_goals (try (first | exact u8w_lo _ | exact u8w_hi _ | exact (bits8 _ _ _).1 | exact (bits8 _ _ _).2 | exact Int.natCast_nonneg _ | exact u8_ltI _)))
        · exact rdec_no hrd (.inl (by simp))
        · exact rdec_no hrd (.inl (some_ne (by omega)))
        · exact rdec_no hrd (.inr (.inl hv))
        · exact rdec_no hrd (.inl (by simp))
        · exact rdec_no hrd (.inl (some_ne (by omega)))
        · exact rdec_no hrd (.inr (.inr (by assumption)))
        · rw [decC_some hrd (by rw [List.eq_nil_of_length_eq_zero (l := ys) (by omega)]) hv (by assumption)]
          simp only [rdecA]
          refine ⟨_, _, gh_frz (t := 3) (e := .int) (xs := az) rfl ?f2 ?f2b, [], rfl, ?f2c⟩
          case' f2c => (refine fitq ?_ ?_ ?_ <;> try exact trivial)
          case' f2 => simp only [go_sem, decide_true, decide_false, Int.reduceToNat, Nat.min_eq_left, Nat.min_eq_right, Int.reducePow, Nat.reducePow, Int.reduceLE, Int.reduceLT, Int.reduceMul, Int.reduceAdd, Int.reduceSub, Int.reduceNeg, Bool.not_true, Bool.not_false, Bool.not_not, ↓reduceIte, Nat.reduceAdd, Nat.reduceSub, Nat.reduceMul, Nat.reduceEqDiff, reduceCtorEq, Nat.reduceLT, Nat.reduceLeDiff, Nat.reduceGT]
          case' f2b => simp only [go_sem, decide_true, decide_false, Int.reduceToNat, Nat.min_eq_left, Nat.min_eq_right, Int.reducePow, Nat.reducePow, Int.reduceLE, Int.reduceLT, Int.reduceMul, Int.reduceAdd, Int.reduceSub, Int.reduceNeg, Bool.not_true, Bool.not_false, Bool.not_not, ↓reduceIte, Nat.reduceAdd, Nat.reduceSub, Nat.reduceMul, Nat.reduceEqDiff, reduceCtorEq, Nat.reduceLT, Nat.reduceLeDiff, Nat.reduceGT]
          all_goals first | omega | rw [List.take_of_length_le (by omega)]
  · omega
  · (focus (refine ⟨_, _, Gh.refl, [0, 1, 2, 3], rfl, ?_⟩; (refine fitq ?_ ?_ ?_ <;> try exact trivial); (try any_goals (refine ⟨?_, ?_⟩)); (try any_goals (with_reducible rfl))))
    all_goals rfl
theorem c_rdec {h : List Ch} {K : KT} {b : List UInt8} {a : AV} (H : K (rdecA (decC b)) h) (q1 : isRO .byte b a) (s1 : b.length ≤ 1000000) : Does Try.prog 78 [a] h K :=
  frame_pure (b_rdec b s1) (br_cons q1.br br_nil) (.inl (by rw [brTL, q1.brT]; rfl)) (fun _ => by unfold rdecA; cases decC b <;> rfl) H
abbrev i_rdec := Ctr.mk (i := 0) (g := 78) @c_rdec
attribute [instance] i_rdec
end Go.V

set_option maxRecDepth 100000
set_option maxHeartbeats 1000000
namespace Go.V
open Go.Proofs
abbrev cmdL (x : Cmd) : List AV := [.int .i64 x.src, .int .i64 x.num, .int .i64 x.srv, .ro .int x.args, .ro .byte x.data]
abbrev stpL (x : Stp) : List AV := [.int .i64 x.kind, .int .i64 x.param, .int .i64 x.op, .int .i64 x.value, .int .i64 x.next, .int .i64 x.ticks, .int .i64 x.c.src, .int .i64 x.c.num, .int .i64 x.c.srv, .ro .int x.c.args, .ro .byte x.c.data]
/-- no command -/
def noC (c : Cmd) : Prop := c.src = 0 ∧ c.num = 0 ∧ c.srv = 0 ∧ c.args.length = 0 ∧ c.data.length = 0
instance (c : Cmd) : Decidable (noC c) := by unfold noC; exact inferInstance
/-- no comparison -/
def plS (x : Stp) : Prop := x.param = 0 ∧ x.op = 0 ∧ x.value = 0
def cpS (x : Stp) : Prop := (0 ≤ x.param ∧ x.param ≤ 65535) ∧ (1 ≤ x.op ∧ x.op ≤ 3) ∧ -2147483648 ≤ x.value ∧ x.value ≤ 2147483648
def nxS (x : Stp) (n : Int) : Prop := 0 ≤ x.next ∧ x.next < n
/-- a valid step of n, without its command -/
def okZ (x : Stp) (n : Int) : Prop :=
  (x.kind ≠ 1 → noC x.c) ∧ (x.kind ≠ 2 → x.ticks = 0) ∧
  ((x.kind = 1 ∧ plS x ∧ x.next = 0) ∨ (x.kind = 2 ∧ plS x ∧ x.next = 0 ∧ 0 ≤ x.ticks ∧ x.ticks ≤ 1099511627776) ∨ (x.kind = 3 ∧ cpS x ∧ nxS x n) ∨ (x.kind = 4 ∧ cpS x ∧ x.next = 0) ∨ (x.kind = 5 ∧ plS x ∧ nxS x n) ∨ (x.kind = 6 ∧ plS x ∧ x.next = 0))
instance (x : Stp) (n : Int) : Decidable (okZ x n) := by unfold okZ noC plS cpS nxS; exact inferInstance
def vldS (x : Stp) (n : Int) : Bool := decide (okZ x n) && (decide (x.kind ≠ 1) || validC x.c)
def vldQ (l : List Stp) : Bool := decide (1 ≤ l.length) && decide (l.length ≤ 256) && l.all fun x => vldS x l.length
/-- a step's encoding -/
def encS (x : Stp) : List UInt8 :=
  be x.kind.toNat 1 ++ (if x.kind = 1 then encI (encC x.c).length ++ encC x.c else if x.kind = 2 then encI x.ticks else if x.kind = 3 then encI x.param ++ be x.op.toNat 1 ++ encI x.value ++ encI x.next else if x.kind = 4 then encI x.param ++ be x.op.toNat 1 ++ encI x.value else if x.kind = 5 then encI x.next else [])
def encQ (l : List Stp) : List UInt8 := encI l.length ++ l.flatMap encS
end Go.V
