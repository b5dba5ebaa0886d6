/-
  schedule, ref42: Encode.
  ref42: Encode.
  Entries: how they are read; reading what was encoded.
  schedule: Decode.
-/
import Derived.Test.YtnhhgmoadpiklaaPart17
set_option linter.unusedVariables false
set_option linter.unusedSimpArgs false
set_option maxRecDepth 100000
set_option maxHeartbeats 1000000
namespace Go.V
open Go.Proofs
attribute [-go_sem] Wr
/-- an entry's encoding -/
def encX (x : Ent) : List UInt8 := encI x.id ++ encI x.time ++ be x.group.toNat 1 ++ encI (encC x.c).length ++ encC x.c
def encE (l : List Ent) : List UInt8 := encI l.length ++ l.flatMap encX
theorem chk_iff (l : List Ent) (most : Int) : chkE l most = 0 ↔ (l.all entV = true ∧ dupE l = false ∧ (l.length : Int) ≤ most) := by
  unfold chkE
  by_cases h1 : l.all entV = true
  · rw [if_pos h1]
    by_cases h2 : dupE l = true
    · rw [if_pos h2]; simp [h2]
    · rw [if_neg h2]
      simp only [Bool.not_eq_true] at h2
      by_cases h3 : most < l.length
      · rw [if_pos h3]
        constructor
        · intro h; cases h
        · intro h; omega
      · rw [if_neg h3]
        exact ⟨fun _ => ⟨h1, h2, by omega⟩, fun _ => rfl⟩
  · rw [if_neg h1]
    simp [h1]
theorem all_at {l : List Ent} {k : Nat} (h : l.all entV = true) (hk : k < l.length) : entV (l.getD k Ent.zero) = true := by
  rw [List.all_eq_true] at h
  rw [List.getD_eq_getElem?_getD, List.getElem?_eq_getElem hk]
  exact h _ (List.getElem_mem hk)
theorem encX_len {x : Ent} (h : entV x = true) : (encX x).length ≤ 700 := by
  obtain ⟨hb, hv⟩ := (entV_iff x).1 h
  unfold entB at hb
  have h1 := encI_le x.id (by constructor <;> omega)
  have h2 := encI_le x.time (by constructor <;> omega)
  have h3 := encC_len hv
  have h4 := encI_le (encC x.c).length (by constructor <;> omega)
  unfold encX
  simp only [List.length_append, be_len]
  omega
theorem encXs_len : ∀ {l : List Ent}, l.all entV = true → (l.flatMap encX).length ≤ 700 * l.length
  | [], _ => by simp
  | x :: l, h => by
    simp only [List.all_cons, Bool.and_eq_true] at h
    have h1 := encX_len h.1
    have h2 := encXs_len h.2
    simp only [List.flatMap_cons, List.length_append, List.length_cons]
    omega
theorem all_take {l : List Ent} (h : l.all entV = true) (k : Nat) : (l.take k).all entV = true := by
  rw [List.all_eq_true] at h ⊢
  exact fun x hx => h x (List.mem_of_mem_take hx)
theorem b_sencF (l : List Ent) (hl : l.length ≤ 1099511627776) (ha : litE l) (hc : ¬ chkE l 256 = 0) : DoesK Try.prog 0 26 [.ro .ent l] [] (EndF 0 (.tup [.lit (.slice none 0 0), .int .i64 (chkE l 256)]) []) := by
  refine DoesK.close ?_
  have hd : decide (chkE l 256 = 0) = false := decide_eq_false hc
  refine w_body (rs := [.tmp 2, .tmp 3]) (tm := [.ro .ent l, .any, .any, .any, .any, .any, .any, .any, .any, .any, .any, .any, .any, .any, .any, .any, .any, .any, .any, .any, .any, .any, .any, .any, .any, .any, .any, .any, .any, .any, .any, .any, .any, .any, .any, .any, .any, .any, .any, .any, .any, .any, .any, .any, .any, .any, .any, .any, .any, .any]) fn_26 rfl rfl rfl rfl fun R hR => ?_
  (have zx1 := @hd; all_goals (try ((first | (with_reducible refine wp_id ?_) | (with_reducible refine does_id ?_) | (with_reducible refine ops_id ?_)); refine walk ?_; (repeat' (first | exact trivial | with_reducible refine And.intro ?_ ?_)); all_goals (repeat (first | (with_reducible refine ImpB.mk fun hb => ?_) | (with_reducible refine ImpK.mk fun hK => ?_) | (with_reducible refine ImpF.mk fun hF => ?_) | (with_reducible refine ImpQ.mk fun hp => ?_) | (with_reducible refine AllE.mk fun p => ?_) | (with_reducible refine AllR.mk fun rest => ?_) | (with_reducible refine AllK.mk fun K => ?_))))); repeat' (with_reducible refine And.intro ?_ ?_))
  (all_goals (repeat (first | (clear hK; clear K) | (clear hE; clear E) | (clear hF; clear F) | (clear hR; clear R))); all_goals (try simp only [decide_eq_true_eq, decide_eq_false_iff_not, Bool.not_eq_true', Bool.not_eq_false', Bool.not_eq_true, Bool.not_eq_false, decide_not, decide_true, decide_false, Bool.decide_and, Bool.and_eq_true, Bool.or_eq_true, Bool.and_eq_false_imp, Decidable.not_not] at *); all_goals (try omega); all_goals (try (first | exact u8w_lo _ | exact u8w_hi _ | exact (bits8 _ _ _).1 | exact (bits8 _ _ _).2 | exact Int.natCast_nonneg _ | exact u8_ltI _)))
  (focus (refine ⟨_, _, Gh.refl, [], rfl, ?_⟩; (refine ⟨?_, ?_, ?_⟩ <;> simp only [go_sem, List.range, List.range.loop, List.nodup_cons, List.nodup_nil, List.mem_cons, List.not_mem_nil, or_false, or_self, decide_true, decide_false, Int.reduceToNat, Nat.min_eq_left, Nat.min_eq_right, Int.reducePow, Nat.reducePow, Int.reduceLE, Int.reduceLT, Int.reduceMul, Int.reduceAdd, Int.reduceSub, Int.reduceNeg, Bool.not_true, Bool.not_false, Bool.not_not, ↓reduceIte, Nat.reduceAdd, Nat.reduceSub, Nat.reduceMul, Nat.reduceEqDiff, reduceCtorEq, Nat.reduceLT, Nat.reduceLeDiff, Nat.reduceGT]); (try any_goals (refine ⟨?_, ?_⟩)); (try any_goals (with_reducible rfl))))
theorem b_sencT (l : List Ent) (ha : litE l) (hc : chkE l 256 = 0) : DoesK Try.prog 0 26 [.ro .ent l] [] (EndF 0 (.tup [.sl 0 .byte 0 (encE l).length, .int .i64 0]) [.rows .byte (encE l)]) := by
  refine DoesK.close ?_
  obtain ⟨h1, h2, h3⟩ := (chk_iff l 256).1 hc
  have hl : l.length ≤ 1099511627776 := by omega
  have h9 := encI_le l.length (by constructor <;> omega)
  have hI : I64 (l.length : Int) := by constructor <;> omega
  have hlen : ∀ k, ((l.take k).flatMap encX).length ≤ 180000 := fun k => by
    have h4 := encXs_len (all_take h1 k)
    have h5 : (l.take k).length ≤ l.length := by rw [List.length_take]; omega
    omega
  refine w_body (rs := [.tmp 2, .tmp 3]) (tm := [.ro .ent l, .any, .any, .any, .any, .any, .any, .any, .any, .any, .any, .any, .any, .any, .any, .any, .any, .any, .any, .any, .any, .any, .any, .any, .any, .any, .any, .any, .any, .any, .any, .any, .any, .any, .any, .any, .any, .any, .any, .any, .any, .any, .any, .any, .any, .any, .any, .any, .any, .any]) fn_26 rfl rfl rfl rfl fun R hR => ?_
  (have zx1 := @hc; all_goals (try ((first | (with_reducible refine wp_id ?_) | (with_reducible refine does_id ?_) | (with_reducible refine ops_id ?_)); refine walk ?_; (repeat' (first | exact trivial | with_reducible refine And.intro ?_ ?_)); all_goals (repeat (first | (with_reducible refine ImpB.mk fun hb => ?_) | (with_reducible refine ImpK.mk fun hK => ?_) | (with_reducible refine ImpF.mk fun hF => ?_) | (with_reducible refine ImpQ.mk fun hp => ?_) | (with_reducible refine AllE.mk fun p => ?_) | (with_reducible refine AllR.mk fun rest => ?_) | (with_reducible refine AllK.mk fun K => ?_))))); repeat' (with_reducible refine And.intro ?_ ?_))
  all_goals try (exfalso; exact absurd (by assumption : false = true) (by decide))
  any_goals ((try (refine w_seq fun K hK => ?_)); (try (refine w_block ?_)); refine w_loop (A := Nat) (fun k => k ≤ l.length) (fun k => l.length - k) (fun k => [(21, .int .i64 k), (7, .any), (8, .any), (25, .any), (29, .any), (45, .any)]) (fun k => [(0, .pack (Wr (encI l.length ++ (l.take k).flatMap encX)))]) (0) (ws := ?ws1) (tk := ?tk1) ?hw1 ?ht1 ?hi ?h0 ?LH1; (case hw1 => simp only [go_sem, decide_true, decide_false, Int.reduceToNat, Nat.min_eq_left, Nat.min_eq_right, Int.reducePow, Nat.reducePow, Int.reduceLE, Int.reduceLT, Int.reduceMul, Int.reduceAdd, Int.reduceSub, Int.reduceNeg, Bool.not_true, Bool.not_false, Bool.not_not, ↓reduceIte, Nat.reduceAdd, Nat.reduceSub, Nat.reduceMul, Nat.reduceEqDiff, reduceCtorEq, Nat.reduceLT, Nat.reduceLeDiff, Nat.reduceGT]; exact rfl); (case ht1 => simp only [go_sem, decide_true, decide_false, Int.reduceToNat, Nat.min_eq_left, Nat.min_eq_right, Int.reducePow, Nat.reducePow, Int.reduceLE, Int.reduceLT, Int.reduceMul, Int.reduceAdd, Int.reduceSub, Int.reduceNeg, Bool.not_true, Bool.not_false, Bool.not_not, ↓reduceIte, Nat.reduceAdd, Nat.reduceSub, Nat.reduceMul, Nat.reduceEqDiff, reduceCtorEq, Nat.reduceLT, Nat.reduceLeDiff, Nat.reduceGT]; exact rfl); (case' LH1 => rintro k E t hx hE ht; simp only [go_sem] at ht; subst ht; simp only [go_sem]; try dsimp only at hx))
  case LH1 =>
    have hlk := hlen k
    by_cases hk : k < l.length
    · have hv := all_at h1 hk
      obtain ⟨hb, hv⟩ := (entV_iff _).1 hv
      have hI1 : I64 (l.getD k Ent.zero).id := by unfold entB at hb; constructor <;> omega
      have hI2 : I64 (l.getD k Ent.zero).time := by unfold entB at hb; constructor <;> omega
      have w1 : IntKind.u64.wrap (l.getD k Ent.zero).group = ((l.getD k Ent.zero).group.toNat : Int) := by unfold entB at hb; rw [wrap_u64]; omega
      have hkd : decide ((k : Int) < l.length) = true := decide_eq_true (by omega)
      have hel := encC_len hv
      have he1 := encI_le _ hI1
      have he2 := encI_le _ hI2
      (have zx1 := @hkd; have zx2 := @w1; all_goals (try ((first | (with_reducible refine wp_id ?_) | (with_reducible refine does_id ?_) | (with_reducible refine ops_id ?_)); refine walk ?_; (repeat' (first | exact trivial | with_reducible refine And.intro ?_ ?_)); all_goals (repeat (first | (with_reducible refine ImpB.mk fun hb => ?_) | (with_reducible refine ImpK.mk fun hK => ?_) | (with_reducible refine ImpF.mk fun hF => ?_) | (with_reducible refine ImpQ.mk fun hp => ?_) | (with_reducible refine AllE.mk fun p => ?_) | (with_reducible refine AllR.mk fun rest => ?_) | (with_reducible refine AllK.mk fun K => ?_))))); repeat' (with_reducible refine And.intro ?_ ?_))
      (all_goals (repeat (first | (clear hK; clear K) | (clear hE; clear E) | (clear hF; clear F) | (clear hR; clear R))); all_goals (try simp only [decide_eq_true_eq, decide_eq_false_iff_not, Bool.not_eq_true', Bool.not_eq_false', Bool.not_eq_true, Bool.not_eq_false, decide_not, decide_true, decide_false, Bool.decide_and, Bool.and_eq_true, Bool.or_eq_true, Bool.and_eq_false_imp, Decidable.not_not] at *); all_goals (try omega); all_goals (try (first | exact u8w_lo _ | exact u8w_hi _ | exact (bits8 _ _ _).1 | exact (bits8 _ _ _).2 | exact Int.natCast_nonneg _ | exact u8_ltI _)))
      all_goals try (exfalso; exact absurd (by assumption : false = true) (by decide))
      · refine ⟨k + 1, ⟨by first | omega | (dsimp only; omega), by first | omega | (dsimp only; omega)⟩, ?_⟩
        (focus (refine ⟨_, _, Gh.refl, [0], rfl, ?_⟩; (refine ⟨?_, ?_, ?_⟩ <;> simp only [go_sem, List.range, List.range.loop, List.nodup_cons, List.nodup_nil, List.mem_cons, List.not_mem_nil, or_false, or_self, decide_true, decide_false, Int.reduceToNat, Nat.min_eq_left, Nat.min_eq_right, Int.reducePow, Nat.reducePow, Int.reduceLE, Int.reduceLT, Int.reduceMul, Int.reduceAdd, Int.reduceSub, Int.reduceNeg, Bool.not_true, Bool.not_false, Bool.not_not, ↓reduceIte, Nat.reduceAdd, Nat.reduceSub, Nat.reduceMul, Nat.reduceEqDiff, reduceCtorEq, Nat.reduceLT, Nat.reduceLeDiff, Nat.reduceGT]); (try any_goals (refine ⟨?_, ?_⟩)); (try any_goals (with_reducible rfl))))
        all_goals first | (first | with_reducible rfl | omega | ((simp (disch := omega) only [wrap_i64]); first | done | omega) | (simp only [List.append_assoc, List.cons_append, List.nil_append]; done)) | skip
        rw [ent_take hk, List.flatMap_append, List.flatMap_singleton, encX]
        simp only [List.append_assoc]
      all_goals first | (simp only [List.length_append, be_len]; omega) | exact Nat.le_trans hel (by decide)
    · have hkd : decide ((k : Int) < l.length) = false := decide_eq_false (by omega)
      (have zx1 := @hkd; all_goals (try ((first | (with_reducible refine wp_id ?_) | (with_reducible refine does_id ?_) | (with_reducible refine ops_id ?_)); refine walk ?_; (repeat' (first | exact trivial | with_reducible refine And.intro ?_ ?_)); all_goals (repeat (first | (with_reducible refine ImpB.mk fun hb => ?_) | (with_reducible refine ImpK.mk fun hK => ?_) | (with_reducible refine ImpF.mk fun hF => ?_) | (with_reducible refine ImpQ.mk fun hp => ?_) | (with_reducible refine AllE.mk fun p => ?_) | (with_reducible refine AllR.mk fun rest => ?_) | (with_reducible refine AllK.mk fun K => ?_))))); repeat' (with_reducible refine And.intro ?_ ?_))
      (all_goals (repeat (first | (clear hK; clear K) | (clear hE; clear E) | (clear hF; clear F) | (clear hR; clear R))); all_goals (try simp only [decide_eq_true_eq, decide_eq_false_iff_not, Bool.not_eq_true', Bool.not_eq_false', Bool.not_eq_true, Bool.not_eq_false, decide_not, decide_true, decide_false, Bool.decide_and, Bool.and_eq_true, Bool.or_eq_true, Bool.and_eq_false_imp, Decidable.not_not] at *); all_goals (try omega); all_goals (try (first | exact u8w_lo _ | exact u8w_hi _ | exact (bits8 _ _ _).1 | exact (bits8 _ _ _).2 | exact Int.natCast_nonneg _ | exact u8_ltI _)))
      · have hk2 : l.take k = l := List.take_of_length_le (by omega)
        rw [hk2]
        unfold encE
        (focus (refine ⟨_, _, Gh.refl, [1], rfl, ?_⟩; (refine ⟨?_, ?_, ?_⟩ <;> simp only [go_sem, List.range, List.range.loop, List.nodup_cons, List.nodup_nil, List.mem_cons, List.not_mem_nil, or_false, or_self, decide_true, decide_false, Int.reduceToNat, Nat.min_eq_left, Nat.min_eq_right, Int.reducePow, Nat.reducePow, Int.reduceLE, Int.reduceLT, Int.reduceMul, Int.reduceAdd, Int.reduceSub, Int.reduceNeg, Bool.not_true, Bool.not_false, Bool.not_not, ↓reduceIte, Nat.reduceAdd, Nat.reduceSub, Nat.reduceMul, Nat.reduceEqDiff, reduceCtorEq, Nat.reduceLT, Nat.reduceLeDiff, Nat.reduceGT]); (try any_goals (refine ⟨?_, ?_⟩)); (try any_goals (with_reducible rfl))))
        all_goals simp
      · simp only [List.length_append]; omega
  · omega
  · (focus (refine ⟨_, _, Gh.refl, [0], rfl, ?_⟩; (refine ⟨?_, ?_, ?_⟩ <;> simp only [go_sem, List.range, List.range.loop, List.nodup_cons, List.nodup_nil, List.mem_cons, List.not_mem_nil, or_false, or_self, decide_true, decide_false, Int.reduceToNat, Nat.min_eq_left, Nat.min_eq_right, Int.reducePow, Nat.reducePow, Int.reduceLE, Int.reduceLT, Int.reduceMul, Int.reduceAdd, Int.reduceSub, Int.reduceNeg, Bool.not_true, Bool.not_false, Bool.not_not, ↓reduceIte, Nat.reduceAdd, Nat.reduceSub, Nat.reduceMul, Nat.reduceEqDiff, reduceCtorEq, Nat.reduceLT, Nat.reduceLeDiff, Nat.reduceGT]); (try any_goals (refine ⟨?_, ?_⟩)); (try any_goals (with_reducible rfl))))
    all_goals simp
theorem c_sencF {h : List Ch} {K : KT} {l : List Ent} {a : AV} (H : K (.tup [.lit (.slice none 0 0), .int .i64 (chkE l 256)]) h) (b1 : brA [] h (.ro .ent l) a) (e1 : ¬ chkE l 256 = 0) (s1 : l.length ≤ 1099511627776) (s2 : litE l) : Does Try.prog 26 [a] h K :=
  frame_pure (b_sencF l s1 s2 e1) (br_cons b1 br_nil) (.inr rfl) (fun _ => rfl) H
abbrev i_sencF := Ctr.mk (i := 0) (g := 26) @c_sencF
attribute [instance] i_sencF
theorem c_sencT {h : List Ch} {K : KT} {l : List Ent} {a : AV} (H : K (.tup [.sl h.length .byte 0 (encE l).length, .int .i64 0]) (h ++ [.rows .byte (encE l)])) (b1 : brA [] h (.ro .ent l) a) (e1 : chkE l 256 = 0) (s1 : litE l) : Does Try.prog 26 [a] h K :=
  frame_new (ret' := .tup [.sl h.length .byte 0 (encE l).length, .int .i64 0]) (b_sencT l s1 e1) (br_cons b1 br_nil) (.inr rfl) (fun _ => rfl) rfl H
abbrev i_sencT := Ctr.mk (i := 1) (g := 26) @c_sencT
attribute [instance] i_sencT
end Go.V

set_option maxRecDepth 100000
set_option maxHeartbeats 1000000
namespace Go.V
open Go.Proofs
theorem chk_len {l : List Ent} : chkE l l.length = 0 ↔ l.all entV = true ∧ dupE l = false := by
  rw [chk_iff]
  exact ⟨fun h => ⟨h.1, h.2.1⟩, fun h => ⟨h.1, h.2, by omega⟩⟩
theorem chk_same {l : List Ent} {most : Int} (h : ¬ chkE l l.length = 0) : chkE l most = chkE l l.length := by
  rw [chk_len] at h
  unfold chkE
  by_cases h1 : l.all entV = true
  · have h2 : dupE l = true := by
      cases e : dupE l
      · exact absurd ⟨h1, e⟩ h
      · rfl
    rw [if_pos h1, if_pos h1, if_pos h2, if_pos h2]
  · rw [if_neg h1, if_neg h1]
theorem chk_full {l : List Ent} (h : chkE l l.length = 0) (h2 : 256 < l.length) : chkE l 256 = 7 := by
  rw [chk_len] at h
  rw [chkE, if_pos h.1, if_neg (by rw [h.2]; simp), if_pos (by omega)]
theorem b_rsencF (l : List Ent) (hl : l.length ≤ 1099511627776) (ha : litE l) (hc : ¬ chkE l 256 = 0) : DoesK Try.prog 0 27 [.ro .ent l] [] (EndF 0 (.tup [.lit (.slice none 0 0), .int .i64 (chkE l 256)]) []) := by
  refine DoesK.close ?_
  by_cases h0 : chkE l l.length = 0
  · have hd : decide (chkE l l.length = 0) = true := decide_eq_true h0
    have h2 : 256 < l.length := by
      false_or_by_contra
      rename_i h2
      rw [chk_len] at h0
      exact hc ((chk_iff l 256).2 ⟨h0.1, h0.2, by omega⟩)
    have hd2 : decide ((256 : Int) < l.length) = true := decide_eq_true (by omega)
    refine w_body (rs := [.tmp 2, .tmp 3]) (tm := [.ro .ent l, .any, .any, .any, .any, .any, .any, .any, .any, .any, .any, .any, .any, .any, .any, .any, .any, .any, .any, .any, .any, .any, .any, .any, .any, .any, .any, .any, .any, .any, .any, .any, .any, .any, .any, .any, .any, .any, .any, .any, .any, .any, .any, .any, .any, .any, .any, .any, .any, .any, .any, .any, .any, .any, .any, .any, .any, .any, .any]) fn_27 rfl rfl rfl rfl fun R hR => ?_
    (have zx1 := @hd; have zx2 := @hd2; have zx3 := @h0; all_goals (try ((first | (with_reducible refine wp_id ?_) | (with_reducible refine does_id ?_) | (with_reducible refine ops_id ?_)); refine walk ?_; (repeat' (first | exact trivial | with_reducible refine And.intro ?_ ?_)); all_goals (repeat (first | (with_reducible refine ImpB.mk fun hb => ?_) | (with_reducible refine ImpK.mk fun hK => ?_) | (with_reducible refine ImpF.mk fun hF => ?_) | (with_reducible refine ImpQ.mk fun hp => ?_) | (with_reducible refine AllE.mk fun p => ?_) | (with_reducible refine AllR.mk fun rest => ?_) | (with_reducible refine AllK.mk fun K => ?_))))); repeat' (with_reducible refine And.intro ?_ ?_))
    (all_goals (repeat (first | (clear hK; clear K) | (clear hE; clear E) | (clear hF; clear F) | (clear hR; clear R))); all_goals (try simp only [decide_eq_true_eq, decide_eq_false_iff_not, Bool.not_eq_true', Bool.not_eq_false', Bool.not_eq_true, Bool.not_eq_false, decide_not, decide_true, decide_false, Bool.decide_and, Bool.and_eq_true, Bool.or_eq_true, Bool.and_eq_false_imp, Decidable.not_not] at *); all_goals (try omega); all_goals (try (first | exact u8w_lo _ | exact u8w_hi _ | exact (bits8 _ _ _).1 | exact (bits8 _ _ _).2 | exact Int.natCast_nonneg _ | exact u8_ltI _)))
    all_goals try (exfalso; exact absurd (by assumption : false = true) (by decide))
    rw [chk_full h0 h2]
    (focus (refine ⟨_, _, Gh.refl, [], rfl, ?_⟩; (refine ⟨?_, ?_, ?_⟩ <;> simp only [go_sem, List.range, List.range.loop, List.nodup_cons, List.nodup_nil, List.mem_cons, List.not_mem_nil, or_false, or_self, decide_true, decide_false, Int.reduceToNat, Nat.min_eq_left, Nat.min_eq_right, Int.reducePow, Nat.reducePow, Int.reduceLE, Int.reduceLT, Int.reduceMul, Int.reduceAdd, Int.reduceSub, Int.reduceNeg, Bool.not_true, Bool.not_false, Bool.not_not, ↓reduceIte, Nat.reduceAdd, Nat.reduceSub, Nat.reduceMul, Nat.reduceEqDiff, reduceCtorEq, Nat.reduceLT, Nat.reduceLeDiff, Nat.reduceGT]); (try any_goals (refine ⟨?_, ?_⟩)); (try any_goals (with_reducible rfl))))
  · have hd : decide (chkE l l.length = 0) = false := decide_eq_false h0
    refine w_body (rs := [.tmp 2, .tmp 3]) (tm := [.ro .ent l, .any, .any, .any, .any, .any, .any, .any, .any, .any, .any, .any, .any, .any, .any, .any, .any, .any, .any, .any, .any, .any, .any, .any, .any, .any, .any, .any, .any, .any, .any, .any, .any, .any, .any, .any, .any, .any, .any, .any, .any, .any, .any, .any, .any, .any, .any, .any, .any, .any, .any, .any, .any, .any, .any, .any, .any, .any, .any]) fn_27 rfl rfl rfl rfl fun R hR => ?_
    (have zx1 := @hd; all_goals (try ((first | (with_reducible refine wp_id ?_) | (with_reducible refine does_id ?_) | (with_reducible refine ops_id ?_)); refine walk ?_; (repeat' (first | exact trivial | with_reducible refine And.intro ?_ ?_)); all_goals (repeat (first | (with_reducible refine ImpB.mk fun hb => ?_) | (with_reducible refine ImpK.mk fun hK => ?_) | (with_reducible refine ImpF.mk fun hF => ?_) | (with_reducible refine ImpQ.mk fun hp => ?_) | (with_reducible refine AllE.mk fun p => ?_) | (with_reducible refine AllR.mk fun rest => ?_) | (with_reducible refine AllK.mk fun K => ?_))))); repeat' (with_reducible refine And.intro ?_ ?_))
    (all_goals (repeat (first | (clear hK; clear K) | (clear hE; clear E) | (clear hF; clear F) | (clear hR; clear R))); all_goals (try simp only [decide_eq_true_eq, decide_eq_false_iff_not, Bool.not_eq_true', Bool.not_eq_false', Bool.not_eq_true, Bool.not_eq_false, decide_not, decide_true, decide_false, Bool.decide_and, Bool.and_eq_true, Bool.or_eq_true, Bool.and_eq_false_imp, Decidable.not_not] at *); all_goals (try omega); all_goals (try (first | exact u8w_lo _ | exact u8w_hi _ | exact (bits8 _ _ _).1 | exact (bits8 _ _ _).2 | exact Int.natCast_nonneg _ | exact u8_ltI _)))
    (focus (refine ⟨_, _, Gh.refl, [], rfl, ?_⟩; (refine ⟨?_, ?_, ?_⟩ <;> simp only [go_sem, List.range, List.range.loop, List.nodup_cons, List.nodup_nil, List.mem_cons, List.not_mem_nil, or_false, or_self, decide_true, decide_false, Int.reduceToNat, Nat.min_eq_left, Nat.min_eq_right, Int.reducePow, Nat.reducePow, Int.reduceLE, Int.reduceLT, Int.reduceMul, Int.reduceAdd, Int.reduceSub, Int.reduceNeg, Bool.not_true, Bool.not_false, Bool.not_not, ↓reduceIte, Nat.reduceAdd, Nat.reduceSub, Nat.reduceMul, Nat.reduceEqDiff, reduceCtorEq, Nat.reduceLT, Nat.reduceLeDiff, Nat.reduceGT]); (try any_goals (refine ⟨?_, ?_⟩)); (try any_goals (with_reducible rfl))))
    exact chk_same h0
theorem b_rsencT (l : List Ent) (ha : litE l) (hc : chkE l 256 = 0) : DoesK Try.prog 0 27 [.ro .ent l] [] (EndF 0 (.tup [.sl 0 .byte 0 (encE l).length, .int .i64 0]) [.rows .byte (encE l)]) := by
  refine DoesK.close ?_
  obtain ⟨h1, h2, h3⟩ := (chk_iff l 256).1 hc
  have h0 : chkE l l.length = 0 := chk_len.2 ⟨h1, h2⟩
  have hd2 : decide ((256 : Int) < l.length) = false := decide_eq_false (by omega)
  have hl : l.length ≤ 1099511627776 := by omega
  have h9 := encI_le l.length (by constructor <;> omega)
  have hI : I64 (l.length : Int) := by constructor <;> omega
  have hlen : ∀ k, ((l.take k).flatMap encX).length ≤ 180000 := fun k => by
    have h4 := encXs_len (all_take h1 k)
    have h5 : (l.take k).length ≤ l.length := by rw [List.length_take]; omega
    omega
  refine w_body (rs := [.tmp 2, .tmp 3]) (tm := [.ro .ent l, .any, .any, .any, .any, .any, .any, .any, .any, .any, .any, .any, .any, .any, .any, .any, .any, .any, .any, .any, .any, .any, .any, .any, .any, .any, .any, .any, .any, .any, .any, .any, .any, .any, .any, .any, .any, .any, .any, .any, .any, .any, .any, .any, .any, .any, .any, .any, .any, .any, .any, .any, .any, .any, .any, .any, .any, .any, .any]) fn_27 rfl rfl rfl rfl fun R hR => ?_
  (have zx1 := @h0; have zx2 := @hd2; all_goals (try ((first | (with_reducible refine wp_id ?_) | (with_reducible refine does_id ?_) | (with_reducible refine ops_id ?_)); refine walk ?_; (repeat' (first | exact trivial | with_reducible refine And.intro ?_ ?_)); all_goals (repeat (first | (with_reducible refine ImpB.mk fun hb => ?_) | (with_reducible refine ImpK.mk fun hK => ?_) | (with_reducible refine ImpF.mk fun hF => ?_) | (with_reducible refine ImpQ.mk fun hp => ?_) | (with_reducible refine AllE.mk fun p => ?_) | (with_reducible refine AllR.mk fun rest => ?_) | (with_reducible refine AllK.mk fun K => ?_))))); repeat' (with_reducible refine And.intro ?_ ?_))
  (all_goals (repeat (first | (clear hK; clear K) | (clear hE; clear E) | (clear hF; clear F) | (clear hR; clear R))); all_goals (try simp only [decide_eq_true_eq, decide_eq_false_iff_not, Bool.not_eq_true', Bool.not_eq_false', Bool.not_eq_true, Bool.not_eq_false, decide_not, decide_true, decide_false, Bool.decide_and, Bool.and_eq_true, Bool.or_eq_true, Bool.and_eq_false_imp, Decidable.not_not] at *); all_goals (try omega); all_goals (try (first | exact u8w_lo _ | exact u8w_hi _ | exact (bits8 _ _ _).1 | exact (bits8 _ _ _).2 | exact Int.natCast_nonneg _ | exact u8_ltI _)))
  all_goals try (exfalso; exact absurd (by assumption : false = true) (by decide))
  any_goals ((try (refine w_seq fun K hK => ?_)); (try (refine w_block ?_)); refine w_loop (A := Nat) (fun k => k ≤ l.length) (fun k => l.length - k) (fun k => [(6, .int .i64 k), (5, .sl 0 .byte 0 (encI l.length ++ (l.take k).flatMap encX).length), (17, .any)]) (fun k => [(0, .rows .byte (encI l.length ++ (l.take k).flatMap encX))]) (0) (ws := ?ws1) (tk := ?tk1) ?hw1 ?ht1 ?hi ?h0 ?LH1; (case hw1 => simp only [go_sem, decide_true, decide_false, Int.reduceToNat, Nat.min_eq_left, Nat.min_eq_right, Int.reducePow, Nat.reducePow, Int.reduceLE, Int.reduceLT, Int.reduceMul, Int.reduceAdd, Int.reduceSub, Int.reduceNeg, Bool.not_true, Bool.not_false, Bool.not_not, ↓reduceIte, Nat.reduceAdd, Nat.reduceSub, Nat.reduceMul, Nat.reduceEqDiff, reduceCtorEq, Nat.reduceLT, Nat.reduceLeDiff, Nat.reduceGT]; exact rfl); (case ht1 => simp only [go_sem, decide_true, decide_false, Int.reduceToNat, Nat.min_eq_left, Nat.min_eq_right, Int.reducePow, Nat.reducePow, Int.reduceLE, Int.reduceLT, Int.reduceMul, Int.reduceAdd, Int.reduceSub, Int.reduceNeg, Bool.not_true, Bool.not_false, Bool.not_not, ↓reduceIte, Nat.reduceAdd, Nat.reduceSub, Nat.reduceMul, Nat.reduceEqDiff, reduceCtorEq, Nat.reduceLT, Nat.reduceLeDiff, Nat.reduceGT]; exact rfl); (case' LH1 => rintro k E t hx hE ht; simp only [go_sem] at ht; subst ht; simp only [go_sem]; try dsimp only at hx))
  case LH1 =>
    have hlk := hlen k
    by_cases hk : k < l.length
    · have hv := all_at h1 hk
      obtain ⟨hb, hv⟩ := (entV_iff _).1 hv
      have hI1 : I64 (l.getD k Ent.zero).id := by unfold entB at hb; constructor <;> omega
      have hI2 : I64 (l.getD k Ent.zero).time := by unfold entB at hb; constructor <;> omega
      have w1 : IntKind.u8.wrap (l.getD k Ent.zero).group = ((l.getD k Ent.zero).group.toNat : Int) := by unfold entB at hb; rw [wrap_u8]; omega
      have hkd : decide ((k : Int) < l.length) = true := decide_eq_true (by omega)
      have hel : (encC ⟨(l.getD k Ent.zero).c.src, (l.getD k Ent.zero).c.num, (l.getD k Ent.zero).c.srv, (l.getD k Ent.zero).c.args, (l.getD k Ent.zero).c.data⟩).length ≤ 600 := encC_len hv
      have he4 := encI_le (encC ⟨(l.getD k Ent.zero).c.src, (l.getD k Ent.zero).c.num, (l.getD k Ent.zero).c.srv, (l.getD k Ent.zero).c.args, (l.getD k Ent.zero).c.data⟩).length (by constructor <;> omega)
      have he1 := encI_le _ hI1
      have he2 := encI_le _ hI2
      (have zx1 := @hkd; have zx2 := @w1; all_goals (try ((first | (with_reducible refine wp_id ?_) | (with_reducible refine does_id ?_) | (with_reducible refine ops_id ?_)); refine walk ?_; (repeat' (first | exact trivial | with_reducible refine And.intro ?_ ?_)); all_goals (repeat (first | (with_reducible refine ImpB.mk fun hb => ?_) | (with_reducible refine ImpK.mk fun hK => ?_) | (with_reducible refine ImpF.mk fun hF => ?_) | (with_reducible refine ImpQ.mk fun hp => ?_) | (with_reducible refine AllE.mk fun p => ?_) | (with_reducible refine AllR.mk fun rest => ?_) | (with_reducible refine AllK.mk fun K => ?_))))); repeat' (with_reducible refine And.intro ?_ ?_))
      all_goals first | exact Int.natCast_nonneg _ | exact Nat.le_refl _ | (with_reducible exact Int.ofNat_lt.2 hk) | skip
      all_goals first | (show _ ≤ (_ : Nat); omega) | (unfold entB at hb; show _ < (_ : Int); omega) | skip
      · refine ⟨k + 1, ⟨by first | omega | (dsimp only; omega), by first | omega | (dsimp only; omega)⟩, ?_⟩
        have e : (l.take (k + 1)).flatMap encX = (l.take k).flatMap encX ++ encX (l.getD k Ent.zero) := by
          rw [ent_take hk, List.flatMap_append, List.flatMap_singleton]
        have hq : encX (l.getD k Ent.zero) = encI (l.getD k Ent.zero).id ++ encI (l.getD k Ent.zero).time ++ be (l.getD k Ent.zero).group.toNat 1 ++ encI (encC ⟨(l.getD k Ent.zero).c.src, (l.getD k Ent.zero).c.num, (l.getD k Ent.zero).c.srv, (l.getD k Ent.zero).c.args, (l.getD k Ent.zero).c.data⟩).length ++ encC ⟨(l.getD k Ent.zero).c.src, (l.getD k Ent.zero).c.num, (l.getD k Ent.zero).c.srv, (l.getD k Ent.zero).c.args, (l.getD k Ent.zero).c.data⟩ := rfl
        have hg : be (l.getD k Ent.zero).group.toNat 1 = [UInt8.ofNat (l.getD k Ent.zero).group.toNat] := by
          unfold entB at hb
          show [UInt8.ofNat ((l.getD k Ent.zero).group.toNat / 256 ^ 0 % 256)] = _
          rw [show (l.getD k Ent.zero).group.toNat / 256 ^ 0 % 256 = (l.getD k Ent.zero).group.toNat from by omega]
        (focus (refine ⟨_, _, Gh.refl, [9], rfl, ?_⟩; (refine ⟨?_, ?_, ?_⟩ <;> simp only [go_sem, List.range, List.range.loop, List.nodup_cons, List.nodup_nil, List.mem_cons, List.not_mem_nil, or_false, or_self, decide_true, decide_false, Int.reduceToNat, Nat.min_eq_left, Nat.min_eq_right, Int.reducePow, Nat.reducePow, Int.reduceLE, Int.reduceLT, Int.reduceMul, Int.reduceAdd, Int.reduceSub, Int.reduceNeg, Bool.not_true, Bool.not_false, Bool.not_not, ↓reduceIte, Nat.reduceAdd, Nat.reduceSub, Nat.reduceMul, Nat.reduceEqDiff, reduceCtorEq, Nat.reduceLT, Nat.reduceLeDiff, Nat.reduceGT]); (try any_goals (refine ⟨?_, ?_⟩)); (try any_goals (with_reducible rfl))))
        · rw [e, hq]
          simp only [List.length_append, be_len]
          omega
        · (simp (disch := omega) only [wrap_i64])
          first | done | omega
        · rw [e, hq, hg, List.take_of_length_le (l := encI _ ++ encC _) (by simp)]
          simp only [List.append_assoc]
    · have hkd : decide ((k : Int) < l.length) = false := decide_eq_false (by omega)
      (have zx1 := @hkd; all_goals (try ((first | (with_reducible refine wp_id ?_) | (with_reducible refine does_id ?_) | (with_reducible refine ops_id ?_)); refine walk ?_; (repeat' (first | exact trivial | with_reducible refine And.intro ?_ ?_)); all_goals (repeat (first | (with_reducible refine ImpB.mk fun hb => ?_) | (with_reducible refine ImpK.mk fun hK => ?_) | (with_reducible refine ImpF.mk fun hF => ?_) | (with_reducible refine ImpQ.mk fun hp => ?_) | (with_reducible refine AllE.mk fun p => ?_) | (with_reducible refine AllR.mk fun rest => ?_) | (with_reducible refine AllK.mk fun K => ?_))))); repeat' (with_reducible refine And.intro ?_ ?_))
      have hk2 : l.take k = l := List.take_of_length_le (by omega)
      rw [hk2]
      unfold encE
      (focus (refine ⟨_, _, Gh.refl, [0], rfl, ?_⟩; (refine ⟨?_, ?_, ?_⟩ <;> simp only [go_sem, List.range, List.range.loop, List.nodup_cons, List.nodup_nil, List.mem_cons, List.not_mem_nil, or_false, or_self, decide_true, decide_false, Int.reduceToNat, Nat.min_eq_left, Nat.min_eq_right, Int.reducePow, Nat.reducePow, Int.reduceLE, Int.reduceLT, Int.reduceMul, Int.reduceAdd, Int.reduceSub, Int.reduceNeg, Bool.not_true, Bool.not_false, Bool.not_not, ↓reduceIte, Nat.reduceAdd, Nat.reduceSub, Nat.reduceMul, Nat.reduceEqDiff, reduceCtorEq, Nat.reduceLT, Nat.reduceLeDiff, Nat.reduceGT]); (try any_goals (refine ⟨?_, ?_⟩)); (try any_goals (with_reducible rfl))))
      all_goals simp
  · omega
  · (focus (refine ⟨_, _, Gh.refl, [0], rfl, ?_⟩; (refine ⟨?_, ?_, ?_⟩ <;> simp only [go_sem, List.range, List.range.loop, List.nodup_cons, List.nodup_nil, List.mem_cons, List.not_mem_nil, or_false, or_self, decide_true, decide_false, Int.reduceToNat, Nat.min_eq_left, Nat.min_eq_right, Int.reducePow, Nat.reducePow, Int.reduceLE, Int.reduceLT, Int.reduceMul, Int.reduceAdd, Int.reduceSub, Int.reduceNeg, Bool.not_true, Bool.not_false, Bool.not_not, ↓reduceIte, Nat.reduceAdd, Nat.reduceSub, Nat.reduceMul, Nat.reduceEqDiff, reduceCtorEq, Nat.reduceLT, Nat.reduceLeDiff, Nat.reduceGT]); (try any_goals (refine ⟨?_, ?_⟩)); (try any_goals (with_reducible rfl))))
    all_goals simp
theorem c_rsencF {h : List Ch} {K : KT} {l : List Ent} {a : AV} (H : K (.tup [.lit (.slice none 0 0), .int .i64 (chkE l 256)]) h) (b1 : brA [] h (.ro .ent l) a) (e1 : ¬ chkE l 256 = 0) (s1 : l.length ≤ 1099511627776) (s2 : litE l) : Does Try.prog 27 [a] h K :=
  frame_pure (b_rsencF l s1 s2 e1) (br_cons b1 br_nil) (.inr rfl) (fun _ => rfl) H
abbrev i_rsencF := Ctr.mk (i := 0) (g := 27) @c_rsencF
attribute [instance] i_rsencF
theorem c_rsencT {h : List Ch} {K : KT} {l : List Ent} {a : AV} (H : K (.tup [.sl h.length .byte 0 (encE l).length, .int .i64 0]) (h ++ [.rows .byte (encE l)])) (b1 : brA [] h (.ro .ent l) a) (e1 : chkE l 256 = 0) (s1 : litE l) : Does Try.prog 27 [a] h K :=
  frame_new (ret' := .tup [.sl h.length .byte 0 (encE l).length, .int .i64 0]) (b_rsencT l s1 e1) (br_cons b1 br_nil) (.inr rfl) (fun _ => rfl) rfl H
abbrev i_rsencT := Ctr.mk (i := 1) (g := 27) @c_rsencT
attribute [instance] i_rsencT
end Go.V

set_option maxRecDepth 100000
namespace Go.V
open Go.Proofs
/-- one entry, and what is left -/
def oneR (m : Int) (r : Option (List UInt8)) : Option Ent × Option (List UInt8) :=
  let p := intR r
  let q := intR p.2
  let s := uintR q.2 1
  let d := blobR s.2 m
  ((decC d.1).map fun c => ⟨p.1, q.1, s.1, c⟩, d.2)
def rdsE (m : Int) (r : Option (List UInt8)) : Nat → Option (List Ent) × Option (List UInt8)
  | 0 => (some [], r)
  | k + 1 => match rdsE m r k with
    | (none, r1) => (none, r1)
    | (some l, r1) => ((oneR m r1).1.map fun x => l ++ [x], (oneR m r1).2)
def decEm (m : Int) (b : List UInt8) : Option (List Ent) :=
  match rdsE m (countR (some b) 256).2 (countR (some b) 256).1.toNat with
  | (some l, r) => if r = some [] ∧ chkE l 256 = 0 ∧ encE l = b then some l else none
  | (none, _) => none
theorem rds_none {m : Int} {r : Option (List UInt8)} {k : Nat} (h : (rdsE m r k).1 = none) : ∀ n, (rdsE m r (k + n)).1 = none
  | 0 => h
  | n + 1 => by
    have := rds_none h n
    rw [← Nat.add_assoc, rdsE]
    revert this
    rcases rdsE m r (k + n) with ⟨l, r1⟩
    intro q
    simp only at q
    subst q
    rfl
theorem rds_step {m : Int} {r r1 : Option (List UInt8)} {k : Nat} {l : List Ent} (h : rdsE m r k = (some l, r1)) : rdsE m r (k + 1) = ((oneR m r1).1.map fun x => l ++ [x], (oneR m r1).2) := by
  rw [rdsE, h]
theorem oneR_enc {m : Int} {x : Ent} (hm : 600 ≤ m) (h : entV x = true) (rest : List UInt8) : oneR m (some (encX x ++ rest)) = (some x, some rest) := by
  obtain ⟨hb, hv⟩ := (entV_iff x).1 h
  unfold entB at hb
  have hl := encC_len hv
  have e1 : intR (some (encX x ++ rest)) = (x.id, some (encI x.time ++ (be x.group.toNat 1 ++ (encI (encC x.c).length ++ (encC x.c ++ rest))))) := by
    rw [encX]
    simp only [List.append_assoc]
    exact intR_enc _ (by constructor <;> omega) _
  have e2 := intR_enc x.time (by constructor <;> omega) (be x.group.toNat 1 ++ (encI (encC x.c).length ++ (encC x.c ++ rest)))
  have e3 := uintR_be x.group.toNat 1 (by omega) (encI (encC x.c).length ++ (encC x.c ++ rest))
  have e4 := blobR_enc (encC x.c) rest m (by omega) (by omega)
  unfold oneR
  simp only [e1, e2, e3]
  rw [List.append_assoc] at e4
  simp only [e4, dec_enc hv, Option.map_some]
  rw [show ((x.group.toNat : Nat) : Int) = x.group from by omega]
theorem rds_enc {m : Int} (hm : 600 ≤ m) {l : List Ent} (h : l.all entV = true) (rest : List UInt8) : ∀ k, k ≤ l.length → rdsE m (some (l.flatMap encX ++ rest)) k = (some (l.take k), some ((l.drop k).flatMap encX ++ rest))
  | 0, _ => by simp [rdsE]
  | k + 1, hk => by
    have ih := rds_enc hm h rest k (by omega)
    rw [rds_step ih]
    have hv := all_at h (show k < l.length by omega)
    have e : l.drop k = l.getD k Ent.zero :: l.drop (k + 1) := by
      rw [List.drop_eq_getElem_cons (by omega), List.getD_eq_getElem?_getD, List.getElem?_eq_getElem (by omega)]
      rfl
    rw [e, List.flatMap_cons, List.append_assoc, oneR_enc hm hv, ent_take (by omega)]
    rfl
theorem decEm_enc {m : Int} (hm : 600 ≤ m) {l : List Ent} (h : chkE l 256 = 0) : decEm m (encE l) = some l := by
  obtain ⟨h1, h2, h3⟩ := (chk_iff l 256).1 h
  have hc : countR (some (encE l)) 256 = ((l.length : Int), some (l.flatMap encX)) := by
    unfold countR encE
    rw [intR_enc _ (by constructor <;> omega)]
    simp only
    rw [if_neg (by omega)]
  have hr := rds_enc hm h1 [] l.length (Nat.le_refl _)
  rw [List.append_nil, List.drop_length, List.take_length] at hr
  unfold decEm
  rw [hc]
  simp only [Int.toNat_natCast, hr]
  simp [h]
theorem decEm_iff {m : Int} (hm : 600 ≤ m) {b : List UInt8} {l : List Ent} : decEm m b = some l ↔ chkE l 256 = 0 ∧ encE l = b := by
  constructor
  · intro h
    unfold decEm at h
    split at h
    · split at h
      · rename_i h1
        cases h
        exact h1.2
      · cases h
    · cases h
  · rintro ⟨h1, rfl⟩
    exact decEm_enc hm h1
/-- the entries with an encoding -/
def decE (b : List UInt8) : Option (List Ent) := decEm 4096 b
theorem decE_iff {b : List UInt8} {l : List Ent} : decE b = some l ↔ chkE l 256 = 0 ∧ encE l = b := decEm_iff (by decide)
theorem decEm_eq {m : Int} (hm : 600 ≤ m) (b : List UInt8) : decEm m b = decE b := by
  cases h : decE b with
  | some l => exact (decEm_iff hm).2 (decE_iff.1 h)
  | none =>
    cases h2 : decEm m b with
    | none => rfl
    | some l =>
      have := decE_iff.2 ((decEm_iff hm).1 h2)
      rw [h] at this
      cases this
end Go.V

set_option maxRecDepth 100000
set_option maxHeartbeats 1000000
namespace Go.V
open Go.Proofs
attribute [-go_sem] Wr
attribute [local go_sem] decA rdecA
theorem blobR_lens (r : Option (List UInt8)) (m : Int) : (blobR r m).1.length ≤ lenR r ∧ lenR (blobR r m).2 ≤ lenR r := by
  have h := countR_len r m
  unfold blobR
  split
  · exact ⟨Nat.zero_le _, Nat.zero_le _⟩
  · rename_i n ys e
    rw [e] at h
    simp only [lenR, Option.getD_some] at h
    split
    · exact ⟨Nat.zero_le _, Nat.zero_le _⟩
    · constructor
      · rw [List.length_take]; unfold lenR; omega
      · simp only [lenR, Option.getD_some, List.length_drop]; omega
theorem rds_length {m : Int} {r : Option (List UInt8)} : ∀ {k : Nat} {l : List Ent} {r1 : Option (List UInt8)}, rdsE m r k = (some l, r1) → l.length = k
  | 0, l, r1, h => by simp only [rdsE, Prod.mk.injEq, Option.some.injEq] at h; rw [← h.1]; rfl
  | k + 1, l, r1, h => by
    rw [rdsE] at h
    split at h
    · simp at h
    · rename_i l' r2 e
      have ih := rds_length e
      simp only [Prod.mk.injEq, Option.map_eq_some_iff] at h
      obtain ⟨⟨x, _, h1⟩, _⟩ := h
      rw [← h1, List.length_append, ih]
      rfl
/-- what decoding entries answers -/
def sdecA (o : Option (List Ent)) : AV := match o with
  | some l => .tup [.ro .ent l, .int .i64 0]
  | none => .tup [.ro .ent [], .int .i64 4]
theorem rds_lenR (m : Int) (r : Option (List UInt8)) : ∀ k, lenR (rdsE m r k).2 ≤ lenR r
  | 0 => Nat.le_refl _
  | k + 1 => by
    have ih := rds_lenR m r k
    rw [rdsE]
    split
    · rename_i r1 e; rw [e] at ih; exact ih
    · rename_i l r1 e
      rw [e] at ih
      have h1 := intR_len r1
      have h2 := intR_len (intR r1).2
      have h3 := uintR_lenR (intR (intR r1).2).2 1
      have h4 := (blobR_lens (uintR (intR (intR r1).2).2 1).2 m).2
      simp only [oneR] at ih ⊢
      omega
theorem sdec_no {b : List UInt8} {n : Int} {r0 : Option (List UInt8)} {k : Nat} (e0 : countR (some b) 256 = (n, r0)) (h : (rdsE 1024 r0 k).1 = none) (hk : k ≤ n.toNat) : decE b = none := by
  rw [← decEm_eq (m := 1024) (by decide), decEm, e0]
  obtain ⟨j, hj⟩ := Nat.exists_eq_add_of_le hk
  have := rds_none h j
  rw [← hj] at this
  simp only
  split
  · rename_i l r e
    rw [e] at this
    cases this
  · rfl
theorem sdec_end {b : List UInt8} {n : Int} {r0 r : Option (List UInt8)} {l : List Ent} (e0 : countR (some b) 256 = (n, r0)) (h : rdsE 1024 r0 n.toNat = (some l, r)) : decE b = if r = some [] ∧ chkE l 256 = 0 ∧ encE l = b then some l else none := by
  rw [← decEm_eq (m := 1024) (by decide), decEm, e0]
  simp only [h]
theorem intR_none {r : Option (List UInt8)} : (intR r).2 = none → (intR r).1 = 0 := by
  unfold intR
  split
  · intro _; rfl
  · split
    · intro _; rfl
    · intro h; cases h
theorem countR_le {r : Option (List UInt8)} {m : Int} (hm : 0 ≤ m) : (countR r m).1 ≤ m := by
  have h := intR_none (r := r)
  unfold countR
  split
  · rename_i n e
    rw [e] at h
    have := h rfl
    simp only at this
    simp only
    omega
  · split
    · exact hm
    · simp only; omega
theorem dec_valid {b : List UInt8} {c : Cmd} (h : decC b = some c) : validC c = true := by
  unfold decC at h
  split at h
  · rename_i h1
    cases h
    exact h1.2.1
  · cases h
theorem valid_args {c : Cmd} (h : validC c = true) : c.args.length ≤ 1099511627776 := by
  have h1 := ((validC_iff c).1 h).2.2.2.2.2.1
  have h2 := arg0_le c.srv
  omega
theorem rds_lit {m : Int} {r : Option (List UInt8)} : ∀ {k : Nat} {l : List Ent} {r1 : Option (List UInt8)}, rdsE m r k = (some l, r1) → litE l
  | 0, l, r1, h => by
    simp only [rdsE, Prod.mk.injEq, Option.some.injEq] at h
    rw [← h.1]
    intro x hx
    cases hx
  | k + 1, l, r1, h => by
    rw [rdsE] at h
    split at h
    · simp at h
    · rename_i l' r2 e
      have ih := rds_lit e
      simp only [Prod.mk.injEq, Option.map_eq_some_iff, oneR] at h
      obtain ⟨⟨x, ⟨c, hc, hx⟩, h1⟩, _⟩ := h
      subst h1
      intro y hy
      rcases List.mem_append.1 hy with hy | hy
      · exact ih y hy
      · rw [List.mem_singleton] at hy
        subst hy
        subst hx
        exact valid_args (dec_valid hc)
theorem b_sdec (b : List UInt8) (hb : b.length ≤ 1000000) : DoesK Try.prog 0 28 [.ro .byte b] [] (EndF 0 (sdecA (decE b)) []) := by
  refine DoesK.close ?_
  have hL0 := countR_len (some b) 256
  rcases e0 : countR (some b) 256 with ⟨n, r0⟩
  rw [e0] at hL0
  have hn256 := countR_le (r := some b) (m := 256) (by decide)
  rw [e0] at hn256
  simp only at hn256
  have hLb : lenR (some b) = b.length := rfl
  simp only [hLb] at hL0
  refine w_body (rs := [.tmp 2, .tmp 3]) (tm := [.ro .byte b, .any, .any, .any, .any, .any, .any, .any, .any, .any, .any, .any, .any, .any, .any, .any, .any, .any, .any, .any, .any, .any, .any, .any, .any, .any, .any, .any, .any, .any, .any, .any, .any, .any, .any, .any, .any, .any, .any, .any, .any, .any, .any, .any, .any, .any, .any, .any, .any, .any, .any, .any, .any, .any, .any, .any, .any, .any, .any]) fn_28 rfl rfl rfl rfl fun R hR => ?_
  (all_goals (try ((first | (with_reducible refine wp_id ?_) | (with_reducible refine does_id ?_) | (with_reducible refine ops_id ?_)); refine walk ?_; (repeat' (first | exact trivial | with_reducible refine And.intro ?_ ?_)); all_goals (repeat (first | (with_reducible refine ImpB.mk fun hb => ?_) | (with_reducible refine ImpK.mk fun hK => ?_) | (with_reducible refine ImpF.mk fun hF => ?_) | (with_reducible refine ImpQ.mk fun hp => ?_) | (with_reducible refine AllE.mk fun p => ?_) | (with_reducible refine AllR.mk fun rest => ?_) | (with_reducible refine AllK.mk fun K => ?_))))); repeat' (with_reducible refine And.intro ?_ ?_))
  any_goals refine Wp.ghost (gh_adopt (s := 5) .ent trivial) ?_
  any_goals ((try (refine w_seq fun K hK => ?_)); (try (refine w_block ?_)); refine w_loop (A := Nat × List Ent × Option (List UInt8)) (fun p => rdsE 1024 r0 p.1 = (some p.2.1, p.2.2) ∧ p.1 ≤ n.toNat) (fun p => n.toNat - p.1) (fun p => [(15, .int .i64 p.1), (5, .sl 1 .ent 0 p.2.1.length)]) (fun p => [(0, .pack (Rd p.2.2)), (1, .rows .ent p.2.1)]) ((0, [], r0)) (ws := ?ws1) (tk := ?tk1) ?hw1 ?ht1 ?hi ?h0 ?LH1; (case hw1 => simp only [go_sem, decide_true, decide_false, Int.reduceToNat, Nat.min_eq_left, Nat.min_eq_right, Int.reducePow, Nat.reducePow, Int.reduceLE, Int.reduceLT, Int.reduceMul, Int.reduceAdd, Int.reduceSub, Int.reduceNeg, Bool.not_true, Bool.not_false, Bool.not_not, ↓reduceIte, Nat.reduceAdd, Nat.reduceSub, Nat.reduceMul, Nat.reduceEqDiff, reduceCtorEq, Nat.reduceLT, Nat.reduceLeDiff, Nat.reduceGT]; exact rfl); (case ht1 => simp only [go_sem, decide_true, decide_false, Int.reduceToNat, Nat.min_eq_left, Nat.min_eq_right, Int.reducePow, Nat.reducePow, Int.reduceLE, Int.reduceLT, Int.reduceMul, Int.reduceAdd, Int.reduceSub, Int.reduceNeg, Bool.not_true, Bool.not_false, Bool.not_not, ↓reduceIte, Nat.reduceAdd, Nat.reduceSub, Nat.reduceMul, Nat.reduceEqDiff, reduceCtorEq, Nat.reduceLT, Nat.reduceLeDiff, Nat.reduceGT]; exact rfl); (case' LH1 => rintro ⟨k, l, r⟩ E t hx hE ht; simp only [go_sem] at ht; subst ht; simp only [go_sem]; try dsimp only at hx))
  case LH1 =>
    have hlr := rds_lenR 1024 r0 k
    rw [hx.1] at hlr
    have hll := rds_length hx.1
    have hL1 : lenR r ≤ 1000000 := by simp only at hlr; omega
    by_cases hk : k < n.toNat
    · have hkd : decide ((k : Int) < n) = true := decide_eq_true (by omega)
      have hst := rds_step hx.1
      have hM1 := intR_len r
      rcases e1 : intR r with ⟨i1, q1⟩
      have hM2 := intR_len q1
      rcases e2 : intR q1 with ⟨i2, q2⟩
      have hM3 := uintR_lenR q2 1
      have hb3 := uintR_bd q2 1
      rcases e3 : uintR q2 1 with ⟨g, q3⟩
      have hM4 := blobR_lens q3 1024
      rcases e4 : blobR q3 1024 with ⟨d, q4⟩
      simp only [oneR, e1, e2, e3, e4] at hst
      rw [e1] at hM1
      rw [e2] at hM2
      rw [e3] at hM3 hb3
      rw [e4] at hM4
      simp only at hM1 hM2 hM3 hM4 hb3
      have w1 : IntKind.i64.wrap (g : Int) = g := wrap_i64 _ (by omega) (by omega)
      cases hd : decC d
      · rw [hd] at hst
        (have zx1 := @hkd; have zx2 := @w1; have zx3 := @hd; all_goals (try ((first | (with_reducible refine wp_id ?_) | (with_reducible refine does_id ?_) | (with_reducible refine ops_id ?_)); refine walk ?_; (repeat' (first | exact trivial | with_reducible refine And.intro ?_ ?_)); all_goals (repeat (first | (with_reducible refine ImpB.mk fun hb => ?_) | (with_reducible refine ImpK.mk fun hK => ?_) | (with_reducible refine ImpF.mk fun hF => ?_) | (with_reducible refine ImpQ.mk fun hp => ?_) | (with_reducible refine AllE.mk fun p => ?_) | (with_reducible refine AllR.mk fun rest => ?_) | (with_reducible refine AllK.mk fun K => ?_))))); repeat' (with_reducible refine And.intro ?_ ?_))
        all_goals try exact absurd hb (by decide)
        rw [sdec_no (k := k + 1) e0 (by rw [hst]; rfl) (by omega)]
        simp only [sdecA]
        (focus (refine ⟨_, _, Gh.refl, [], rfl, ?_⟩; (refine ⟨?_, ?_, ?_⟩ <;> simp only [go_sem, List.range, List.range.loop, List.nodup_cons, List.nodup_nil, List.mem_cons, List.not_mem_nil, or_false, or_self, decide_true, decide_false, Int.reduceToNat, Nat.min_eq_left, Nat.min_eq_right, Int.reducePow, Nat.reducePow, Int.reduceLE, Int.reduceLT, Int.reduceMul, Int.reduceAdd, Int.reduceSub, Int.reduceNeg, Bool.not_true, Bool.not_false, Bool.not_not, ↓reduceIte, Nat.reduceAdd, Nat.reduceSub, Nat.reduceMul, Nat.reduceEqDiff, reduceCtorEq, Nat.reduceLT, Nat.reduceLeDiff, Nat.reduceGT]); (try any_goals (refine ⟨?_, ?_⟩)); (try any_goals (with_reducible rfl))))
      · rename_i c
        rw [hd] at hst
        (have zx1 := @hkd; have zx2 := @w1; have zx3 := @hd; all_goals (try ((first | (with_reducible refine wp_id ?_) | (with_reducible refine does_id ?_) | (with_reducible refine ops_id ?_)); refine walk ?_; (repeat' (first | exact trivial | with_reducible refine And.intro ?_ ?_)); all_goals (repeat (first | (with_reducible refine ImpB.mk fun hb => ?_) | (with_reducible refine ImpK.mk fun hK => ?_) | (with_reducible refine ImpF.mk fun hF => ?_) | (with_reducible refine ImpQ.mk fun hp => ?_) | (with_reducible refine AllE.mk fun p => ?_) | (with_reducible refine AllR.mk fun rest => ?_) | (with_reducible refine AllK.mk fun K => ?_))))); repeat' (with_reducible refine And.intro ?_ ?_))
        all_goals try exact absurd hb (by decide)
        · omega
        · omega
        · refine ⟨(k + 1, l ++ [⟨i1, i2, g, c⟩], q4), ⟨⟨(show rdsE 1024 r0 (k + 1) = (some (l ++ [(⟨i1, i2, (g : Int), c⟩ : Ent)]), q4) from hst), by dsimp only; omega⟩, by dsimp only; omega⟩, ?_⟩
          (focus (refine ⟨_, _, Gh.refl, [0, 5], rfl, ?_⟩; (refine ⟨?_, ?_, ?_⟩ <;> simp only [go_sem, List.range, List.range.loop, List.nodup_cons, List.nodup_nil, List.mem_cons, List.not_mem_nil, or_false, or_self, decide_true, decide_false, Int.reduceToNat, Nat.min_eq_left, Nat.min_eq_right, Int.reducePow, Nat.reducePow, Int.reduceLE, Int.reduceLT, Int.reduceMul, Int.reduceAdd, Int.reduceSub, Int.reduceNeg, Bool.not_true, Bool.not_false, Bool.not_not, ↓reduceIte, Nat.reduceAdd, Nat.reduceSub, Nat.reduceMul, Nat.reduceEqDiff, reduceCtorEq, Nat.reduceLT, Nat.reduceLeDiff, Nat.reduceGT]); (try any_goals (refine ⟨?_, ?_⟩)); (try any_goals (with_reducible rfl))))
          all_goals first | (first | with_reducible rfl | omega | ((simp (disch := omega) only [wrap_i64]); first | done | omega) | (simp only [List.append_assoc, List.cons_append, List.nil_append]; done)) | skip
    · have hkn : k = n.toNat := by omega
      have hend := sdec_end e0 (by rw [← hkn]; exact hx.1)
      have hkd : decide ((k : Int) < n) = false := decide_eq_false (by omega)
      by_cases hc : chkE l 256 = 0
      · (have zx1 := @hkd; have zx2 := @hc; all_goals (try ((first | (with_reducible refine wp_id ?_) | (with_reducible refine does_id ?_) | (with_reducible refine ops_id ?_)); refine walk ?_; (repeat' (first | exact trivial | with_reducible refine And.intro ?_ ?_)); all_goals (repeat (first | (with_reducible refine ImpB.mk fun hb => ?_) | (with_reducible refine ImpK.mk fun hK => ?_) | (with_reducible refine ImpF.mk fun hF => ?_) | (with_reducible refine ImpQ.mk fun hp => ?_) | (with_reducible refine AllE.mk fun p => ?_) | (with_reducible refine AllR.mk fun rest => ?_) | (with_reducible refine AllK.mk fun K => ?_))))); repeat' (with_reducible refine And.intro ?_ ?_))
        all_goals try exact absurd hb (by decide)
        · rw [hend, if_neg (by rintro ⟨q, _⟩; simp [q] at hb)]
          simp only [sdecA]
          (focus (refine ⟨_, _, Gh.refl, [], rfl, ?_⟩; (refine ⟨?_, ?_, ?_⟩ <;> simp only [go_sem, List.range, List.range.loop, List.nodup_cons, List.nodup_nil, List.mem_cons, List.not_mem_nil, or_false, or_self, decide_true, decide_false, Int.reduceToNat, Nat.min_eq_left, Nat.min_eq_right, Int.reducePow, Nat.reducePow, Int.reduceLE, Int.reduceLT, Int.reduceMul, Int.reduceAdd, Int.reduceSub, Int.reduceNeg, Bool.not_true, Bool.not_false, Bool.not_not, ↓reduceIte, Nat.reduceAdd, Nat.reduceSub, Nat.reduceMul, Nat.reduceEqDiff, reduceCtorEq, Nat.reduceLT, Nat.reduceLeDiff, Nat.reduceGT]); (try any_goals (refine ⟨?_, ?_⟩)); (try any_goals (with_reducible rfl))))
        · rw [hend, if_neg (by rintro ⟨_, _, q⟩; simp [q] at hb)]
          simp only [sdecA]
          (focus (refine ⟨_, _, Gh.refl, [], rfl, ?_⟩; (refine ⟨?_, ?_, ?_⟩ <;> simp only [go_sem, List.range, List.range.loop, List.nodup_cons, List.nodup_nil, List.mem_cons, List.not_mem_nil, or_false, or_self, decide_true, decide_false, Int.reduceToNat, Nat.min_eq_left, Nat.min_eq_right, Int.reducePow, Nat.reducePow, Int.reduceLE, Int.reduceLT, Int.reduceMul, Int.reduceAdd, Int.reduceSub, Int.reduceNeg, Bool.not_true, Bool.not_false, Bool.not_not, ↓reduceIte, Nat.reduceAdd, Nat.reduceSub, Nat.reduceMul, Nat.reduceEqDiff, reduceCtorEq, Nat.reduceLT, Nat.reduceLeDiff, Nat.reduceGT]); (try any_goals (refine ⟨?_, ?_⟩)); (try any_goals (with_reducible rfl))))
        · rw [hend, if_pos (by simp_all)]
          simp only [sdecA]
          refine ⟨_, _, gh_frz (t := 1) (e := .ent) (xs := l) rfl ?f1 ?f2, [], rfl, ?ft⟩
          case' ft => (refine ⟨?_, ?_, ?_⟩ <;> simp only [go_sem, List.range, List.range.loop, List.nodup_cons, List.nodup_nil, List.mem_cons, List.not_mem_nil, or_false, or_self, decide_true, decide_false, Int.reduceToNat, Nat.min_eq_left, Nat.min_eq_right, Int.reducePow, Nat.reducePow, Int.reduceLE, Int.reduceLT, Int.reduceMul, Int.reduceAdd, Int.reduceSub, Int.reduceNeg, Bool.not_true, Bool.not_false, Bool.not_not, ↓reduceIte, Nat.reduceAdd, Nat.reduceSub, Nat.reduceMul, Nat.reduceEqDiff, reduceCtorEq, Nat.reduceLT, Nat.reduceLeDiff, Nat.reduceGT])
          case' f1 => simp only [go_sem, decide_true, decide_false, Int.reduceToNat, Nat.min_eq_left, Nat.min_eq_right, Int.reducePow, Nat.reducePow, Int.reduceLE, Int.reduceLT, Int.reduceMul, Int.reduceAdd, Int.reduceSub, Int.reduceNeg, Bool.not_true, Bool.not_false, Bool.not_not, ↓reduceIte, Nat.reduceAdd, Nat.reduceSub, Nat.reduceMul, Nat.reduceEqDiff, reduceCtorEq, Nat.reduceLT, Nat.reduceLeDiff, Nat.reduceGT]
          case' f2 => simp only [go_sem, decide_true, decide_false, Int.reduceToNat, Nat.min_eq_left, Nat.min_eq_right, Int.reducePow, Nat.reducePow, Int.reduceLE, Int.reduceLT, Int.reduceMul, Int.reduceAdd, Int.reduceSub, Int.reduceNeg, Bool.not_true, Bool.not_false, Bool.not_not, ↓reduceIte, Nat.reduceAdd, Nat.reduceSub, Nat.reduceMul, Nat.reduceEqDiff, reduceCtorEq, Nat.reduceLT, Nat.reduceLeDiff, Nat.reduceGT]
          all_goals exact Nat.le_refl _
        · exact rds_lit hx.1
      · have hcd : decide (chkE l 256 = 0) = false := decide_eq_false hc
        (have zx1 := @hkd; have zx2 := @hcd; all_goals (try ((first | (with_reducible refine wp_id ?_) | (with_reducible refine does_id ?_) | (with_reducible refine ops_id ?_)); refine walk ?_; (repeat' (first | exact trivial | with_reducible refine And.intro ?_ ?_)); all_goals (repeat (first | (with_reducible refine ImpB.mk fun hb => ?_) | (with_reducible refine ImpK.mk fun hK => ?_) | (with_reducible refine ImpF.mk fun hF => ?_) | (with_reducible refine ImpQ.mk fun hp => ?_) | (with_reducible refine AllE.mk fun p => ?_) | (with_reducible refine AllR.mk fun rest => ?_) | (with_reducible refine AllK.mk fun K => ?_))))); repeat' (with_reducible refine And.intro ?_ ?_))
        · rw [hend, if_neg (by rintro ⟨_, q, _⟩; exact hc q)]
          simp only [sdecA]
          (focus (refine ⟨_, _, Gh.refl, [], rfl, ?_⟩; (refine ⟨?_, ?_, ?_⟩ <;> simp only [go_sem, List.range, List.range.loop, List.nodup_cons, List.nodup_nil, List.mem_cons, List.not_mem_nil, or_false, or_self, decide_true, decide_false, Int.reduceToNat, Nat.min_eq_left, Nat.min_eq_right, Int.reducePow, Nat.reducePow, Int.reduceLE, Int.reduceLT, Int.reduceMul, Int.reduceAdd, Int.reduceSub, Int.reduceNeg, Bool.not_true, Bool.not_false, Bool.not_not, ↓reduceIte, Nat.reduceAdd, Nat.reduceSub, Nat.reduceMul, Nat.reduceEqDiff, reduceCtorEq, Nat.reduceLT, Nat.reduceLeDiff, Nat.reduceGT]); (try any_goals (refine ⟨?_, ?_⟩)); (try any_goals (with_reducible rfl))))
        · rw [hend, if_neg (by rintro ⟨_, q, _⟩; exact hc q)]
          simp only [sdecA]
          (focus (refine ⟨_, _, Gh.refl, [], rfl, ?_⟩; (refine ⟨?_, ?_, ?_⟩ <;> simp only [go_sem, List.range, List.range.loop, List.nodup_cons, List.nodup_nil, List.mem_cons, List.not_mem_nil, or_false, or_self, decide_true, decide_false, Int.reduceToNat, Nat.min_eq_left, Nat.min_eq_right, Int.reducePow, Nat.reducePow, Int.reduceLE, Int.reduceLT, Int.reduceMul, Int.reduceAdd, Int.reduceSub, Int.reduceNeg, Bool.not_true, Bool.not_false, Bool.not_not, ↓reduceIte, Nat.reduceAdd, Nat.reduceSub, Nat.reduceMul, Nat.reduceEqDiff, reduceCtorEq, Nat.reduceLT, Nat.reduceLeDiff, Nat.reduceGT]); (try any_goals (refine ⟨?_, ?_⟩)); (try any_goals (with_reducible rfl))))
        · rw [hend, if_neg (by rintro ⟨_, q, _⟩; exact hc q)]
          simp only [sdecA]
          (focus (refine ⟨_, _, Gh.refl, [], rfl, ?_⟩; (refine ⟨?_, ?_, ?_⟩ <;> simp only [go_sem, List.range, List.range.loop, List.nodup_cons, List.nodup_nil, List.mem_cons, List.not_mem_nil, or_false, or_self, decide_true, decide_false, Int.reduceToNat, Nat.min_eq_left, Nat.min_eq_right, Int.reducePow, Nat.reducePow, Int.reduceLE, Int.reduceLT, Int.reduceMul, Int.reduceAdd, Int.reduceSub, Int.reduceNeg, Bool.not_true, Bool.not_false, Bool.not_not, ↓reduceIte, Nat.reduceAdd, Nat.reduceSub, Nat.reduceMul, Nat.reduceEqDiff, reduceCtorEq, Nat.reduceLT, Nat.reduceLeDiff, Nat.reduceGT]); (try any_goals (refine ⟨?_, ?_⟩)); (try any_goals (with_reducible rfl))))
        · exfalso; simp_all
        · exact rds_lit hx.1
  · exact ⟨rfl, Nat.zero_le _⟩
  · (focus (refine ⟨_, _, Gh.refl, [0, 1], rfl, ?_⟩; (refine ⟨?_, ?_, ?_⟩ <;> simp only [go_sem, List.range, List.range.loop, List.nodup_cons, List.nodup_nil, List.mem_cons, List.not_mem_nil, or_false, or_self, decide_true, decide_false, Int.reduceToNat, Nat.min_eq_left, Nat.min_eq_right, Int.reducePow, Nat.reducePow, Int.reduceLE, Int.reduceLT, Int.reduceMul, Int.reduceAdd, Int.reduceSub, Int.reduceNeg, Bool.not_true, Bool.not_false, Bool.not_not, ↓reduceIte, Nat.reduceAdd, Nat.reduceSub, Nat.reduceMul, Nat.reduceEqDiff, reduceCtorEq, Nat.reduceLT, Nat.reduceLeDiff, Nat.reduceGT]); (try any_goals (refine ⟨?_, ?_⟩)); (try any_goals (with_reducible rfl))))
    all_goals rfl
theorem c_sdec {h : List Ch} {K : KT} {b : List UInt8} {a : AV} (H : K (sdecA (decE b)) h) (q1 : isRO .byte b a) (s1 : b.length ≤ 1000000) : Does Try.prog 28 [a] h K :=
  frame_pure (b_sdec b s1) (br_cons q1.br br_nil) (.inl (by rw [brTL, q1.brT]; rfl)) (fun _ => by unfold sdecA; cases decE b <;> rfl) H
abbrev i_sdec := Ctr.mk (i := 0) (g := 28) @c_sdec
attribute [instance] i_sdec
end Go.V
