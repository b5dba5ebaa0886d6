/-
  archive: the reference's Extend and Add.
  archive: the reference's Add.
-/
import Derived.Test.YtoohlpieakeecaaPart19
set_option linter.unusedVariables false
set_option linter.unusedSimpArgs false
set_option maxRecDepth 100000
set_option maxHeartbeats 8000000
namespace Go.V
open Go.Proofs
def extStep (a : Int) (o : Option Int) (r : REnt) : Option Int := if r.apid = a then (match o with | none => some r.count | some e => if e < r.count then some r.count else some e) else o
def extS (rs : List REnt) (a : Int) : Option Int := rs.foldl (extStep a) none
def extR (rs : List REnt) (a c : Int) : Int := match extS rs a with | none => c | some e => ext e c
theorem extS_next {rs : List REnt} {a : Int} {k : Nat} (h : k < rs.length) : extS (rs.take (k + 1)) a = extStep a (extS (rs.take k) a) (rs.getD k REnt.zero) := by
  unfold extS
  rw [List.take_succ_eq_append_getElem h, List.foldl_append, List.getD_eq_getElem?_getD, List.getElem?_eq_getElem h]
  rfl
structure okR (rs : List REnt) : Prop where
  len : rs.length ≤ 100000
  cnt : ∀ k, -1099511627776 ≤ (rs.getD k REnt.zero).count ∧ (rs.getD k REnt.zero).count ≤ 1099511627776
theorem extS_bnd {rs : List REnt} (a : Int) (h : okR rs) : ∀ k e, k ≤ rs.length → extS (rs.take k) a = some e → -1099511627776 ≤ e ∧ e ≤ 1099511627776
  | 0, e, _, q => by cases q
  | k + 1, e, hk, q => by
    rw [extS_next (by omega)] at q
    have hc := h.cnt k
    have ih := extS_bnd a h k
    generalize rs.getD k REnt.zero = r at *
    unfold extStep at q
    by_cases c1 : r.apid = a
    · rw [if_pos c1] at q
      cases he0 : extS (rs.take k) a with
      | none => rw [he0] at q; cases q; exact hc
      | some e0 =>
        rw [he0] at q
        have q : (if e0 < r.count then some r.count else some e0) = some e := q
        split at q
        · cases q; exact hc
        · cases q; exact ih _ (by omega) he0
    · rw [if_neg c1] at q
      exact ih e (by omega) q
theorem mod14 (x : Int) : (Int.tmod x 16384 + 16384).tmod 16384 = x % 16384 ∧ -16384 < Int.tmod x 16384 ∧ Int.tmod x 16384 < 16384 := by
  have h1 : Int.tmod x 16384 < 16384 := Int.tmod_lt_of_pos x (by decide)
  have h2 : -16384 < Int.tmod x 16384 := Int.lt_tmod_of_pos x (by decide)
  have h3 := Int.tmod_def x 16384
  refine ⟨?_, h2, h1⟩
  rw [Int.tmod_eq_emod_of_nonneg (by omega)]
  generalize Int.tdiv x 16384 = q at h3
  omega
theorem b_rext (rs : List REnt) (a c : Int) (h : okR rs) (hc : 0 ≤ c ∧ c < 16384) : DoesK Try.prog 0 41 [.ro .ren rs, .int .i64 a, .int .i64 c] [] (EndF 0 (.int .i64 (extR rs a c)) []) := by
  refine DoesK.close ?_
  have hlr := h.len
  refine w_body (rs := [.tmp 6]) (tm := [.ro .ren rs, .int .i64 a, .int .i64 c, .any, .any, .any, .any, .any, .any, .any, .any, .any, .any, .any, .any, .any, .any, .any, .any, .any, .any, .any, .any, .any, .any, .any, .any, .any, .any, .any, .any, .any, .any, .any, .any, .any, .any, .any, .any, .any, .any, .any, .any, .any, .any, .any, .any, .any, .any, .any, .any, .any, .any, .any, .any, .any, .any]) fn_41 rfl rfl rfl rfl fun R hR => ?_
  (all_goals (try ((first | (with_reducible refine wp_id ?_) | (with_reducible refine does_id ?_) | (with_reducible refine ops_id ?_)); refine walk ?_; (repeat' (first | exact trivial | with_reducible refine And.intro ?_ ?_)); all_goals (repeat (first | (with_reducible refine ImpB.mk fun hb => ?_) | (with_reducible refine ImpK.mk fun hK => ?_) | (with_reducible refine ImpF.mk fun hF => ?_) | (with_reducible refine ImpQ.mk fun hp => ?_) | (with_reducible refine AllE.mk fun p => ?_) | (with_reducible refine AllR.mk fun rest => ?_) | (with_reducible refine AllK.mk fun K => ?_))))); repeat' (with_reducible refine And.intro ?_ ?_))
  any_goals ((try (refine w_seq fun K hK => ?_)); (try (refine w_block ?_)); refine w_loop (A := Nat) (fun k => k ≤ rs.length) (fun k => rs.length - k) (fun k => [(7, .bool (extS (rs.take k) a).isNone), (8, .int .i64 ((extS (rs.take k) a).getD 0)), (9, .int .i64 k)]) (fun k => []) (0) (ws := ?ws1) (tk := ?tk1) ?hw1 ?ht1 ?hi ?h0 ?LH1; (case hw1 => simp only [go_sem, decide_true, decide_false, Int.reduceToNat, Nat.min_eq_left, Nat.min_eq_right, Int.reducePow, Nat.reducePow, Int.reduceLE, Int.reduceLT, Int.reduceMul, Int.reduceAdd, Int.reduceSub, Int.reduceNeg, Bool.not_true, Bool.not_false, Bool.not_not, ↓reduceIte, Nat.reduceAdd, Nat.reduceSub, Nat.reduceMul, Nat.reduceEqDiff, reduceCtorEq, Nat.reduceLT, Nat.reduceLeDiff, Nat.reduceGT]; exact rfl); (case ht1 => simp only [go_sem, decide_true, decide_false, Int.reduceToNat, Nat.min_eq_left, Nat.min_eq_right, Int.reducePow, Nat.reducePow, Int.reduceLE, Int.reduceLT, Int.reduceMul, Int.reduceAdd, Int.reduceSub, Int.reduceNeg, Bool.not_true, Bool.not_false, Bool.not_not, ↓reduceIte, Nat.reduceAdd, Nat.reduceSub, Nat.reduceMul, Nat.reduceEqDiff, reduceCtorEq, Nat.reduceLT, Nat.reduceLeDiff, Nat.reduceGT]; exact rfl); (case' LH1 => rintro k E t hx hE ht; simp only [go_sem] at ht; subst ht; simp only [go_sem]; try dsimp only at hx))
  case hi => exact Nat.zero_le _
  case h0 =>
    (focus (refine ⟨_, _, Gh.refl, [], rfl, ?_⟩; (refine fitq ?_ ?_ ?_ <;> try exact trivial); (try any_goals (refine ⟨?_, ?_⟩)); (try any_goals (with_reducible rfl))))
    all_goals (repeat' (first | (refine And.intro ?_ ?_) | rfl))
  case LH1 =>
    have hk0 : k ≤ rs.length := hx
    by_cases hk : k < rs.length
    · have hkd : decide ((k : Int) < (rs.length : Int)) = true := decide_eq_true (by omega)
      have hw : IntKind.i64.wrap ((k : Int) + 1) = ((k + 1 : Nat) : Int) := by rw [wrap_i64 _ (by omega) (by omega)]; omega
      have hn := extS_next (a := a) hk
      obtain ⟨r, hr⟩ : ∃ r, rs.getD k REnt.zero = r := ⟨_, rfl⟩
      rw [hr] at hn
      cases hs : extS (rs.take k) a with
      | none =>
        rw [hs] at hn
        by_cases c1 : r.apid = a
        · have d1 : decide (r.apid = a) = true := decide_eq_true c1
          have hn2 : extS (rs.take (k + 1)) a = some r.count := by rw [hn]; unfold extStep; rw [if_pos c1]
          (have zx1 := @hkd; have zx2 := @hw; have zx3 := @hr; have zx4 := @d1; all_goals (try ((first | (with_reducible refine wp_id ?_) | (with_reducible refine does_id ?_) | (with_reducible refine ops_id ?_)); refine walk ?_; (repeat' (first | exact trivial | with_reducible refine And.intro ?_ ?_)); all_goals (repeat (first | (with_reducible refine ImpB.mk fun hb => ?_) | (with_reducible refine ImpK.mk fun hK => ?_) | (with_reducible refine ImpF.mk fun hF => ?_) | (with_reducible refine ImpQ.mk fun hp => ?_) | (with_reducible refine AllE.mk fun p => ?_) | (with_reducible refine AllR.mk fun rest => ?_) | (with_reducible refine AllK.mk fun K => ?_))))); repeat' (with_reducible refine And.intro ?_ ?_))
          (all_goals first | exact Int.natCast_nonneg _ | exact Int.ofNat_lt.2 (by assumption) | assumption | omega | exact Nat.le_refl _ | (exfalso; simp at hb; done) | (simp only [go_sem, decide_true, decide_false, Int.reduceToNat, Nat.min_eq_left, Nat.min_eq_right, Int.reducePow, Nat.reducePow, Int.reduceLE, Int.reduceLT, Int.reduceMul, Int.reduceAdd, Int.reduceSub, Int.reduceNeg, Bool.not_true, Bool.not_false, Bool.not_not, ↓reduceIte, Nat.reduceAdd, Nat.reduceSub, Nat.reduceMul, Nat.reduceEqDiff, reduceCtorEq, Nat.reduceLT, Nat.reduceLeDiff, Nat.reduceGT]; done) | (unfold capM; omega) | (simp only [List.length_drop, List.length_take, List.length_append, List.length_cons, List.length_nil]; omega) | skip)
          refine ⟨k + 1, ⟨(by omega : k + 1 ≤ rs.length), (by first | omega | (dsimp only; omega))⟩, ?_⟩
          dsimp only
          rw [hn2]
          (focus (refine ⟨_, _, Gh.refl, [], rfl, ?_⟩; (refine fitq ?_ ?_ ?_ <;> try exact trivial); (try any_goals (refine ⟨?_, ?_⟩)); (try any_goals (with_reducible rfl))))
          all_goals (repeat' (first | (refine And.intro ?_ ?_) | rfl))
        · have d1 : decide (r.apid = a) = false := decide_eq_false c1
          have hn2 : extS (rs.take (k + 1)) a = none := by rw [hn]; unfold extStep; rw [if_neg c1]
          (have zx1 := @hkd; have zx2 := @hw; have zx3 := @hr; have zx4 := @d1; all_goals (try ((first | (with_reducible refine wp_id ?_) | (with_reducible refine does_id ?_) | (with_reducible refine ops_id ?_)); refine walk ?_; (repeat' (first | exact trivial | with_reducible refine And.intro ?_ ?_)); all_goals (repeat (first | (with_reducible refine ImpB.mk fun hb => ?_) | (with_reducible refine ImpK.mk fun hK => ?_) | (with_reducible refine ImpF.mk fun hF => ?_) | (with_reducible refine ImpQ.mk fun hp => ?_) | (with_reducible refine AllE.mk fun p => ?_) | (with_reducible refine AllR.mk fun rest => ?_) | (with_reducible refine AllK.mk fun K => ?_))))); repeat' (with_reducible refine And.intro ?_ ?_))
          (all_goals first | exact Int.natCast_nonneg _ | exact Int.ofNat_lt.2 (by assumption) | assumption | omega | exact Nat.le_refl _ | (exfalso; simp at hb; done) | (simp only [go_sem, decide_true, decide_false, Int.reduceToNat, Nat.min_eq_left, Nat.min_eq_right, Int.reducePow, Nat.reducePow, Int.reduceLE, Int.reduceLT, Int.reduceMul, Int.reduceAdd, Int.reduceSub, Int.reduceNeg, Bool.not_true, Bool.not_false, Bool.not_not, ↓reduceIte, Nat.reduceAdd, Nat.reduceSub, Nat.reduceMul, Nat.reduceEqDiff, reduceCtorEq, Nat.reduceLT, Nat.reduceLeDiff, Nat.reduceGT]; done) | (unfold capM; omega) | (simp only [List.length_drop, List.length_take, List.length_append, List.length_cons, List.length_nil]; omega) | skip)
          refine ⟨k + 1, ⟨(by omega : k + 1 ≤ rs.length), (by first | omega | (dsimp only; omega))⟩, ?_⟩
          dsimp only
          rw [hn2]
          (focus (refine ⟨_, _, Gh.refl, [], rfl, ?_⟩; (refine fitq ?_ ?_ ?_ <;> try exact trivial); (try any_goals (refine ⟨?_, ?_⟩)); (try any_goals (with_reducible rfl))))
          all_goals (repeat' (first | (refine And.intro ?_ ?_) | rfl))
      | some e =>
        rw [hs] at hn
        by_cases c1 : r.apid = a
        · have d1 : decide (r.apid = a) = true := decide_eq_true c1
          by_cases c2 : e < r.count
          · have d2 : decide (e < r.count) = true := decide_eq_true c2
            have hn2 : extS (rs.take (k + 1)) a = some r.count := by rw [hn]; unfold extStep; rw [if_pos c1]; exact if_pos c2
            (have zx1 := @hkd; have zx2 := @hw; have zx3 := @hr; have zx4 := @d1; have zx5 := @d2; all_goals (try ((first | (with_reducible refine wp_id ?_) | (with_reducible refine does_id ?_) | (with_reducible refine ops_id ?_)); refine walk ?_; (repeat' (first | exact trivial | with_reducible refine And.intro ?_ ?_)); all_goals (repeat (first | (with_reducible refine ImpB.mk fun hb => ?_) | (with_reducible refine ImpK.mk fun hK => ?_) | (with_reducible refine ImpF.mk fun hF => ?_) | (with_reducible refine ImpQ.mk fun hp => ?_) | (with_reducible refine AllE.mk fun p => ?_) | (with_reducible refine AllR.mk fun rest => ?_) | (with_reducible refine AllK.mk fun K => ?_))))); repeat' (with_reducible refine And.intro ?_ ?_))
            (all_goals first | exact Int.natCast_nonneg _ | exact Int.ofNat_lt.2 (by assumption) | assumption | omega | exact Nat.le_refl _ | (exfalso; simp at hb; done) | (simp only [go_sem, decide_true, decide_false, Int.reduceToNat, Nat.min_eq_left, Nat.min_eq_right, Int.reducePow, Nat.reducePow, Int.reduceLE, Int.reduceLT, Int.reduceMul, Int.reduceAdd, Int.reduceSub, Int.reduceNeg, Bool.not_true, Bool.not_false, Bool.not_not, ↓reduceIte, Nat.reduceAdd, Nat.reduceSub, Nat.reduceMul, Nat.reduceEqDiff, reduceCtorEq, Nat.reduceLT, Nat.reduceLeDiff, Nat.reduceGT]; done) | (unfold capM; omega) | (simp only [List.length_drop, List.length_take, List.length_append, List.length_cons, List.length_nil]; omega) | skip)
            refine ⟨k + 1, ⟨(by omega : k + 1 ≤ rs.length), (by first | omega | (dsimp only; omega))⟩, ?_⟩
            dsimp only
            rw [hn2]
            (focus (refine ⟨_, _, Gh.refl, [], rfl, ?_⟩; (refine fitq ?_ ?_ ?_ <;> try exact trivial); (try any_goals (refine ⟨?_, ?_⟩)); (try any_goals (with_reducible rfl))))
            all_goals (repeat' (first | (refine And.intro ?_ ?_) | rfl))
          · have d2 : decide (e < r.count) = false := decide_eq_false c2
            have hn2 : extS (rs.take (k + 1)) a = some e := by rw [hn]; unfold extStep; rw [if_pos c1]; exact if_neg c2
            (have zx1 := @hkd; have zx2 := @hw; have zx3 := @hr; have zx4 := @d1; have zx5 := @d2; all_goals (try ((first | (with_reducible refine wp_id ?_) | (with_reducible refine does_id ?_) | (with_reducible refine ops_id ?_)); refine walk ?_; (repeat' (first | exact trivial | with_reducible refine And.intro ?_ ?_)); all_goals (repeat (first | (with_reducible refine ImpB.mk fun hb => ?_) | (with_reducible refine ImpK.mk fun hK => ?_) | (with_reducible refine ImpF.mk fun hF => ?_) | (with_reducible refine ImpQ.mk fun hp => ?_) | (with_reducible refine AllE.mk fun p => ?_) | (with_reducible refine AllR.mk fun rest => ?_) | (with_reducible refine AllK.mk fun K => ?_))))); repeat' (with_reducible refine And.intro ?_ ?_))
            (all_goals first | exact Int.natCast_nonneg _ | exact Int.ofNat_lt.2 (by assumption) | assumption | omega | exact Nat.le_refl _ | (exfalso; simp at hb; done) | (simp only [go_sem, decide_true, decide_false, Int.reduceToNat, Nat.min_eq_left, Nat.min_eq_right, Int.reducePow, Nat.reducePow, Int.reduceLE, Int.reduceLT, Int.reduceMul, Int.reduceAdd, Int.reduceSub, Int.reduceNeg, Bool.not_true, Bool.not_false, Bool.not_not, ↓reduceIte, Nat.reduceAdd, Nat.reduceSub, Nat.reduceMul, Nat.reduceEqDiff, reduceCtorEq, Nat.reduceLT, Nat.reduceLeDiff, Nat.reduceGT]; done) | (unfold capM; omega) | (simp only [List.length_drop, List.length_take, List.length_append, List.length_cons, List.length_nil]; omega) | skip)
            refine ⟨k + 1, ⟨(by omega : k + 1 ≤ rs.length), (by first | omega | (dsimp only; omega))⟩, ?_⟩
            dsimp only
            rw [hn2]
            (focus (refine ⟨_, _, Gh.refl, [], rfl, ?_⟩; (refine fitq ?_ ?_ ?_ <;> try exact trivial); (try any_goals (refine ⟨?_, ?_⟩)); (try any_goals (with_reducible rfl))))
            all_goals (repeat' (first | (refine And.intro ?_ ?_) | rfl))
        · have d1 : decide (r.apid = a) = false := decide_eq_false c1
          have hn2 : extS (rs.take (k + 1)) a = some e := by rw [hn]; unfold extStep; rw [if_neg c1]
          (have zx1 := @hkd; have zx2 := @hw; have zx3 := @hr; have zx4 := @d1; all_goals (try ((first | (with_reducible refine wp_id ?_) | (with_reducible refine does_id ?_) | (with_reducible refine ops_id ?_)); refine walk ?_; (repeat' (first | exact trivial | with_reducible refine And.intro ?_ ?_)); all_goals (repeat (first | (with_reducible refine ImpB.mk fun hb => ?_) | (with_reducible refine ImpK.mk fun hK => ?_) | (with_reducible refine ImpF.mk fun hF => ?_) | (with_reducible refine ImpQ.mk fun hp => ?_) | (with_reducible refine AllE.mk fun p => ?_) | (with_reducible refine AllR.mk fun rest => ?_) | (with_reducible refine AllK.mk fun K => ?_))))); repeat' (with_reducible refine And.intro ?_ ?_))
          (all_goals first | exact Int.natCast_nonneg _ | exact Int.ofNat_lt.2 (by assumption) | assumption | omega | exact Nat.le_refl _ | (exfalso; simp at hb; done) | (simp only [go_sem, decide_true, decide_false, Int.reduceToNat, Nat.min_eq_left, Nat.min_eq_right, Int.reducePow, Nat.reducePow, Int.reduceLE, Int.reduceLT, Int.reduceMul, Int.reduceAdd, Int.reduceSub, Int.reduceNeg, Bool.not_true, Bool.not_false, Bool.not_not, ↓reduceIte, Nat.reduceAdd, Nat.reduceSub, Nat.reduceMul, Nat.reduceEqDiff, reduceCtorEq, Nat.reduceLT, Nat.reduceLeDiff, Nat.reduceGT]; done) | (unfold capM; omega) | (simp only [List.length_drop, List.length_take, List.length_append, List.length_cons, List.length_nil]; omega) | skip)
          refine ⟨k + 1, ⟨(by omega : k + 1 ≤ rs.length), (by first | omega | (dsimp only; omega))⟩, ?_⟩
          dsimp only
          rw [hn2]
          (focus (refine ⟨_, _, Gh.refl, [], rfl, ?_⟩; (refine fitq ?_ ?_ ?_ <;> try exact trivial); (try any_goals (refine ⟨?_, ?_⟩)); (try any_goals (with_reducible rfl))))
          all_goals (repeat' (first | (refine And.intro ?_ ?_) | rfl))
    · have hkd : decide ((k : Int) < (rs.length : Int)) = false := decide_eq_false (by omega)
      have hfull : rs.take k = rs := List.take_of_length_le (by omega)
      have hb2 := extS_bnd a h k
      rw [hfull] at hb2 ⊢
      cases hs : extS rs a with
      | none =>
        have hR2 : extR rs a c = c := by unfold extR; rw [hs]
        (have zx1 := @hkd; all_goals (try ((first | (with_reducible refine wp_id ?_) | (with_reducible refine does_id ?_) | (with_reducible refine ops_id ?_)); refine walk ?_; (repeat' (first | exact trivial | with_reducible refine And.intro ?_ ?_)); all_goals (repeat (first | (with_reducible refine ImpB.mk fun hb => ?_) | (with_reducible refine ImpK.mk fun hK => ?_) | (with_reducible refine ImpF.mk fun hF => ?_) | (with_reducible refine ImpQ.mk fun hp => ?_) | (with_reducible refine AllE.mk fun p => ?_) | (with_reducible refine AllR.mk fun rest => ?_) | (with_reducible refine AllK.mk fun K => ?_))))); repeat' (with_reducible refine And.intro ?_ ?_))
        rw [hR2]
        (focus (refine ⟨_, _, Gh.refl, [], rfl, ?_⟩; (refine fitq ?_ ?_ ?_ <;> try exact trivial); (try any_goals (refine ⟨?_, ?_⟩)); (try any_goals (with_reducible rfl))))
        all_goals (repeat' (first | (refine And.intro ?_ ?_) | rfl))
      | some e =>
        have hR2 : extR rs a c = ext e c := by unfold extR; rw [hs]
        have he := hb2 e hk0 hs
        obtain ⟨m1, m2, m3⟩ := mod14 (c - e)
        have w1 : IntKind.i64.wrap (c - e) = c - e := wrap_i64 _ (by omega) (by omega)
        have w2 : IntKind.i64.wrap (Int.tmod (c - e) 16384) = Int.tmod (c - e) 16384 := wrap_i64 _ (by omega) (by omega)
        have w3 : IntKind.i64.wrap (Int.tmod (c - e) 16384 + 16384) = Int.tmod (c - e) 16384 + 16384 := wrap_i64 _ (by omega) (by omega)
        have w4 : IntKind.i64.wrap ((c - e) % 16384) = (c - e) % 16384 := wrap_i64 _ (by omega) (by omega)
        by_cases c2 : 8192 < (c - e) % 16384
        · have d2 : decide (8192 < (c - e) % 16384) = true := decide_eq_true c2
          have w5 : IntKind.i64.wrap ((c - e) % 16384 - 16384) = (c - e) % 16384 - 16384 := wrap_i64 _ (by omega) (by omega)
          have w6 : IntKind.i64.wrap (e + ((c - e) % 16384 - 16384)) = ext e c := by
            unfold ext
            rw [if_neg (by omega), wrap_i64 _ (by omega) (by omega)]; omega
          (have zx1 := @hkd; have zx2 := @m1; have zx3 := @w1; have zx4 := @w2; have zx5 := @w3; have zx6 := @w4; have zx7 := @d2; have zx8 := @w5; have zx9 := @w6; all_goals (try ((first | (with_reducible refine wp_id ?_) | (with_reducible refine does_id ?_) | (with_reducible refine ops_id ?_)); refine walk ?_; (repeat' (first | exact trivial | with_reducible refine And.intro ?_ ?_)); all_goals (repeat (first | (with_reducible refine ImpB.mk fun hb => ?_) | (with_reducible refine ImpK.mk fun hK => ?_) | (with_reducible refine ImpF.mk fun hF => ?_) | (with_reducible refine ImpQ.mk fun hp => ?_) | (with_reducible refine AllE.mk fun p => ?_) | (with_reducible refine AllR.mk fun rest => ?_) | (with_reducible refine AllK.mk fun K => ?_))))); repeat' (with_reducible refine And.intro ?_ ?_))
          any_goals exact absurd hb (by decide)
          rw [hR2]
          (focus (refine ⟨_, _, Gh.refl, [], rfl, ?_⟩; (refine fitq ?_ ?_ ?_ <;> try exact trivial); (try any_goals (refine ⟨?_, ?_⟩)); (try any_goals (with_reducible rfl))))
          all_goals (repeat' (first | (refine And.intro ?_ ?_) | rfl))
        · have d2 : decide (8192 < (c - e) % 16384) = false := decide_eq_false c2
          have w6 : IntKind.i64.wrap (e + (c - e) % 16384) = ext e c := by
            unfold ext
            rw [if_pos (by omega), wrap_i64 _ (by omega) (by omega)]
          (have zx1 := @hkd; have zx2 := @m1; have zx3 := @w1; have zx4 := @w2; have zx5 := @w3; have zx6 := @w4; have zx7 := @d2; have zx8 := @w6; all_goals (try ((first | (with_reducible refine wp_id ?_) | (with_reducible refine does_id ?_) | (with_reducible refine ops_id ?_)); refine walk ?_; (repeat' (first | exact trivial | with_reducible refine And.intro ?_ ?_)); all_goals (repeat (first | (with_reducible refine ImpB.mk fun hb => ?_) | (with_reducible refine ImpK.mk fun hK => ?_) | (with_reducible refine ImpF.mk fun hF => ?_) | (with_reducible refine ImpQ.mk fun hp => ?_) | (with_reducible refine AllE.mk fun p => ?_) | (with_reducible refine AllR.mk fun rest => ?_) | (with_reducible refine AllK.mk fun K => ?_))))); repeat' (with_reducible refine And.intro ?_ ?_))
          any_goals exact absurd hb (by decide)
          rw [hR2]
          (focus (refine ⟨_, _, Gh.refl, [], rfl, ?_⟩; (refine fitq ?_ ?_ ?_ <;> try exact trivial); (try any_goals (refine ⟨?_, ?_⟩)); (try any_goals (with_reducible rfl))))
          all_goals (repeat' (first | (refine And.intro ?_ ?_) | rfl))
theorem c_rext {h : List Ch} {K : KT} {rs : List REnt} {a c : Int} {x : AV} (H : K (.int .i64 (extR rs a c)) h) (b1 : brA [] h (.ro .ren rs) x) (e1 : okR rs) (s1 : 0 ≤ c ∧ c < 16384) : Does Try.prog 41 [x, .int .i64 a, .int .i64 c] h K :=
  frame_pure (b_rext rs a c e1 s1) (br_cons b1 (br_cons br_int (br_cons br_int br_nil))) (.inr rfl) (fun _ => rfl) H
abbrev i_rext := Ctr.mk (i := 0) (g := 41) @c_rext
attribute [instance] i_rext
end Go.V

set_option maxRecDepth 100000
set_option maxHeartbeats 8000000
namespace Go.V
open Go.Proofs
def hitB (a n : Int) (r : REnt) : Bool := decide (r.apid = a) && decide (r.count = n)
def itR (r : REnt) : Itm := ⟨r.apid, r.cnt, r.time, r.data⟩
def newR (i : Itm) (n : Int) : REnt := ⟨i.apid, i.count, i.time, i.data, n⟩
def addR (rs : List REnt) (i : Itm) : List REnt × Int :=
  if rightB i = false then (rs, 1)
  else match rs.find? (hitB i.apid (extR rs i.apid i.count)) with
    | some r => (rs, if sameI (itR r) i = true then 9 else 4)
    | none => (rs ++ [newR i (extR rs i.apid i.count)], 0)
theorem find_at {α : Type} {p : α → Bool} {d : α} : ∀ {l : List α} {k : Nat}, (∀ i, i < k → p (l.getD i d) = false) → k < l.length → p (l.getD k d) = true → l.find? p = some (l.getD k d)
  | [], _, _, h, _ => by simp at h
  | x :: l, 0, _, _, h => by
    have h : p x = true := h
    show (x :: l).find? p = some x
    rw [List.find?_cons_of_pos h]
  | x :: l, k + 1, h1, h2, h3 => by
    have h0 : p x = false := h1 0 (by omega)
    rw [List.find?_cons_of_neg (by rw [h0]; decide)]
    exact find_at (fun i hi => h1 (i + 1) (by omega)) (by simpa using h2) h3
theorem find_no {α : Type} {p : α → Bool} {d : α} : ∀ {l : List α}, (∀ i, i < l.length → p (l.getD i d) = false) → l.find? p = none
  | [], _ => rfl
  | x :: l, h => by
    have h0 : p x = false := h 0 (by simp)
    rw [List.find?_cons_of_neg (by rw [h0]; decide)]
    exact find_no (d := d) fun i hi => h (i + 1) (by simpa using hi)
theorem b_raddW (rs : List REnt) (i : Itm) (hr : rightB i = false) : DoesK Try.prog 0 21 [.ro .ren rs, .agg (itL i)] [] (EndF 0 (.tup [.ro .ren rs, .int .i64 1]) []) := by
  refine DoesK.close ?_
  obtain ⟨a, c, t, d⟩ := i
  dsimp only [itL]
  unfold rightB at hr
  by_cases c0 : a < 0
  · have d0 : decide (a < 0) = true := decide_eq_true c0
    refine w_body (rs := [.tmp 4, .tmp 5]) (tm := [.ro .ren rs, .agg [.int .i64 a, .int .i64 c, .int .i64 t, .ro .byte d], .any, .any, .any, .any, .any, .any, .any, .any, .any, .any, .any, .any, .any, .any, .any, .any, .any, .any, .any, .any, .any, .any, .any, .any, .any, .any, .any, .any, .any, .any, .any, .any, .any, .any, .any, .any, .any, .any, .any, .any, .any, .any, .any, .any, .any, .any, .any, .any, .any, .any, .any, .any, .any, .any, .any, .any, .any, .any, .any, .any, .any, .any, .any, .any, .any, .any, .any, .any, .any, .any, .any, .any, .any, .any, .any, .any, .any, .any, .any, .any, .any, .any, .any, .any, .any, .any, .any, .any, .any, .any, .any, .any, .any, .any, .any, .any, .any, .any, .any, .any, .any, .any, .any, .any, .any, .any, .any, .any]) fn_21 rfl rfl rfl rfl fun R hR => ?_
    (have zx1 := @d0; all_goals (try ((first | (with_reducible refine wp_id ?_) | (with_reducible refine does_id ?_) | (with_reducible refine ops_id ?_)); refine walk ?_; (repeat' (first | exact trivial | with_reducible refine And.intro ?_ ?_)); all_goals (repeat (first | (with_reducible refine ImpB.mk fun hb => ?_) | (with_reducible refine ImpK.mk fun hK => ?_) | (with_reducible refine ImpF.mk fun hF => ?_) | (with_reducible refine ImpQ.mk fun hp => ?_) | (with_reducible refine AllE.mk fun p => ?_) | (with_reducible refine AllR.mk fun rest => ?_) | (with_reducible refine AllK.mk fun K => ?_))))); repeat' (with_reducible refine And.intro ?_ ?_))
    (focus (refine ⟨_, _, Gh.refl, [], rfl, ?_⟩; (refine fitq ?_ ?_ ?_ <;> try exact trivial); (try any_goals (refine ⟨?_, ?_⟩)); (try any_goals (with_reducible rfl))))
    all_goals (repeat' (first | (refine And.intro ?_ ?_) | rfl))
  have d0 : decide (a < 0) = false := decide_eq_false c0
  by_cases c1 : 2046 < a
  · have d1 : decide (2046 < a) = true := decide_eq_true c1
    refine w_body (rs := [.tmp 4, .tmp 5]) (tm := [.ro .ren rs, .agg [.int .i64 a, .int .i64 c, .int .i64 t, .ro .byte d], .any, .any, .any, .any, .any, .any, .any, .any, .any, .any, .any, .any, .any, .any, .any, .any, .any, .any, .any, .any, .any, .any, .any, .any, .any, .any, .any, .any, .any, .any, .any, .any, .any, .any, .any, .any, .any, .any, .any, .any, .any, .any, .any, .any, .any, .any, .any, .any, .any, .any, .any, .any, .any, .any, .any, .any, .any, .any, .any, .any, .any, .any, .any, .any, .any, .any, .any, .any, .any, .any, .any, .any, .any, .any, .any, .any, .any, .any, .any, .any, .any, .any, .any, .any, .any, .any, .any, .any, .any, .any, .any, .any, .any, .any, .any, .any, .any, .any, .any, .any, .any, .any, .any, .any, .any, .any, .any, .any]) fn_21 rfl rfl rfl rfl fun R hR => ?_
    (have zx1 := @d0; have zx2 := @d1; all_goals (try ((first | (with_reducible refine wp_id ?_) | (with_reducible refine does_id ?_) | (with_reducible refine ops_id ?_)); refine walk ?_; (repeat' (first | exact trivial | with_reducible refine And.intro ?_ ?_)); all_goals (repeat (first | (with_reducible refine ImpB.mk fun hb => ?_) | (with_reducible refine ImpK.mk fun hK => ?_) | (with_reducible refine ImpF.mk fun hF => ?_) | (with_reducible refine ImpQ.mk fun hp => ?_) | (with_reducible refine AllE.mk fun p => ?_) | (with_reducible refine AllR.mk fun rest => ?_) | (with_reducible refine AllK.mk fun K => ?_))))); repeat' (with_reducible refine And.intro ?_ ?_))
    (focus (refine ⟨_, _, Gh.refl, [], rfl, ?_⟩; (refine fitq ?_ ?_ ?_ <;> try exact trivial); (try any_goals (refine ⟨?_, ?_⟩)); (try any_goals (with_reducible rfl))))
    all_goals (repeat' (first | (refine And.intro ?_ ?_) | rfl))
  have d1 : decide (2046 < a) = false := decide_eq_false c1
  by_cases c2 : c < 0
  · have d2 : decide (c < 0) = true := decide_eq_true c2
    refine w_body (rs := [.tmp 4, .tmp 5]) (tm := [.ro .ren rs, .agg [.int .i64 a, .int .i64 c, .int .i64 t, .ro .byte d], .any, .any, .any, .any, .any, .any, .any, .any, .any, .any, .any, .any, .any, .any, .any, .any, .any, .any, .any, .any, .any, .any, .any, .any, .any, .any, .any, .any, .any, .any, .any, .any, .any, .any, .any, .any, .any, .any, .any, .any, .any, .any, .any, .any, .any, .any, .any, .any, .any, .any, .any, .any, .any, .any, .any, .any, .any, .any, .any, .any, .any, .any, .any, .any, .any, .any, .any, .any, .any, .any, .any, .any, .any, .any, .any, .any, .any, .any, .any, .any, .any, .any, .any, .any, .any, .any, .any, .any, .any, .any, .any, .any, .any, .any, .any, .any, .any, .any, .any, .any, .any, .any, .any, .any, .any, .any, .any, .any]) fn_21 rfl rfl rfl rfl fun R hR => ?_
    (have zx1 := @d0; have zx2 := @d1; have zx3 := @d2; all_goals (try ((first | (with_reducible refine wp_id ?_) | (with_reducible refine does_id ?_) | (with_reducible refine ops_id ?_)); refine walk ?_; (repeat' (first | exact trivial | with_reducible refine And.intro ?_ ?_)); all_goals (repeat (first | (with_reducible refine ImpB.mk fun hb => ?_) | (with_reducible refine ImpK.mk fun hK => ?_) | (with_reducible refine ImpF.mk fun hF => ?_) | (with_reducible refine ImpQ.mk fun hp => ?_) | (with_reducible refine AllE.mk fun p => ?_) | (with_reducible refine AllR.mk fun rest => ?_) | (with_reducible refine AllK.mk fun K => ?_))))); repeat' (with_reducible refine And.intro ?_ ?_))
    (focus (refine ⟨_, _, Gh.refl, [], rfl, ?_⟩; (refine fitq ?_ ?_ ?_ <;> try exact trivial); (try any_goals (refine ⟨?_, ?_⟩)); (try any_goals (with_reducible rfl))))
    all_goals (repeat' (first | (refine And.intro ?_ ?_) | rfl))
  have d2 : decide (c < 0) = false := decide_eq_false c2
  by_cases c3 : 16383 < c
  · have d3 : decide (16383 < c) = true := decide_eq_true c3
    refine w_body (rs := [.tmp 4, .tmp 5]) (tm := [.ro .ren rs, .agg [.int .i64 a, .int .i64 c, .int .i64 t, .ro .byte d], .any, .any, .any, .any, .any, .any, .any, .any, .any, .any, .any, .any, .any, .any, .any, .any, .any, .any, .any, .any, .any, .any, .any, .any, .any, .any, .any, .any, .any, .any, .any, .any, .any, .any, .any, .any, .any, .any, .any, .any, .any, .any, .any, .any, .any, .any, .any, .any, .any, .any, .any, .any, .any, .any, .any, .any, .any, .any, .any, .any, .any, .any, .any, .any, .any, .any, .any, .any, .any, .any, .any, .any, .any, .any, .any, .any, .any, .any, .any, .any, .any, .any, .any, .any, .any, .any, .any, .any, .any, .any, .any, .any, .any, .any, .any, .any, .any, .any, .any, .any, .any, .any, .any, .any, .any, .any, .any, .any]) fn_21 rfl rfl rfl rfl fun R hR => ?_
    (have zx1 := @d0; have zx2 := @d1; have zx3 := @d2; have zx4 := @d3; all_goals (try ((first | (with_reducible refine wp_id ?_) | (with_reducible refine does_id ?_) | (with_reducible refine ops_id ?_)); refine walk ?_; (repeat' (first | exact trivial | with_reducible refine And.intro ?_ ?_)); all_goals (repeat (first | (with_reducible refine ImpB.mk fun hb => ?_) | (with_reducible refine ImpK.mk fun hK => ?_) | (with_reducible refine ImpF.mk fun hF => ?_) | (with_reducible refine ImpQ.mk fun hp => ?_) | (with_reducible refine AllE.mk fun p => ?_) | (with_reducible refine AllR.mk fun rest => ?_) | (with_reducible refine AllK.mk fun K => ?_))))); repeat' (with_reducible refine And.intro ?_ ?_))
    (focus (refine ⟨_, _, Gh.refl, [], rfl, ?_⟩; (refine fitq ?_ ?_ ?_ <;> try exact trivial); (try any_goals (refine ⟨?_, ?_⟩)); (try any_goals (with_reducible rfl))))
    all_goals (repeat' (first | (refine And.intro ?_ ?_) | rfl))
  have d3 : decide (16383 < c) = false := decide_eq_false c3
  by_cases c4 : t < 0
  · have d4 : decide (t < 0) = true := decide_eq_true c4
    refine w_body (rs := [.tmp 4, .tmp 5]) (tm := [.ro .ren rs, .agg [.int .i64 a, .int .i64 c, .int .i64 t, .ro .byte d], .any, .any, .any, .any, .any, .any, .any, .any, .any, .any, .any, .any, .any, .any, .any, .any, .any, .any, .any, .any, .any, .any, .any, .any, .any, .any, .any, .any, .any, .any, .any, .any, .any, .any, .any, .any, .any, .any, .any, .any, .any, .any, .any, .any, .any, .any, .any, .any, .any, .any, .any, .any, .any, .any, .any, .any, .any, .any, .any, .any, .any, .any, .any, .any, .any, .any, .any, .any, .any, .any, .any, .any, .any, .any, .any, .any, .any, .any, .any, .any, .any, .any, .any, .any, .any, .any, .any, .any, .any, .any, .any, .any, .any, .any, .any, .any, .any, .any, .any, .any, .any, .any, .any, .any, .any, .any, .any, .any]) fn_21 rfl rfl rfl rfl fun R hR => ?_
    (have zx1 := @d0; have zx2 := @d1; have zx3 := @d2; have zx4 := @d3; have zx5 := @d4; all_goals (try ((first | (with_reducible refine wp_id ?_) | (with_reducible refine does_id ?_) | (with_reducible refine ops_id ?_)); refine walk ?_; (repeat' (first | exact trivial | with_reducible refine And.intro ?_ ?_)); all_goals (repeat (first | (with_reducible refine ImpB.mk fun hb => ?_) | (with_reducible refine ImpK.mk fun hK => ?_) | (with_reducible refine ImpF.mk fun hF => ?_) | (with_reducible refine ImpQ.mk fun hp => ?_) | (with_reducible refine AllE.mk fun p => ?_) | (with_reducible refine AllR.mk fun rest => ?_) | (with_reducible refine AllK.mk fun K => ?_))))); repeat' (with_reducible refine And.intro ?_ ?_))
    (focus (refine ⟨_, _, Gh.refl, [], rfl, ?_⟩; (refine fitq ?_ ?_ ?_ <;> try exact trivial); (try any_goals (refine ⟨?_, ?_⟩)); (try any_goals (with_reducible rfl))))
    all_goals (repeat' (first | (refine And.intro ?_ ?_) | rfl))
  have d4 : decide (t < 0) = false := decide_eq_false c4
  by_cases c5 : 1099511627776 < t
  · have d5 : decide (1099511627776 < t) = true := decide_eq_true c5
    refine w_body (rs := [.tmp 4, .tmp 5]) (tm := [.ro .ren rs, .agg [.int .i64 a, .int .i64 c, .int .i64 t, .ro .byte d], .any, .any, .any, .any, .any, .any, .any, .any, .any, .any, .any, .any, .any, .any, .any, .any, .any, .any, .any, .any, .any, .any, .any, .any, .any, .any, .any, .any, .any, .any, .any, .any, .any, .any, .any, .any, .any, .any, .any, .any, .any, .any, .any, .any, .any, .any, .any, .any, .any, .any, .any, .any, .any, .any, .any, .any, .any, .any, .any, .any, .any, .any, .any, .any, .any, .any, .any, .any, .any, .any, .any, .any, .any, .any, .any, .any, .any, .any, .any, .any, .any, .any, .any, .any, .any, .any, .any, .any, .any, .any, .any, .any, .any, .any, .any, .any, .any, .any, .any, .any, .any, .any, .any, .any, .any, .any, .any, .any]) fn_21 rfl rfl rfl rfl fun R hR => ?_
    (have zx1 := @d0; have zx2 := @d1; have zx3 := @d2; have zx4 := @d3; have zx5 := @d4; have zx6 := @d5; all_goals (try ((first | (with_reducible refine wp_id ?_) | (with_reducible refine does_id ?_) | (with_reducible refine ops_id ?_)); refine walk ?_; (repeat' (first | exact trivial | with_reducible refine And.intro ?_ ?_)); all_goals (repeat (first | (with_reducible refine ImpB.mk fun hb => ?_) | (with_reducible refine ImpK.mk fun hK => ?_) | (with_reducible refine ImpF.mk fun hF => ?_) | (with_reducible refine ImpQ.mk fun hp => ?_) | (with_reducible refine AllE.mk fun p => ?_) | (with_reducible refine AllR.mk fun rest => ?_) | (with_reducible refine AllK.mk fun K => ?_))))); repeat' (with_reducible refine And.intro ?_ ?_))
    (focus (refine ⟨_, _, Gh.refl, [], rfl, ?_⟩; (refine fitq ?_ ?_ ?_ <;> try exact trivial); (try any_goals (refine ⟨?_, ?_⟩)); (try any_goals (with_reducible rfl))))
    all_goals (repeat' (first | (refine And.intro ?_ ?_) | rfl))
  have d5 : decide (1099511627776 < t) = false := decide_eq_false c5
  by_cases c6 : (4096 : Int) < (d.length : Int)
  · have d6 : decide ((4096 : Int) < (d.length : Int)) = true := decide_eq_true c6
    refine w_body (rs := [.tmp 4, .tmp 5]) (tm := [.ro .ren rs, .agg [.int .i64 a, .int .i64 c, .int .i64 t, .ro .byte d], .any, .any, .any, .any, .any, .any, .any, .any, .any, .any, .any, .any, .any, .any, .any, .any, .any, .any, .any, .any, .any, .any, .any, .any, .any, .any, .any, .any, .any, .any, .any, .any, .any, .any, .any, .any, .any, .any, .any, .any, .any, .any, .any, .any, .any, .any, .any, .any, .any, .any, .any, .any, .any, .any, .any, .any, .any, .any, .any, .any, .any, .any, .any, .any, .any, .any, .any, .any, .any, .any, .any, .any, .any, .any, .any, .any, .any, .any, .any, .any, .any, .any, .any, .any, .any, .any, .any, .any, .any, .any, .any, .any, .any, .any, .any, .any, .any, .any, .any, .any, .any, .any, .any, .any, .any, .any, .any, .any]) fn_21 rfl rfl rfl rfl fun R hR => ?_
    (have zx1 := @d0; have zx2 := @d1; have zx3 := @d2; have zx4 := @d3; have zx5 := @d4; have zx6 := @d5; have zx7 := @d6; all_goals (try ((first | (with_reducible refine wp_id ?_) | (with_reducible refine does_id ?_) | (with_reducible refine ops_id ?_)); refine walk ?_; (repeat' (first | exact trivial | with_reducible refine And.intro ?_ ?_)); all_goals (repeat (first | (with_reducible refine ImpB.mk fun hb => ?_) | (with_reducible refine ImpK.mk fun hK => ?_) | (with_reducible refine ImpF.mk fun hF => ?_) | (with_reducible refine ImpQ.mk fun hp => ?_) | (with_reducible refine AllE.mk fun p => ?_) | (with_reducible refine AllR.mk fun rest => ?_) | (with_reducible refine AllK.mk fun K => ?_))))); repeat' (with_reducible refine And.intro ?_ ?_))
    (focus (refine ⟨_, _, Gh.refl, [], rfl, ?_⟩; (refine fitq ?_ ?_ ?_ <;> try exact trivial); (try any_goals (refine ⟨?_, ?_⟩)); (try any_goals (with_reducible rfl))))
    all_goals (repeat' (first | (refine And.intro ?_ ?_) | rfl))
  have d6 : decide ((4096 : Int) < (d.length : Int)) = false := decide_eq_false c6
  exfalso
  simp only [Bool.and_eq_false_imp, decide_eq_true_eq, decide_eq_false_iff_not] at hr
  exact hr (by omega) (by omega) (by omega) (by omega) (by omega) (by omega) (by omega)
theorem b_radd52 (rs : List REnt) (i : Itm) (hr : rightB i = true) (h : okR rs) : DoesK Try.prog 0 21 [.ro .ren rs, .agg (itL i)] [] (EndF 0 (.tup [.ro .ren (addR rs i).1, .int .i64 (addR rs i).2]) []) := by
  refine DoesK.close ?_
  have hro : RoLit := .mk
  have hlr := h.len
  have q := rightB_of hr
  have hadd : addR rs i = match rs.find? (hitB i.apid (extR rs i.apid i.count)) with
    | some r => (rs, if sameI (itR r) i = true then 9 else 4)
    | none => (rs ++ [newR i (extR rs i.apid i.count)], 0) := by unfold addR; rw [if_neg (by rw [hr]; decide)]
  generalize addR rs i = AR at *
  obtain ⟨a, c, t, d⟩ := i
  dsimp only [itL] at q hadd ⊢
  obtain ⟨q1, q2, q3, q4, q5, q6, q7⟩ := q
  have d0 : decide (a < 0) = false := decide_eq_false (by omega)
  have d1 : decide (2046 < a) = false := decide_eq_false (by omega)
  have d2 : decide (c < 0) = false := decide_eq_false (by omega)
  have d3 : decide (16383 < c) = false := decide_eq_false (by omega)
  have d4 : decide (t < 0) = false := decide_eq_false (by omega)
  have d5 : decide (1099511627776 < t) = false := decide_eq_false (by omega)
  have d6 : decide ((4096 : Int) < (d.length : Int)) = false := decide_eq_false (by omega)
  have hc2 : 0 ≤ c ∧ c < 16384 := ⟨q3, q4⟩
  obtain ⟨N, hN⟩ : ∃ N, extR rs a c = N := ⟨_, rfl⟩
  rw [hN] at hadd
  have D := And.intro d0 (And.intro d1 (And.intro d2 (And.intro d3 (And.intro d4 (And.intro d5 d6)))))
  refine w_body (rs := [.tmp 4, .tmp 5]) (tm := [.ro .ren rs, .agg [.int .i64 a, .int .i64 c, .int .i64 t, .ro .byte d], .any, .any, .any, .any, .any, .any, .any, .any, .any, .any, .any, .any, .any, .any, .any, .any, .any, .any, .any, .any, .any, .any, .any, .any, .any, .any, .any, .any, .any, .any, .any, .any, .any, .any, .any, .any, .any, .any, .any, .any, .any, .any, .any, .any, .any, .any, .any, .any, .any, .any, .any, .any, .any, .any, .any, .any, .any, .any, .any, .any, .any, .any, .any, .any, .any, .any, .any, .any, .any, .any, .any, .any, .any, .any, .any, .any, .any, .any, .any, .any, .any, .any, .any, .any, .any, .any, .any, .any, .any, .any, .any, .any, .any, .any, .any, .any, .any, .any, .any, .any, .any, .any, .any, .any, .any, .any, .any, .any]) fn_21 rfl rfl rfl rfl fun R hR => ?_
  (have zx1 := @D; have zx2 := @hN; all_goals (try ((first | (with_reducible refine wp_id ?_) | (with_reducible refine does_id ?_) | (with_reducible refine ops_id ?_)); refine walk ?_; (repeat' (first | exact trivial | with_reducible refine And.intro ?_ ?_)); all_goals (repeat (first | (with_reducible refine ImpB.mk fun hb => ?_) | (with_reducible refine ImpK.mk fun hK => ?_) | (with_reducible refine ImpF.mk fun hF => ?_) | (with_reducible refine ImpQ.mk fun hp => ?_) | (with_reducible refine AllE.mk fun p => ?_) | (with_reducible refine AllR.mk fun rest => ?_) | (with_reducible refine AllK.mk fun K => ?_))))); repeat' (with_reducible refine And.intro ?_ ?_))
  any_goals ((try (refine w_seq fun K hK => ?_)); (try (refine w_block ?_)); refine w_loop (A := Nat) (fun k => k ≤ rs.length ∧ ∀ i, i < k → hitB a N (rs.getD i REnt.zero) = false) (fun k => rs.length - k) (fun k => [(7, .int .i64 k)]) (fun k => []) (0) (ws := ?ws1) (tk := ?tk1) ?hw1 ?ht1 ?hi ?h0 ?LH1; (case hw1 => simp only [go_sem, decide_true, decide_false, Int.reduceToNat, Nat.min_eq_left, Nat.min_eq_right, Int.reducePow, Nat.reducePow, Int.reduceLE, Int.reduceLT, Int.reduceMul, Int.reduceAdd, Int.reduceSub, Int.reduceNeg, Bool.not_true, Bool.not_false, Bool.not_not, ↓reduceIte, Nat.reduceAdd, Nat.reduceSub, Nat.reduceMul, Nat.reduceEqDiff, reduceCtorEq, Nat.reduceLT, Nat.reduceLeDiff, Nat.reduceGT]; exact rfl); (case ht1 => simp only [go_sem, decide_true, decide_false, Int.reduceToNat, Nat.min_eq_left, Nat.min_eq_right, Int.reducePow, Nat.reducePow, Int.reduceLE, Int.reduceLT, Int.reduceMul, Int.reduceAdd, Int.reduceSub, Int.reduceNeg, Bool.not_true, Bool.not_false, Bool.not_not, ↓reduceIte, Nat.reduceAdd, Nat.reduceSub, Nat.reduceMul, Nat.reduceEqDiff, reduceCtorEq, Nat.reduceLT, Nat.reduceLeDiff, Nat.reduceGT]; exact rfl); (case' LH1 => rintro k E t hx hE ht; simp only [go_sem] at ht; subst ht; simp only [go_sem]; try dsimp only at hx))
  case hi => exact ⟨Nat.zero_le _, fun i hi => absurd hi (by omega)⟩
  case h0 =>
    (focus (refine ⟨_, _, Gh.refl, [0], rfl, ?_⟩; (refine fitq ?_ ?_ ?_ <;> try exact trivial); (try any_goals (refine ⟨?_, ?_⟩)); (try any_goals (with_reducible rfl))))
    all_goals (repeat' (first | (refine And.intro ?_ ?_) | rfl))
  case LH1 =>
    obtain ⟨hk0, hka⟩ := hx
    by_cases hk : k < rs.length
    · have hkd : decide ((k : Int) < (rs.length : Int)) = true := decide_eq_true (by omega)
      have hw : IntKind.i64.wrap ((k : Int) + 1) = ((k + 1 : Nat) : Int) := by rw [wrap_i64 _ (by omega) (by omega)]; omega
      have hfa := find_at (p := hitB a N) (d := REnt.zero) hka hk
      obtain ⟨r, hr2⟩ : ∃ r, rs.getD k REnt.zero = r := ⟨_, rfl⟩
      rw [hr2] at hfa
      by_cases c1 : r.apid = a
      · have e1 : decide (r.apid = a) = true := decide_eq_true c1
        by_cases c2 : r.count = N
        · have e2 : decide (r.count = N) = true := decide_eq_true c2
          have hf := hfa (by unfold hitB; rw [e1, e2]; rfl)
          rw [hf] at hadd
          cases hs : sameI (itR r) ⟨a, c, t, d⟩ with
          | true =>
            have hs2 : sameI ⟨r.apid, r.cnt, r.time, r.data⟩ ⟨a, c, t, d⟩ = true := hs
            have hadd : AR = (rs, 9) := by rw [hadd]; dsimp only; rw [if_pos hs]
            (have zx1 := @hkd; have zx2 := @hw; have zx3 := @hr2; have zx4 := @e1; have zx5 := @e2; have zx6 := @hs2; all_goals (try ((first | (with_reducible refine wp_id ?_) | (with_reducible refine does_id ?_) | (with_reducible refine ops_id ?_)); refine walk ?_; (repeat' (first | exact trivial | with_reducible refine And.intro ?_ ?_)); all_goals (repeat (first | (with_reducible refine ImpB.mk fun hb => ?_) | (with_reducible refine ImpK.mk fun hK => ?_) | (with_reducible refine ImpF.mk fun hF => ?_) | (with_reducible refine ImpQ.mk fun hp => ?_) | (with_reducible refine AllE.mk fun p => ?_) | (with_reducible refine AllR.mk fun rest => ?_) | (with_reducible refine AllK.mk fun K => ?_))))); repeat' (with_reducible refine And.intro ?_ ?_))
            (all_goals first | exact Int.natCast_nonneg _ | exact Int.ofNat_lt.2 (by assumption) | assumption | omega | exact Nat.le_refl _ | (exfalso; simp at hb; done) | (simp only [go_sem, decide_true, decide_false, Int.reduceToNat, Nat.min_eq_left, Nat.min_eq_right, Int.reducePow, Nat.reducePow, Int.reduceLE, Int.reduceLT, Int.reduceMul, Int.reduceAdd, Int.reduceSub, Int.reduceNeg, Bool.not_true, Bool.not_false, Bool.not_not, ↓reduceIte, Nat.reduceAdd, Nat.reduceSub, Nat.reduceMul, Nat.reduceEqDiff, reduceCtorEq, Nat.reduceLT, Nat.reduceLeDiff, Nat.reduceGT]; done) | (unfold capM; omega) | (simp only [List.length_drop, List.length_take, List.length_append, List.length_cons, List.length_nil]; omega) | skip)
            rw [hadd]
            (focus (refine ⟨_, _, Gh.refl, [], rfl, ?_⟩; (refine fitq ?_ ?_ ?_ <;> try exact trivial); (try any_goals (refine ⟨?_, ?_⟩)); (try any_goals (with_reducible rfl))))
            all_goals (repeat' (first | (refine And.intro ?_ ?_) | rfl))
          | false =>
            have hs2 : sameI ⟨r.apid, r.cnt, r.time, r.data⟩ ⟨a, c, t, d⟩ = false := hs
            have hadd : AR = (rs, 4) := by rw [hadd]; dsimp only; rw [if_neg (by rw [hs]; decide)]
            (have zx1 := @hkd; have zx2 := @hw; have zx3 := @hr2; have zx4 := @e1; have zx5 := @e2; have zx6 := @hs2; all_goals (try ((first | (with_reducible refine wp_id ?_) | (with_reducible refine does_id ?_) | (with_reducible refine ops_id ?_)); refine walk ?_; (repeat' (first | exact trivial | with_reducible refine And.intro ?_ ?_)); all_goals (repeat (first | (with_reducible refine ImpB.mk fun hb => ?_) | (with_reducible refine ImpK.mk fun hK => ?_) | (with_reducible refine ImpF.mk fun hF => ?_) | (with_reducible refine ImpQ.mk fun hp => ?_) | (with_reducible refine AllE.mk fun p => ?_) | (with_reducible refine AllR.mk fun rest => ?_) | (with_reducible refine AllK.mk fun K => ?_))))); repeat' (with_reducible refine And.intro ?_ ?_))
            (all_goals first | exact Int.natCast_nonneg _ | exact Int.ofNat_lt.2 (by assumption) | assumption | omega | exact Nat.le_refl _ | (exfalso; simp at hb; done) | (simp only [go_sem, decide_true, decide_false, Int.reduceToNat, Nat.min_eq_left, Nat.min_eq_right, Int.reducePow, Nat.reducePow, Int.reduceLE, Int.reduceLT, Int.reduceMul, Int.reduceAdd, Int.reduceSub, Int.reduceNeg, Bool.not_true, Bool.not_false, Bool.not_not, ↓reduceIte, Nat.reduceAdd, Nat.reduceSub, Nat.reduceMul, Nat.reduceEqDiff, reduceCtorEq, Nat.reduceLT, Nat.reduceLeDiff, Nat.reduceGT]; done) | (unfold capM; omega) | (simp only [List.length_drop, List.length_take, List.length_append, List.length_cons, List.length_nil]; omega) | skip)
            rw [hadd]
            (focus (refine ⟨_, _, Gh.refl, [], rfl, ?_⟩; (refine fitq ?_ ?_ ?_ <;> try exact trivial); (try any_goals (refine ⟨?_, ?_⟩)); (try any_goals (with_reducible rfl))))
            all_goals (repeat' (first | (refine And.intro ?_ ?_) | rfl))
        · have e2 : decide (r.count = N) = false := decide_eq_false c2
          (have zx1 := @hkd; have zx2 := @hw; have zx3 := @hr2; have zx4 := @e1; have zx5 := @e2; all_goals (try ((first | (with_reducible refine wp_id ?_) | (with_reducible refine does_id ?_) | (with_reducible refine ops_id ?_)); refine walk ?_; (repeat' (first | exact trivial | with_reducible refine And.intro ?_ ?_)); all_goals (repeat (first | (with_reducible refine ImpB.mk fun hb => ?_) | (with_reducible refine ImpK.mk fun hK => ?_) | (with_reducible refine ImpF.mk fun hF => ?_) | (with_reducible refine ImpQ.mk fun hp => ?_) | (with_reducible refine AllE.mk fun p => ?_) | (with_reducible refine AllR.mk fun rest => ?_) | (with_reducible refine AllK.mk fun K => ?_))))); repeat' (with_reducible refine And.intro ?_ ?_))
          (all_goals first | exact Int.natCast_nonneg _ | exact Int.ofNat_lt.2 (by assumption) | assumption | omega | exact Nat.le_refl _ | (exfalso; simp at hb; done) | (simp only [go_sem, decide_true, decide_false, Int.reduceToNat, Nat.min_eq_left, Nat.min_eq_right, Int.reducePow, Nat.reducePow, Int.reduceLE, Int.reduceLT, Int.reduceMul, Int.reduceAdd, Int.reduceSub, Int.reduceNeg, Bool.not_true, Bool.not_false, Bool.not_not, ↓reduceIte, Nat.reduceAdd, Nat.reduceSub, Nat.reduceMul, Nat.reduceEqDiff, reduceCtorEq, Nat.reduceLT, Nat.reduceLeDiff, Nat.reduceGT]; done) | (unfold capM; omega) | (simp only [List.length_drop, List.length_take, List.length_append, List.length_cons, List.length_nil]; omega) | skip)
          refine ⟨k + 1, ⟨⟨(by omega : k + 1 ≤ rs.length), fun i hi => ?_⟩, (by first | omega | (dsimp only; omega))⟩, ?_⟩
          · rcases Nat.lt_or_ge i k with z | z
            · exact hka i z
            · obtain rfl : i = k := by omega
              rw [hr2]; unfold hitB; rw [e1, e2]; rfl
          (focus (refine ⟨_, _, Gh.refl, [0], rfl, ?_⟩; (refine fitq ?_ ?_ ?_ <;> try exact trivial); (try any_goals (refine ⟨?_, ?_⟩)); (try any_goals (with_reducible rfl))))
          all_goals (repeat' (first | (refine And.intro ?_ ?_) | rfl))
      · have e1 : decide (r.apid = a) = false := decide_eq_false c1
        (have zx1 := @hkd; have zx2 := @hw; have zx3 := @hr2; have zx4 := @e1; all_goals (try ((first | (with_reducible refine wp_id ?_) | (with_reducible refine does_id ?_) | (with_reducible refine ops_id ?_)); refine walk ?_; (repeat' (first | exact trivial | with_reducible refine And.intro ?_ ?_)); all_goals (repeat (first | (with_reducible refine ImpB.mk fun hb => ?_) | (with_reducible refine ImpK.mk fun hK => ?_) | (with_reducible refine ImpF.mk fun hF => ?_) | (with_reducible refine ImpQ.mk fun hp => ?_) | (with_reducible refine AllE.mk fun p => ?_) | (with_reducible refine AllR.mk fun rest => ?_) | (with_reducible refine AllK.mk fun K => ?_))))); repeat' (with_reducible refine And.intro ?_ ?_))
        (all_goals first | exact Int.natCast_nonneg _ | exact Int.ofNat_lt.2 (by assumption) | assumption | omega | exact Nat.le_refl _ | (exfalso; simp at hb; done) | (simp only [go_sem, decide_true, decide_false, Int.reduceToNat, Nat.min_eq_left, Nat.min_eq_right, Int.reducePow, Nat.reducePow, Int.reduceLE, Int.reduceLT, Int.reduceMul, Int.reduceAdd, Int.reduceSub, Int.reduceNeg, Bool.not_true, Bool.not_false, Bool.not_not, ↓reduceIte, Nat.reduceAdd, Nat.reduceSub, Nat.reduceMul, Nat.reduceEqDiff, reduceCtorEq, Nat.reduceLT, Nat.reduceLeDiff, Nat.reduceGT]; done) | (unfold capM; omega) | (simp only [List.length_drop, List.length_take, List.length_append, List.length_cons, List.length_nil]; omega) | skip)
        refine ⟨k + 1, ⟨⟨(by omega : k + 1 ≤ rs.length), fun i hi => ?_⟩, (by first | omega | (dsimp only; omega))⟩, ?_⟩
        · rcases Nat.lt_or_ge i k with z | z
          · exact hka i z
          · obtain rfl : i = k := by omega
            rw [hr2]; unfold hitB; rw [e1]; rfl
        (focus (refine ⟨_, _, Gh.refl, [0], rfl, ?_⟩; (refine fitq ?_ ?_ ?_ <;> try exact trivial); (try any_goals (refine ⟨?_, ?_⟩)); (try any_goals (with_reducible rfl))))
        all_goals (repeat' (first | (refine And.intro ?_ ?_) | rfl))
    · have hkd : decide ((k : Int) < (rs.length : Int)) = false := decide_eq_false (by omega)
      have hf := find_no (p := hitB a N) (d := REnt.zero) (l := rs) fun i hi => hka i (by omega)
      rw [hf] at hadd
      have hadd : AR = (rs ++ [⟨a, c, t, d, N⟩], 0) := hadd
      (have zx1 := @hkd; all_goals (try ((first | (with_reducible refine wp_id ?_) | (with_reducible refine does_id ?_) | (with_reducible refine ops_id ?_)); refine walk ?_; (repeat' (first | exact trivial | with_reducible refine And.intro ?_ ?_)); all_goals (repeat (first | (with_reducible refine ImpB.mk fun hb => ?_) | (with_reducible refine ImpK.mk fun hK => ?_) | (with_reducible refine ImpF.mk fun hF => ?_) | (with_reducible refine ImpQ.mk fun hp => ?_) | (with_reducible refine AllE.mk fun p => ?_) | (with_reducible refine AllR.mk fun rest => ?_) | (with_reducible refine AllK.mk fun K => ?_))))); repeat' (with_reducible refine And.intro ?_ ?_))
      (all_goals first | exact Int.natCast_nonneg _ | exact Int.ofNat_lt.2 (by assumption) | assumption | omega | exact Nat.le_refl _ | (exfalso; simp at hb; done) | (simp only [go_sem, decide_true, decide_false, Int.reduceToNat, Nat.min_eq_left, Nat.min_eq_right, Int.reducePow, Nat.reducePow, Int.reduceLE, Int.reduceLT, Int.reduceMul, Int.reduceAdd, Int.reduceSub, Int.reduceNeg, Bool.not_true, Bool.not_false, Bool.not_not, ↓reduceIte, Nat.reduceAdd, Nat.reduceSub, Nat.reduceMul, Nat.reduceEqDiff, reduceCtorEq, Nat.reduceLT, Nat.reduceLeDiff, Nat.reduceGT]; done) | (unfold capM; omega) | (simp only [List.length_drop, List.length_take, List.length_append, List.length_cons, List.length_nil]; omega) | skip)
      all_goals
        rw [hadd]
        have hll : rs.length + 1 = (rs ++ [(⟨a, c, t, d, N⟩ : REnt)]).length := by simp
        rw [hll]
        refine ⟨_, _, gh_frz (t := 3) (e := .ren) (xs := rs ++ [⟨a, c, t, d, N⟩]) rfl ?_ ?_, [], rfl, ?_⟩
        · simp only [go_sem, decide_true, decide_false, Int.reduceToNat, Nat.min_eq_left, Nat.min_eq_right, Int.reducePow, Nat.reducePow, Int.reduceLE, Int.reduceLT, Int.reduceMul, Int.reduceAdd, Int.reduceSub, Int.reduceNeg, Bool.not_true, Bool.not_false, Bool.not_not, ↓reduceIte, Nat.reduceAdd, Nat.reduceSub, Nat.reduceMul, Nat.reduceEqDiff, reduceCtorEq, Nat.reduceLT, Nat.reduceLeDiff, Nat.reduceGT]
          all_goals exact Nat.le_refl _
        · simp only [go_sem, decide_true, decide_false, Int.reduceToNat, Nat.min_eq_left, Nat.min_eq_right, Int.reducePow, Nat.reducePow, Int.reduceLE, Int.reduceLT, Int.reduceMul, Int.reduceAdd, Int.reduceSub, Int.reduceNeg, Bool.not_true, Bool.not_false, Bool.not_not, ↓reduceIte, Nat.reduceAdd, Nat.reduceSub, Nat.reduceMul, Nat.reduceEqDiff, reduceCtorEq, Nat.reduceLT, Nat.reduceLeDiff, Nat.reduceGT]
        · (refine fitq ?_ ?_ ?_ <;> try exact trivial)
          all_goals exact (List.take_of_length_le (by rw [List.length_append]; exact Nat.le_refl _)).symm
theorem c_raddX {h : List Ch} {K : KT} {rs qs : List REnt} {a c t r : Int} {d : List UInt8} (H : K (.tup [.ro .ren qs, .int .i64 r]) h) (e1 : okR rs) (e3 : addR rs ⟨a, c, t, d⟩ = (qs, r)) : Does Try.prog 21 [.ro .ren rs, .agg [.int .i64 a, .int .i64 c, .int .i64 t, .ro .byte d]] h K := by
  cases hr : rightB ⟨a, c, t, d⟩ with
  | false =>
    unfold addR at e3
    rw [if_pos hr] at e3
    obtain ⟨rfl, rfl⟩ := Prod.mk.inj e3
    exact frame_pure (b_raddW rs ⟨a, c, t, d⟩ hr) (br_cons br_ro (br_cons (br_it ⟨a, c, t, d⟩) br_nil)) (.inl rfl) (fun _ => rfl) H
  | true =>
    have b := b_radd52 rs ⟨a, c, t, d⟩ hr e1
    rw [e3] at b
    exact frame_pure b (br_cons br_ro (br_cons (br_it ⟨a, c, t, d⟩) br_nil)) (.inl rfl) (fun _ => rfl) H
abbrev i_raddX := Ctr.mk (i := 0) (g := 21) @c_raddX
attribute [instance] i_raddX
end Go.V
