/-
  ArchiveFills: gaps are exactly the missing packets.
  From the arguments of a given statement to abstract values: what is read as data lies for good.
  The arguments of the statements of chapter 52 as abstract values.
-/
import Derived.Test.YtoohlpieakeecaaPart16
import Derived.ChangeArms
import Derived.ChangeShapes
import Derived.ChangeReads
import Derived.DataReads
import Derived.Below
import Derived.OpenShut
import Derived.RowKit
import Derived.Carry
set_option linter.unusedVariables false
set_option linter.unusedSimpArgs false
set_option maxRecDepth 100000
set_option maxHeartbeats 8000000
namespace Go.V
open Go.Proofs
attribute [-go_sem] AE AO
theorem wantF_next (l : List Rng) (lo hi : Int) {k : Nat} (h : k < l.length) : wantF lo hi (l.take (k + 1)) = remF (ofL (wantF lo hi (l.take k))) (rAt l k) := by
  unfold wantF
  rw [take_next h, List.foldl_append]
  rfl
theorem wantF_len (lo hi : Int) (l : List Rng) : ∀ k, k ≤ l.length → (wantF lo hi (l.take k)).length ≤ k + 1
  | 0, _ => Nat.le_refl _
  | k + 1, h => by
    rw [wantF_next l lo hi (by omega)]
    have h1 := remF_len (r := rAt l k) (of_vld (wantF lo hi (l.take k)))
    have h2 := of_len (wantF lo hi (l.take k))
    have h3 := wantF_len lo hi l k (by omega)
    omega
theorem fX_okC (st : Int) (l : List Int) (k : Nat) (hk : k ≤ 1000) : okC (fX st l k) := by
  have h2 := (fs_ok l k).lens.1
  refine ⟨by rw [fX_len]; omega, fun i => ?_⟩
  have := fX_cnt st l k i
  omega
theorem fH_bnd (l : List Int) {k : Nat} (hk : 0 < k) : 0 ≤ fLow l k ∧ fLow l k ≤ fHigh l k ∧ fHigh l k < 8000 := by
  have p := fs_ok l k
  obtain ⟨q1, q2⟩ := p.ends hk
  have r1 := p.rng _ q1
  have r2 := p.rng _ q2
  have r3 := p.bnd _ q1
  omega
theorem want_bnd {lo hi : Int} {hv : List Rng} (h : lo ≤ hi) {i : Nat} (hi2 : i < (wantF lo hi hv).length) : lo ≤ (rAt (wantF lo hi hv) i).from_ ∧ (rAt (wantF lo hi hv) i).from_ < (rAt (wantF lo hi hv) i).to_ ∧ (rAt (wantF lo hi hv) i).to_ ≤ hi + 1 := by
  have v0 : Vld ([⟨lo, hi + 1⟩] : List Rng) := Vld.cons (by show lo < hi + 1; omega) (by simp) .nil
  have w := wantK_ok hv v0
  have hm := rAt_mem hi2
  have hv2 : (rAt (wantF lo hi hv) i).from_ < (rAt (wantF lo hi hv) i).to_ := w.1.ne _ hm
  have h1 := memR_one.1 ((w.2 _).1 ⟨_, hm, Int.le_refl _, hv2⟩).1
  have h2 := memR_one.1 ((w.2 ((rAt (wantF lo hi hv) i).to_ - 1)).1 ⟨_, hm, by omega, by omega⟩).1
  have h3 : lo ≤ (rAt (wantF lo hi hv) i).from_ := h1.1
  have h4 : (rAt (wantF lo hi hv) i).to_ - 1 < hi + 1 := h2.2
  omega
theorem b_fills (st : Int) (l : List Int) (hst : -9223372036854775808 ≤ st ∧ st ≤ 9223372036854775807) (hln : l.length ≤ 9223372036854775807) :
    DoesK Try.prog 0 3 [.int .i64 st, .ro .int l] [] (EndF 0 (.bool true) []) := by
  refine DoesK.close ?_
  have hro : RoLit := .mk
  refine w_body (rs := [.tmp 4]) (tm := [.int .i64 st, .ro .int l, .any, .any, .any, .any, .any, .any, .any, .any, .any, .any, .any, .any, .any, .any, .any, .any, .any, .any, .any, .any, .any, .any, .any, .any, .any, .any, .any, .any, .any, .any, .any, .any, .any, .any, .any, .any, .any, .any, .any, .any, .any, .any, .any, .any, .any, .any, .any, .any, .any, .any, .any, .any, .any, .any, .any, .any, .any, .any, .any, .any, .any, .any, .any, .any, .any, .any, .any, .any, .any, .any, .any, .any, .any, .any, .any, .any, .any, .any, .any, .any, .any, .any, .any, .any, .any, .any, .any, .any, .any, .any, .any, .any, .any, .any, .any, .any, .any, .any, .any, .any, .any, .any, .any, .any, .any, .any, .any, .any, .any, .any, .any, .any, .any, .any, .any, .any, .any, .any, .any, .any, .any, .any, .any, .any, .any, .any, .any, .any, .any, .any, .any, .any, .any, .any, .any, .any, .any, .any, .any, .any, .any, .any, .any, .any, .any, .any, .any, .any, .any, .any, .any, .any, .any, .any, .any, .any, .any, .any]) fn_3 rfl rfl rfl rfl fun R hR => ?_
  by_cases c0 : st < 0
  · have d0 : decide (st < 0) = true := decide_eq_true c0
    (have zx1 := @d0; all_goals (try ((first | (with_reducible refine wp_id ?_) | (with_reducible refine does_id ?_) | (with_reducible refine ops_id ?_)); refine walk ?_; (repeat' (first | exact trivial | with_reducible refine And.intro ?_ ?_)); all_goals (repeat (first | (with_reducible refine ImpB.mk fun hb => ?_) | (with_reducible refine ImpK.mk fun hK => ?_) | (with_reducible refine ImpF.mk fun hF => ?_) | (with_reducible refine ImpQ.mk fun hp => ?_) | (with_reducible refine AllE.mk fun p => ?_) | (with_reducible refine AllR.mk fun rest => ?_) | (with_reducible refine AllK.mk fun K => ?_))))); repeat' (with_reducible refine And.intro ?_ ?_))
    (focus (refine ⟨_, _, Gh.refl, [], rfl, ?_⟩; (refine fitq ?_ ?_ ?_ <;> try exact trivial); (try any_goals (refine ⟨?_, ?_⟩)); (try any_goals (with_reducible rfl))))
    all_goals (repeat' (first | (refine And.intro ?_ ?_) | rfl))
  have d0 : decide (st < 0) = false := decide_eq_false c0
  by_cases c1 : 16383 < st
  · have d1 : decide (16383 < st) = true := decide_eq_true c1
    (have zx1 := @d0; have zx2 := @d1; all_goals (try ((first | (with_reducible refine wp_id ?_) | (with_reducible refine does_id ?_) | (with_reducible refine ops_id ?_)); refine walk ?_; (repeat' (first | exact trivial | with_reducible refine And.intro ?_ ?_)); all_goals (repeat (first | (with_reducible refine ImpB.mk fun hb => ?_) | (with_reducible refine ImpK.mk fun hK => ?_) | (with_reducible refine ImpF.mk fun hF => ?_) | (with_reducible refine ImpQ.mk fun hp => ?_) | (with_reducible refine AllE.mk fun p => ?_) | (with_reducible refine AllR.mk fun rest => ?_) | (with_reducible refine AllK.mk fun K => ?_))))); repeat' (with_reducible refine And.intro ?_ ?_))
    (focus (refine ⟨_, _, Gh.refl, [], rfl, ?_⟩; (refine fitq ?_ ?_ ?_ <;> try exact trivial); (try any_goals (refine ⟨?_, ?_⟩)); (try any_goals (with_reducible rfl))))
    all_goals (repeat' (first | (refine And.intro ?_ ?_) | rfl))
  have d1 : decide (16383 < st) = false := decide_eq_false c1
  by_cases c2 : 200 < l.length
  · have d2 : decide ((200 : Int) < (l.length : Int)) = true := decide_eq_true (by omega)
    (have zx1 := @d0; have zx2 := @d1; have zx3 := @d2; all_goals (try ((first | (with_reducible refine wp_id ?_) | (with_reducible refine does_id ?_) | (with_reducible refine ops_id ?_)); refine walk ?_; (repeat' (first | exact trivial | with_reducible refine And.intro ?_ ?_)); all_goals (repeat (first | (with_reducible refine ImpB.mk fun hb => ?_) | (with_reducible refine ImpK.mk fun hK => ?_) | (with_reducible refine ImpF.mk fun hF => ?_) | (with_reducible refine ImpQ.mk fun hp => ?_) | (with_reducible refine AllE.mk fun p => ?_) | (with_reducible refine AllR.mk fun rest => ?_) | (with_reducible refine AllK.mk fun K => ?_))))); repeat' (with_reducible refine And.intro ?_ ?_))
    (focus (refine ⟨_, _, Gh.refl, [], rfl, ?_⟩; (refine fitq ?_ ?_ ?_ <;> try exact trivial); (try any_goals (refine ⟨?_, ?_⟩)); (try any_goals (with_reducible rfl))))
    all_goals (repeat' (first | (refine And.intro ?_ ?_) | rfl))
  have d2 : decide ((200 : Int) < (l.length : Int)) = false := decide_eq_false (by omega)
  (have zx1 := @d0; have zx2 := @d1; have zx3 := @d2; all_goals (try ((first | (with_reducible refine wp_id ?_) | (with_reducible refine does_id ?_) | (with_reducible refine ops_id ?_)); refine walk ?_; (repeat' (first | exact trivial | with_reducible refine And.intro ?_ ?_)); all_goals (repeat (first | (with_reducible refine ImpB.mk fun hb => ?_) | (with_reducible refine ImpK.mk fun hK => ?_) | (with_reducible refine ImpF.mk fun hF => ?_) | (with_reducible refine ImpQ.mk fun hp => ?_) | (with_reducible refine AllE.mk fun p => ?_) | (with_reducible refine AllR.mk fun rest => ?_) | (with_reducible refine AllK.mk fun K => ?_))))); repeat' (with_reducible refine And.intro ?_ ?_))
  any_goals ((try (refine w_seq fun K hK => ?_)); (try (refine w_block ?_)); refine w_loop (A := Nat) (fun k => k ≤ l.length) (fun k => l.length - k) (fun k => [(6, .ro .rng (fH l k)), (7, .int .i64 (fLow l k)), (8, .int .i64 (fHigh l k)), (9, .int .i64 (fF l k)), (10, .int .i64 k)]) (fun k => [(0, .pack (ASL 3 (fX st l k)))]) (0) (ws := ?ws1) (tk := ?tk1) ?hw1 ?ht1 ?hi ?h0 ?LH1; (case hw1 => simp only [go_sem, decide_true, decide_false, Int.reduceToNat, Nat.min_eq_left, Nat.min_eq_right, Int.reducePow, Nat.reducePow, Int.reduceLE, Int.reduceLT, Int.reduceMul, Int.reduceAdd, Int.reduceSub, Int.reduceNeg, Bool.not_true, Bool.not_false, Bool.not_not, ↓reduceIte, Nat.reduceAdd, Nat.reduceSub, Nat.reduceMul, Nat.reduceEqDiff, reduceCtorEq, Nat.reduceLT, Nat.reduceLeDiff, Nat.reduceGT]; exact rfl); (case ht1 => simp only [go_sem, decide_true, decide_false, Int.reduceToNat, Nat.min_eq_left, Nat.min_eq_right, Int.reducePow, Nat.reducePow, Int.reduceLE, Int.reduceLT, Int.reduceMul, Int.reduceAdd, Int.reduceSub, Int.reduceNeg, Bool.not_true, Bool.not_false, Bool.not_not, ↓reduceIte, Nat.reduceAdd, Nat.reduceSub, Nat.reduceMul, Nat.reduceEqDiff, reduceCtorEq, Nat.reduceLT, Nat.reduceLeDiff, Nat.reduceGT]; exact rfl); (case' LH1 => rintro k E t hx hE ht; simp only [go_sem] at ht; subst ht; simp only [go_sem]; try dsimp only at hx))
  case hi => exact Nat.zero_le _
  case h0 =>
    (focus (refine ⟨_, _, Gh.refl, [0], rfl, ?_⟩; (refine fitq ?_ ?_ ?_ <;> try exact trivial); (try any_goals (refine ⟨?_, ?_⟩)); (try any_goals (with_reducible rfl))))
    all_goals (repeat' (first | (refine And.intro ?_ ?_) | rfl))
  case LH1 =>
    have hk0 : k ≤ l.length := hx
    by_cases hk : k < l.length
    · have hkd : decide ((k : Int) < (l.length : Int)) = true := decide_eq_true (by omega)
      have hw : IntKind.i64.wrap ((k : Int) + 1) = ((k + 1 : Nat) : Int) := by rw [wrap_i64 _ (by omega) (by omega)]; omega
      obtain ⟨x, hx2⟩ : ∃ x, l.getD k 0 = x := ⟨_, rfl⟩
      obtain ⟨t1, t2, t3⟩ := dF_eq x
      have w1 : IntKind.i64.wrap (x.tmod 8000) = x.tmod 8000 := wrap_i64 _ (by omega) (by omega)
      have w2 : IntKind.i64.wrap (x.tmod 8000 + 8000) = x.tmod 8000 + 8000 := wrap_i64 _ (by omega) (by omega)
      obtain ⟨d, hd⟩ : ∃ d, x % 8000 = d := ⟨_, rfl⟩
      have hd2 : 0 ≤ d ∧ d < 8000 := by omega
      rw [hd] at t1
      have w3 : IntKind.i64.wrap d = d := wrap_i64 _ (by omega) (by omega)
      have w4 : IntKind.i64.wrap (st + d) = st + d := wrap_i64 _ (by omega) (by omega)
      have w5 : (st + d).tmod 16384 = (st + d) % 16384 := Int.tmod_eq_emod_of_nonneg (by omega)
      have w6 : IntKind.i64.wrap ((st + d) % 16384) = (st + d) % 16384 := wrap_i64 _ (by omega) (by omega)
      have w7 : IntKind.i64.wrap (d + 1) = d + 1 := wrap_i64 _ (by omega) (by omega)
      have hA := fX_add (l := l) (by omega : 0 ≤ st) k
      have e1 : isIt 3 ((st + d) % 16384) d := ⟨by decide, by decide, by omega, by omega, by omega, by omega⟩
      have e2 := fX_okE st l k (by omega)
      have hH := fH_has l k d
      have hn1 := fH_next l k
      have hn2 := fLow_next l k
      have hn3 := fHigh_next l k
      have hhl : (fH l k).length ≤ 1000 := Nat.le_trans (fs_ok l k).hlen (by omega)
      rw [hx2, hd] at hA hn1 hn2 hn3
      have W : (IntKind.i64.wrap (x.tmod 8000) = x.tmod 8000 ∧ IntKind.i64.wrap (x.tmod 8000 + 8000) = x.tmod 8000 + 8000) ∧ (x.tmod 8000 + 8000).tmod 8000 = d ∧ IntKind.i64.wrap d = d ∧ IntKind.i64.wrap (st + d) = st + d := ⟨⟨w1, w2⟩, t1, w3, w4⟩
      have W2 : (st + d).tmod 16384 = (st + d) % 16384 ∧ IntKind.i64.wrap ((st + d) % 16384) = (st + d) % 16384 ∧ IntKind.i64.wrap (d + 1) = d + 1 := ⟨w5, w6, w7⟩
      have hD : (d ∈ fD l k ∧ hasB (fH l k) d = true ∧ addS 3 ((st + d) % 16384) d (fX st l k) = (fX st l (k + 1), 9)) ∨ (d ∉ fD l k ∧ hasB (fH l k) d = false ∧ addS 3 ((st + d) % 16384) d (fX st l k) = (fX st l (k + 1), 0)) := by
        by_cases c : d ∈ fD l k
        · exact .inl ⟨c, by rw [hH]; exact decide_eq_true c, by rw [hA, if_pos c]⟩
        · exact .inr ⟨c, by rw [hH]; exact decide_eq_false c, by rw [hA, if_neg c]⟩
      have hff : fF l (k + 1) = if k = 0 then d else fF l k := by
        unfold fF
        rw [if_neg (by omega)]
        by_cases c : k = 0
        · subst c; rw [if_pos rfl, hx2, hd]
        · rw [if_neg c, if_neg c]
      clear hH hA t1 t2 t3 w1 w2 w3 w4 w5 w6 w7
      rcases hD with ⟨-, hh, hA⟩ | ⟨-, hh, hA⟩
      · by_cases hz : k = 0
        · have hzd : decide ((k : Int) = 0) = true := decide_eq_true (by omega)
          have n9 : decide ((9 : Int) = 0) = false := by decide
          (have zx1 := @hkd; have zx2 := @hw; have zx3 := @hx2; have zx4 := @W; have zx5 := @W2; have zx6 := @hzd; have zx7 := @hh; have zx8 := @n9; all_goals (try ((first | (with_reducible refine wp_id ?_) | (with_reducible refine does_id ?_) | (with_reducible refine ops_id ?_)); refine walk ?_; (repeat' (first | exact trivial | with_reducible refine And.intro ?_ ?_)); all_goals (repeat (first | (with_reducible refine ImpB.mk fun hb => ?_) | (with_reducible refine ImpK.mk fun hK => ?_) | (with_reducible refine ImpF.mk fun hF => ?_) | (with_reducible refine ImpQ.mk fun hp => ?_) | (with_reducible refine AllE.mk fun p => ?_) | (with_reducible refine AllR.mk fun rest => ?_) | (with_reducible refine AllK.mk fun K => ?_))))); repeat' (with_reducible refine And.intro ?_ ?_))
          (all_goals first | exact Int.natCast_nonneg _ | exact Int.ofNat_lt.2 (by assumption) | assumption | omega | exact Nat.le_refl _ | (exfalso; simp at hb; done) | (simp only [go_sem, decide_true, decide_false, Int.reduceToNat, Nat.min_eq_left, Nat.min_eq_right, Int.reducePow, Nat.reducePow, Int.reduceLE, Int.reduceLT, Int.reduceMul, Int.reduceAdd, Int.reduceSub, Int.reduceNeg, Bool.not_true, Bool.not_false, Bool.not_not, ↓reduceIte, Nat.reduceAdd, Nat.reduceSub, Nat.reduceMul, Nat.reduceEqDiff, reduceCtorEq, Nat.reduceLT, Nat.reduceLeDiff, Nat.reduceGT]; done) | (unfold capM; omega) | (simp only [List.length_drop, List.length_take, List.length_append, List.length_cons, List.length_nil]; omega) | skip)
          refine ⟨k + 1, ⟨(by omega : k + 1 ≤ l.length), (by first | omega | (dsimp only; omega))⟩, ?_⟩
          dsimp only
          rw [hn1, hn2, hn3, hff, if_pos hz]
          (focus (refine ⟨_, _, Gh.refl, [0], rfl, ?_⟩; (refine fitq ?_ ?_ ?_ <;> try exact trivial); (try any_goals (refine ⟨?_, ?_⟩)); (try any_goals (with_reducible rfl))))
          all_goals (repeat' (first | (refine And.intro ?_ ?_) | rfl))
        · have hzd : decide ((k : Int) = 0) = false := decide_eq_false (by omega)
          have n9 : decide ((9 : Int) = 0) = false := by decide
          (have zx1 := @hkd; have zx2 := @hw; have zx3 := @hx2; have zx4 := @W; have zx5 := @W2; have zx6 := @hzd; have zx7 := @hh; have zx8 := @n9; all_goals (try ((first | (with_reducible refine wp_id ?_) | (with_reducible refine does_id ?_) | (with_reducible refine ops_id ?_)); refine walk ?_; (repeat' (first | exact trivial | with_reducible refine And.intro ?_ ?_)); all_goals (repeat (first | (with_reducible refine ImpB.mk fun hb => ?_) | (with_reducible refine ImpK.mk fun hK => ?_) | (with_reducible refine ImpF.mk fun hF => ?_) | (with_reducible refine ImpQ.mk fun hp => ?_) | (with_reducible refine AllE.mk fun p => ?_) | (with_reducible refine AllR.mk fun rest => ?_) | (with_reducible refine AllK.mk fun K => ?_))))); repeat' (with_reducible refine And.intro ?_ ?_))
          (all_goals first | exact Int.natCast_nonneg _ | exact Int.ofNat_lt.2 (by assumption) | assumption | omega | exact Nat.le_refl _ | (exfalso; simp at hb; done) | (simp only [go_sem, decide_true, decide_false, Int.reduceToNat, Nat.min_eq_left, Nat.min_eq_right, Int.reducePow, Nat.reducePow, Int.reduceLE, Int.reduceLT, Int.reduceMul, Int.reduceAdd, Int.reduceSub, Int.reduceNeg, Bool.not_true, Bool.not_false, Bool.not_not, ↓reduceIte, Nat.reduceAdd, Nat.reduceSub, Nat.reduceMul, Nat.reduceEqDiff, reduceCtorEq, Nat.reduceLT, Nat.reduceLeDiff, Nat.reduceGT]; done) | (unfold capM; omega) | (simp only [List.length_drop, List.length_take, List.length_append, List.length_cons, List.length_nil]; omega) | skip)
          refine ⟨k + 1, ⟨(by omega : k + 1 ≤ l.length), (by first | omega | (dsimp only; omega))⟩, ?_⟩
          dsimp only
          rw [hn1, hn2, hn3, hff, if_neg hz]
          (focus (refine ⟨_, _, Gh.refl, [0], rfl, ?_⟩; (refine fitq ?_ ?_ ?_ <;> try exact trivial); (try any_goals (refine ⟨?_, ?_⟩)); (try any_goals (with_reducible rfl))))
          all_goals (repeat' (first | (refine And.intro ?_ ?_) | rfl))
      · by_cases hz : k = 0
        · have hzd : decide ((k : Int) = 0) = true := decide_eq_true (by omega)
          (have zx1 := @hkd; have zx2 := @hw; have zx3 := @hx2; have zx4 := @W; have zx5 := @W2; have zx6 := @hzd; have zx7 := @hh; all_goals (try ((first | (with_reducible refine wp_id ?_) | (with_reducible refine does_id ?_) | (with_reducible refine ops_id ?_)); refine walk ?_; (repeat' (first | exact trivial | with_reducible refine And.intro ?_ ?_)); all_goals (repeat (first | (with_reducible refine ImpB.mk fun hb => ?_) | (with_reducible refine ImpK.mk fun hK => ?_) | (with_reducible refine ImpF.mk fun hF => ?_) | (with_reducible refine ImpQ.mk fun hp => ?_) | (with_reducible refine AllE.mk fun p => ?_) | (with_reducible refine AllR.mk fun rest => ?_) | (with_reducible refine AllK.mk fun K => ?_))))); repeat' (with_reducible refine And.intro ?_ ?_))
          (all_goals first | exact Int.natCast_nonneg _ | exact Int.ofNat_lt.2 (by assumption) | assumption | omega | exact Nat.le_refl _ | (exfalso; simp at hb; done) | (simp only [go_sem, decide_true, decide_false, Int.reduceToNat, Nat.min_eq_left, Nat.min_eq_right, Int.reducePow, Nat.reducePow, Int.reduceLE, Int.reduceLT, Int.reduceMul, Int.reduceAdd, Int.reduceSub, Int.reduceNeg, Bool.not_true, Bool.not_false, Bool.not_not, ↓reduceIte, Nat.reduceAdd, Nat.reduceSub, Nat.reduceMul, Nat.reduceEqDiff, reduceCtorEq, Nat.reduceLT, Nat.reduceLeDiff, Nat.reduceGT]; done) | (unfold capM; omega) | (simp only [List.length_drop, List.length_take, List.length_append, List.length_cons, List.length_nil]; omega) | skip)
          refine ⟨k + 1, ⟨(by omega : k + 1 ≤ l.length), (by first | omega | (dsimp only; omega))⟩, ?_⟩
          dsimp only
          rw [hn1, hn2, hn3, hff, if_pos hz]
          (focus (refine ⟨_, _, Gh.refl, [0], rfl, ?_⟩; (refine fitq ?_ ?_ ?_ <;> try exact trivial); (try any_goals (refine ⟨?_, ?_⟩)); (try any_goals (with_reducible rfl))))
          all_goals (repeat' (first | (refine And.intro ?_ ?_) | rfl))
        · have hzd : decide ((k : Int) = 0) = false := decide_eq_false (by omega)
          (have zx1 := @hkd; have zx2 := @hw; have zx3 := @hx2; have zx4 := @W; have zx5 := @W2; have zx6 := @hzd; have zx7 := @hh; all_goals (try ((first | (with_reducible refine wp_id ?_) | (with_reducible refine does_id ?_) | (with_reducible refine ops_id ?_)); refine walk ?_; (repeat' (first | exact trivial | with_reducible refine And.intro ?_ ?_)); all_goals (repeat (first | (with_reducible refine ImpB.mk fun hb => ?_) | (with_reducible refine ImpK.mk fun hK => ?_) | (with_reducible refine ImpF.mk fun hF => ?_) | (with_reducible refine ImpQ.mk fun hp => ?_) | (with_reducible refine AllE.mk fun p => ?_) | (with_reducible refine AllR.mk fun rest => ?_) | (with_reducible refine AllK.mk fun K => ?_))))); repeat' (with_reducible refine And.intro ?_ ?_))
          (all_goals first | exact Int.natCast_nonneg _ | exact Int.ofNat_lt.2 (by assumption) | assumption | omega | exact Nat.le_refl _ | (exfalso; simp at hb; done) | (simp only [go_sem, decide_true, decide_false, Int.reduceToNat, Nat.min_eq_left, Nat.min_eq_right, Int.reducePow, Nat.reducePow, Int.reduceLE, Int.reduceLT, Int.reduceMul, Int.reduceAdd, Int.reduceSub, Int.reduceNeg, Bool.not_true, Bool.not_false, Bool.not_not, ↓reduceIte, Nat.reduceAdd, Nat.reduceSub, Nat.reduceMul, Nat.reduceEqDiff, reduceCtorEq, Nat.reduceLT, Nat.reduceLeDiff, Nat.reduceGT]; done) | (unfold capM; omega) | (simp only [List.length_drop, List.length_take, List.length_append, List.length_cons, List.length_nil]; omega) | skip)
          refine ⟨k + 1, ⟨(by omega : k + 1 ≤ l.length), (by first | omega | (dsimp only; omega))⟩, ?_⟩
          dsimp only
          rw [hn1, hn2, hn3, hff, if_neg hz]
          (focus (refine ⟨_, _, Gh.refl, [0], rfl, ?_⟩; (refine fitq ?_ ?_ ?_ <;> try exact trivial); (try any_goals (refine ⟨?_, ?_⟩)); (try any_goals (with_reducible rfl))))
          all_goals (repeat' (first | (refine And.intro ?_ ?_) | rfl))
    · have hkd : decide ((k : Int) < (l.length : Int)) = false := decide_eq_false (by omega)
      have hke : k = l.length := by omega
      have e1 := fX_okC st l k (by omega)
      have hxl := fX_len st l k
      have hxl2 : (fX st l k).length ≤ 1000 := by have := (fs_ok l k).lens.1; omega
      by_cases hz : k = 0
      · have hz0 : decide ((l.length : Int) = 0) = true := decide_eq_true (by omega)
        have hX : fX st l k = [] := by rw [hz]; rfl
        rw [hX] at e1 hxl2 ⊢
        have hg : gapsF [] = [] := rfl
        (have zx1 := @hkd; have zx2 := @hz0; have zx3 := @hg; all_goals (try ((first | (with_reducible refine wp_id ?_) | (with_reducible refine does_id ?_) | (with_reducible refine ops_id ?_)); refine walk ?_; (repeat' (first | exact trivial | with_reducible refine And.intro ?_ ?_)); all_goals (repeat (first | (with_reducible refine ImpB.mk fun hb => ?_) | (with_reducible refine ImpK.mk fun hK => ?_) | (with_reducible refine ImpF.mk fun hF => ?_) | (with_reducible refine ImpQ.mk fun hp => ?_) | (with_reducible refine AllE.mk fun p => ?_) | (with_reducible refine AllR.mk fun rest => ?_) | (with_reducible refine AllK.mk fun K => ?_))))); repeat' (with_reducible refine And.intro ?_ ?_))
        (all_goals first | exact Int.natCast_nonneg _ | exact Int.ofNat_lt.2 (by assumption) | assumption | omega | exact Nat.le_refl _ | (exfalso; simp at hb; done) | (simp only [go_sem, decide_true, decide_false, Int.reduceToNat, Nat.min_eq_left, Nat.min_eq_right, Int.reducePow, Nat.reducePow, Int.reduceLE, Int.reduceLT, Int.reduceMul, Int.reduceAdd, Int.reduceSub, Int.reduceNeg, Bool.not_true, Bool.not_false, Bool.not_not, ↓reduceIte, Nat.reduceAdd, Nat.reduceSub, Nat.reduceMul, Nat.reduceEqDiff, reduceCtorEq, Nat.reduceLT, Nat.reduceLeDiff, Nat.reduceGT]; done) | (unfold capM; omega) | (simp only [List.length_drop, List.length_take, List.length_append, List.length_cons, List.length_nil]; omega) | skip)
        (focus (refine ⟨_, _, Gh.refl, [], rfl, ?_⟩; (refine fitq ?_ ?_ ?_ <;> try exact trivial); (try any_goals (refine ⟨?_, ?_⟩)); (try any_goals (with_reducible rfl))))
        all_goals (repeat' (first | (refine And.intro ?_ ?_) | rfl))
      · have hz0 : decide ((l.length : Int) = 0) = false := decide_eq_false (by omega)
        have hG := fX_gap st l (k := k) (by omega)
        have hS := fH_siz l k
        have hhl : (fH l k).length ≤ 1000 := Nat.le_trans (fs_ok l k).hlen (by omega)
        have hbd := fH_bnd l (k := k) (by omega)
        have hF : fF l k = l.getD 0 0 % 8000 := if_neg hz
        obtain ⟨X, hXe⟩ : ∃ X, fX st l k = X := ⟨_, rfl⟩
        obtain ⟨hv, hhe⟩ : ∃ hv, fH l k = hv := ⟨_, rfl⟩
        obtain ⟨lo, hloe⟩ : ∃ lo, fLow l k = lo := ⟨_, rfl⟩
        obtain ⟨hi2, hhie⟩ : ∃ hi2, fHigh l k = hi2 := ⟨_, rfl⟩
        obtain ⟨f, hfe⟩ : ∃ f, l.getD 0 0 % 8000 = f := ⟨_, rfl⟩
        have hshe : fsh st l = (st + f) % 16384 - f := by rw [← hfe]; rfl
        obtain ⟨ds, hdse⟩ : ∃ ds, fD l k = ds := ⟨_, rfl⟩
        have hf2 : 0 ≤ f ∧ f < 8000 := by omega
        rw [hXe] at e1 hG hxl hxl2 ⊢
        rw [hhe] at hG hS hhl ⊢
        rw [hloe, hhie] at hG hbd ⊢
        rw [hF, hfe]
        rw [hdse] at hxl hS
        rw [← hxl] at hS
        generalize hshg : fsh st l = sh at *
        have w1 : IntKind.i64.wrap (hi2 + 1) = hi2 + 1 := wrap_i64 _ (by omega) (by omega)
        have w2 : IntKind.i64.wrap (st + f) = st + f := wrap_i64 _ (by omega) (by omega)
        have w3 : (st + f).tmod 16384 = (st + f) % 16384 := Int.tmod_eq_emod_of_nonneg (by omega)
        have w4 : IntKind.i64.wrap ((st + f) % 16384) = (st + f) % 16384 := wrap_i64 _ (by omega) (by omega)
        have w5 : IntKind.i64.wrap ((st + f) % 16384 - f) = sh := by rw [hshe, wrap_i64 _ (by omega) (by omega)]
        have hst0 : [(⟨lo, hi2 + 1⟩ : Rng)] = wantF lo hi2 (hv.take 0) := rfl
        (have zx1 := @hkd; have zx2 := @hz0; have zx3 := @w1; all_goals (try ((first | (with_reducible refine wp_id ?_) | (with_reducible refine does_id ?_) | (with_reducible refine ops_id ?_)); refine walk ?_; (repeat' (first | exact trivial | with_reducible refine And.intro ?_ ?_)); all_goals (repeat (first | (with_reducible refine ImpB.mk fun hb => ?_) | (with_reducible refine ImpK.mk fun hK => ?_) | (with_reducible refine ImpF.mk fun hF => ?_) | (with_reducible refine ImpQ.mk fun hp => ?_) | (with_reducible refine AllE.mk fun p => ?_) | (with_reducible refine AllR.mk fun rest => ?_) | (with_reducible refine AllK.mk fun K => ?_))))); repeat' (with_reducible refine And.intro ?_ ?_))
        (all_goals first | exact Int.natCast_nonneg _ | exact Int.ofNat_lt.2 (by assumption) | assumption | omega | exact Nat.le_refl _ | (exfalso; simp at hb; done) | (simp only [go_sem, decide_true, decide_false, Int.reduceToNat, Nat.min_eq_left, Nat.min_eq_right, Int.reducePow, Nat.reducePow, Int.reduceLE, Int.reduceLT, Int.reduceMul, Int.reduceAdd, Int.reduceSub, Int.reduceNeg, Bool.not_true, Bool.not_false, Bool.not_not, ↓reduceIte, Nat.reduceAdd, Nat.reduceSub, Nat.reduceMul, Nat.reduceEqDiff, reduceCtorEq, Nat.reduceLT, Nat.reduceLeDiff, Nat.reduceGT]; done) | (unfold capM; omega) | (simp only [List.length_drop, List.length_take, List.length_append, List.length_cons, List.length_nil]; omega) | skip)
        any_goals ((try (refine w_seq fun K hK => ?_)); (try (refine w_block ?_)); refine w_loop (A := Nat) (fun j => j ≤ hv.length) (fun j => hv.length - j) (fun j => [(14, .ro .rng (wantF lo hi2 (hv.take j))), (15, .int .i64 j)]) (fun j => []) (0) (ws := ?ws2) (tk := ?tk2) ?hw2 ?ht2 ?hi_1 ?h0_1 ?LH2; (case hw2 => simp only [go_sem, decide_true, decide_false, Int.reduceToNat, Nat.min_eq_left, Nat.min_eq_right, Int.reducePow, Nat.reducePow, Int.reduceLE, Int.reduceLT, Int.reduceMul, Int.reduceAdd, Int.reduceSub, Int.reduceNeg, Bool.not_true, Bool.not_false, Bool.not_not, ↓reduceIte, Nat.reduceAdd, Nat.reduceSub, Nat.reduceMul, Nat.reduceEqDiff, reduceCtorEq, Nat.reduceLT, Nat.reduceLeDiff, Nat.reduceGT]; exact rfl); (case ht2 => simp only [go_sem, decide_true, decide_false, Int.reduceToNat, Nat.min_eq_left, Nat.min_eq_right, Int.reducePow, Nat.reducePow, Int.reduceLE, Int.reduceLT, Int.reduceMul, Int.reduceAdd, Int.reduceSub, Int.reduceNeg, Bool.not_true, Bool.not_false, Bool.not_not, ↓reduceIte, Nat.reduceAdd, Nat.reduceSub, Nat.reduceMul, Nat.reduceEqDiff, reduceCtorEq, Nat.reduceLT, Nat.reduceLeDiff, Nat.reduceGT]; exact rfl); (case' LH2 => rintro j E t hx hE ht; simp only [go_sem] at ht; subst ht; simp only [go_sem]; try dsimp only at hx))
        case hi_1 => exact Nat.zero_le _
        case h0_1 =>
          (focus (refine ⟨_, _, Gh.refl, [0], rfl, ?_⟩; (refine fitq ?_ ?_ ?_ <;> try exact trivial); (try any_goals (refine ⟨?_, ?_⟩)); (try any_goals (with_reducible rfl))))
          all_goals (repeat' (first | (refine And.intro ?_ ?_) | rfl))
        case LH2 =>
          have hj0 : j ≤ hv.length := hx
          by_cases hj : j < hv.length
          · have hjd : decide ((j : Int) < (hv.length : Int)) = true := decide_eq_true (by omega)
            have hjw : IntKind.i64.wrap ((j : Int) + 1) = ((j + 1 : Nat) : Int) := by rw [wrap_i64 _ (by omega) (by omega)]; omega
            have hjn := wantF_next hv lo hi2 hj
            have hjl : (wantF lo hi2 (hv.take j)).length ≤ 1000000 := Nat.le_trans (wantF_len lo hi2 hv j hj0) (by omega)
            (have zx1 := @hjd; have zx2 := @hjw; all_goals (try ((first | (with_reducible refine wp_id ?_) | (with_reducible refine does_id ?_) | (with_reducible refine ops_id ?_)); refine walk ?_; (repeat' (first | exact trivial | with_reducible refine And.intro ?_ ?_)); all_goals (repeat (first | (with_reducible refine ImpB.mk fun hb => ?_) | (with_reducible refine ImpK.mk fun hK => ?_) | (with_reducible refine ImpF.mk fun hF => ?_) | (with_reducible refine ImpQ.mk fun hp => ?_) | (with_reducible refine AllE.mk fun p => ?_) | (with_reducible refine AllR.mk fun rest => ?_) | (with_reducible refine AllK.mk fun K => ?_))))); repeat' (with_reducible refine And.intro ?_ ?_))
            (all_goals first | exact Int.natCast_nonneg _ | exact Int.ofNat_lt.2 (by assumption) | assumption | omega | exact Nat.le_refl _ | (exfalso; simp at hb; done) | (simp only [go_sem, decide_true, decide_false, Int.reduceToNat, Nat.min_eq_left, Nat.min_eq_right, Int.reducePow, Nat.reducePow, Int.reduceLE, Int.reduceLT, Int.reduceMul, Int.reduceAdd, Int.reduceSub, Int.reduceNeg, Bool.not_true, Bool.not_false, Bool.not_not, ↓reduceIte, Nat.reduceAdd, Nat.reduceSub, Nat.reduceMul, Nat.reduceEqDiff, reduceCtorEq, Nat.reduceLT, Nat.reduceLeDiff, Nat.reduceGT]; done) | (unfold capM; omega) | (simp only [List.length_drop, List.length_take, List.length_append, List.length_cons, List.length_nil]; omega) | skip)
            refine ⟨j + 1, ⟨(by omega : j + 1 ≤ hv.length), (by first | omega | (dsimp only; omega))⟩, ?_⟩
            dsimp only
            rw [hjn]
            (focus (refine ⟨_, _, Gh.refl, [0], rfl, ?_⟩; (refine fitq ?_ ?_ ?_ <;> try exact trivial); (try any_goals (refine ⟨?_, ?_⟩)); (try any_goals (with_reducible rfl))))
            all_goals (repeat' (first | (refine And.intro ?_ ?_) | rfl))
          · have hjd : decide ((j : Int) < (hv.length : Int)) = false := decide_eq_false (by omega)
            have hje : hv.take j = hv := List.take_of_length_le (by omega)
            rw [hje]
            have hwb := fun (i : Nat) hi => want_bnd (lo := lo) (hi := hi2) (hv := hv) hbd.2.1 (i := i) hi
            have hWl := wantF_len lo hi2 hv hv.length (Nat.le_refl _)
            rw [List.take_length] at hWl
            generalize wantF lo hi2 hv = W at *
            have hGl : (gapsF X).length = W.length := by rw [hG, List.length_map]
            have hGd : decide (¬ ((gapsF X).length : Int) = (W.length : Int)) = false := decide_eq_false (by omega)
            have hSd : decide (¬ (X.length : Int) = sizR (ofL hv)) = false := decide_eq_false (fun q => q hS.symm)
            have hshb : -1000000 ≤ sh ∧ sh ≤ 1000000 := by omega
            clear hSd
            have hSd : decide (¬ (X.length : Int) = sizR (ofL hv)) = false := decide_eq_false (fun q => q hS.symm)
            (have zx1 := @hjd; have zx2 := @w2; have zx3 := @w3; have zx4 := @w4; have zx5 := @w5; have zx6 := @hGd; have zx7 := @hSd; all_goals (try ((first | (with_reducible refine wp_id ?_) | (with_reducible refine does_id ?_) | (with_reducible refine ops_id ?_)); refine walk ?_; (repeat' (first | exact trivial | with_reducible refine And.intro ?_ ?_)); all_goals (repeat (first | (with_reducible refine ImpB.mk fun hb => ?_) | (with_reducible refine ImpK.mk fun hK => ?_) | (with_reducible refine ImpF.mk fun hF => ?_) | (with_reducible refine ImpQ.mk fun hp => ?_) | (with_reducible refine AllE.mk fun p => ?_) | (with_reducible refine AllR.mk fun rest => ?_) | (with_reducible refine AllK.mk fun K => ?_))))); repeat' (with_reducible refine And.intro ?_ ?_))
            (all_goals first | exact Int.natCast_nonneg _ | exact Int.ofNat_lt.2 (by assumption) | assumption | omega | exact Nat.le_refl _ | (exfalso; simp at hb; done) | (simp only [go_sem, decide_true, decide_false, Int.reduceToNat, Nat.min_eq_left, Nat.min_eq_right, Int.reducePow, Nat.reducePow, Int.reduceLE, Int.reduceLT, Int.reduceMul, Int.reduceAdd, Int.reduceSub, Int.reduceNeg, Bool.not_true, Bool.not_false, Bool.not_not, ↓reduceIte, Nat.reduceAdd, Nat.reduceSub, Nat.reduceMul, Nat.reduceEqDiff, reduceCtorEq, Nat.reduceLT, Nat.reduceLeDiff, Nat.reduceGT]; done) | (unfold capM; omega) | (simp only [List.length_drop, List.length_take, List.length_append, List.length_cons, List.length_nil]; omega) | skip)
            clear w1 w2 w3 w4 w5 hGd hSd hjd hkd
            any_goals ((try (refine w_seq fun K hK => ?_)); (try (refine w_block ?_)); refine w_loop (A := Nat) (fun i => i ≤ W.length) (fun i => W.length - i) (fun i => [(17, .int .i64 i)]) (fun i => []) (0) (ws := ?ws3) (tk := ?tk3) ?hw3 ?ht3 ?hi_2 ?h0_2 ?LH3; (case hw3 => simp only [go_sem, decide_true, decide_false, Int.reduceToNat, Nat.min_eq_left, Nat.min_eq_right, Int.reducePow, Nat.reducePow, Int.reduceLE, Int.reduceLT, Int.reduceMul, Int.reduceAdd, Int.reduceSub, Int.reduceNeg, Bool.not_true, Bool.not_false, Bool.not_not, ↓reduceIte, Nat.reduceAdd, Nat.reduceSub, Nat.reduceMul, Nat.reduceEqDiff, reduceCtorEq, Nat.reduceLT, Nat.reduceLeDiff, Nat.reduceGT]; exact rfl); (case ht3 => simp only [go_sem, decide_true, decide_false, Int.reduceToNat, Nat.min_eq_left, Nat.min_eq_right, Int.reducePow, Nat.reducePow, Int.reduceLE, Int.reduceLT, Int.reduceMul, Int.reduceAdd, Int.reduceSub, Int.reduceNeg, Bool.not_true, Bool.not_false, Bool.not_not, ↓reduceIte, Nat.reduceAdd, Nat.reduceSub, Nat.reduceMul, Nat.reduceEqDiff, reduceCtorEq, Nat.reduceLT, Nat.reduceLeDiff, Nat.reduceGT]; exact rfl); (case' LH3 => rintro i E t hx hE ht; simp only [go_sem] at ht; subst ht; simp only [go_sem]; try dsimp only at hx))
            case hi_2 => exact Nat.zero_le _
            case h0_2 =>
              (focus (refine ⟨_, _, Gh.refl, [0], rfl, ?_⟩; (refine fitq ?_ ?_ ?_ <;> try exact trivial); (try any_goals (refine ⟨?_, ?_⟩)); (try any_goals (with_reducible rfl))))
              all_goals (repeat' (first | (refine And.intro ?_ ?_) | rfl))
            case LH3 =>
              have hi0 : i ≤ W.length := hx
              by_cases hi3 : i < W.length
              · have hid : decide ((i : Int) < ((gapsF X).length : Int)) = true := decide_eq_true (by omega)
                have hiw : IntKind.i64.wrap ((i : Int) + 1) = ((i + 1 : Nat) : Int) := by rw [wrap_i64 _ (by omega) (by omega)]; omega
                have hyb := hwb i hi3
                obtain ⟨y, hy⟩ : ∃ y, W.getD i Rng.zero = y := ⟨_, rfl⟩
                have hy2 : rAt W i = y := hy
                rw [hy2] at hyb
                have hgi : (gapsF X).getD i Rng.zero = ⟨y.from_ + sh, y.to_ + sh⟩ := by
                  rw [hG, List.getD_eq_getElem?_getD, List.getElem?_map]
                  rw [List.getD_eq_getElem?_getD, List.getElem?_eq_getElem hi3] at hy
                  rw [List.getElem?_eq_getElem hi3, ← hy]
                  rfl
                have wy1 : IntKind.i64.wrap (y.from_ + sh) = y.from_ + sh := wrap_i64 _ (by omega) (by omega)
                have wy2 : IntKind.i64.wrap (y.to_ + sh) = y.to_ + sh := wrap_i64 _ (by omega) (by omega)
                (have zx1 := @hid; have zx2 := @hiw; have zx3 := @hgi; have zx4 := @hy; have zx5 := @wy1; have zx6 := @wy2; all_goals (try ((first | (with_reducible refine wp_id ?_) | (with_reducible refine does_id ?_) | (with_reducible refine ops_id ?_)); refine walk ?_; (repeat' (first | exact trivial | with_reducible refine And.intro ?_ ?_)); all_goals (repeat (first | (with_reducible refine ImpB.mk fun hb => ?_) | (with_reducible refine ImpK.mk fun hK => ?_) | (with_reducible refine ImpF.mk fun hF => ?_) | (with_reducible refine ImpQ.mk fun hp => ?_) | (with_reducible refine AllE.mk fun p => ?_) | (with_reducible refine AllR.mk fun rest => ?_) | (with_reducible refine AllK.mk fun K => ?_))))); repeat' (with_reducible refine And.intro ?_ ?_))
                (all_goals first | exact Int.natCast_nonneg _ | exact Int.ofNat_lt.2 (by assumption) | assumption | omega | exact Nat.le_refl _ | (exfalso; simp at hb; done) | (simp only [go_sem, decide_true, decide_false, Int.reduceToNat, Nat.min_eq_left, Nat.min_eq_right, Int.reducePow, Nat.reducePow, Int.reduceLE, Int.reduceLT, Int.reduceMul, Int.reduceAdd, Int.reduceSub, Int.reduceNeg, Bool.not_true, Bool.not_false, Bool.not_not, ↓reduceIte, Nat.reduceAdd, Nat.reduceSub, Nat.reduceMul, Nat.reduceEqDiff, reduceCtorEq, Nat.reduceLT, Nat.reduceLeDiff, Nat.reduceGT]; done) | (unfold capM; omega) | (simp only [List.length_drop, List.length_take, List.length_append, List.length_cons, List.length_nil]; omega) | skip)
                refine ⟨i + 1, ⟨(by omega : i + 1 ≤ W.length), (by first | omega | (dsimp only; omega))⟩, ?_⟩
                (focus (refine ⟨_, _, Gh.refl, [0], rfl, ?_⟩; (refine fitq ?_ ?_ ?_ <;> try exact trivial); (try any_goals (refine ⟨?_, ?_⟩)); (try any_goals (with_reducible rfl))))
                all_goals (repeat' (first | (refine And.intro ?_ ?_) | rfl))
              · have hid : decide ((i : Int) < ((gapsF X).length : Int)) = false := decide_eq_false (by omega)
                (have zx1 := @hid; all_goals (try ((first | (with_reducible refine wp_id ?_) | (with_reducible refine does_id ?_) | (with_reducible refine ops_id ?_)); refine walk ?_; (repeat' (first | exact trivial | with_reducible refine And.intro ?_ ?_)); all_goals (repeat (first | (with_reducible refine ImpB.mk fun hb => ?_) | (with_reducible refine ImpK.mk fun hK => ?_) | (with_reducible refine ImpF.mk fun hF => ?_) | (with_reducible refine ImpQ.mk fun hp => ?_) | (with_reducible refine AllE.mk fun p => ?_) | (with_reducible refine AllR.mk fun rest => ?_) | (with_reducible refine AllK.mk fun K => ?_))))); repeat' (with_reducible refine And.intro ?_ ?_))
                (focus (refine ⟨_, _, Gh.refl, [], rfl, ?_⟩; (refine fitq ?_ ?_ ?_ <;> try exact trivial); (try any_goals (refine ⟨?_, ?_⟩)); (try any_goals (with_reducible rfl))))
                all_goals (repeat' (first | (refine And.intro ?_ ?_) | rfl))
end Go.V

namespace Go.V
/-- all that lies in the memory at the start lies for good -/
def oldR (w : World) : RO := fun b => w.heap[b]?
theorem old_ok (w : World) : HOk (oldR w) [] [] w := ⟨trivial, by simp [ownH], fun b hb => by simp [ownH] at hb, fun _ _ h => h⟩
theorem cell_of {w : World} {a : Addr} {v : Value} (h : w.cell? a = some v) : a.spot = none ∧ ∃ arr ty fr, w.heap[a.block]? = some (.cells arr ty fr) ∧ arr[a.off]? = some v := by
  unfold World.cell? at h
  split at h
  · rename_i c ty fr hc
    split at h
    · simp at h
    · rename_i hs
      exact ⟨by simpa using hs, c, ty, fr, hc, h⟩
  · simp at h
theorem add_block (a : Addr) (i : Nat) : (a.add i).block = a.block := by
  unfold Addr.add
  split <;> rfl
theorem add_off (a : Addr) (i : Nat) : (a.add i).off = a.off + i := by
  unfold Addr.add
  split
  · simp_all
  · rfl
/-- some cells in a row -/
theorem cells_of {w : World} {base : Nat} {a : Addr} {n : Nat} {cs : List Value} (h : w.cells? base a n = some cs) (hn : 0 < n) : a.spot = none ∧ ∃ arr ty fr, w.heap[a.block]? = some (.cells arr ty fr) ∧ (arr.toList.drop a.off).take n = cs := by
  obtain ⟨_, hl, hg⟩ := World.cells?_some h
  have h0 := hg 0 hn
  rw [List.getElem?_eq_getElem (by omega)] at h0
  obtain ⟨hs, arr, ty, fr, hb, _⟩ := cell_of h0
  rw [add_block] at hb
  refine ⟨by simpa [Addr.add] using hs, arr, ty, fr, hb, ?_⟩
  apply List.ext_getElem?
  intro i
  by_cases hi : i < n
  · have h1 := hg i hi
    rw [List.getElem?_eq_getElem (show i < cs.length by omega)] at h1
    obtain ⟨_, arr', ty', fr', hb', h2⟩ := cell_of h1
    rw [add_block, hb] at hb'
    cases hb'
    rw [add_off] at h2
    rw [List.getElem?_take_of_lt hi, List.getElem?_drop, List.getElem?_eq_getElem (show i < cs.length by omega)]
    simpa using h2
  · rw [List.getElem?_eq_none (by simp; omega), List.getElem?_eq_none (by omega)]
/-- a type: what reads as data of it lies as one of these lists of abstract values -/
def Opens (P : Program) (w : World) (t : TypeId) (S : List AV → Prop) : Prop :=
  ∀ (H : Type) (enc : TypeId × Value → H) (base : Nat) (spare : Nat → Bool) (held : Bool) (fuel : Nat) (cs : List Value) (x : DataW H × List MemPlace), DataW.trod enc P w base spare held fuel t cs = some x → ∃ l, S l ∧ LRel (oldR w) [] l cs
section
variable {P : Program} {w : World}
theorem Opens.mono {t : TypeId} {S S' : List AV → Prop} (h : Opens P w t S) (hs : ∀ l, S l → S' l) : Opens P w t S' := fun H enc base spare held fuel cs x hx => by
  obtain ⟨l, h1, h2⟩ := h H enc base spare held fuel cs x hx
  exact ⟨l, hs l h1, h2⟩
theorem Opens.int {t : TypeId} {k : IntKind} (ht : P.underlying t = some (.int k)) : Opens P w t fun l => ∃ n, k.has n ∧ l = [.int k n] := fun H enc base spare held fuel cs x hx => by
  cases fuel with
  | zero => simp [DataW.trod] at hx
  | succ fuel =>
    unfold DataW.trod at hx
    simp only [ht] at hx
    split at hx
    all_goals first | (rename_i h1 _; cases h1; done) | skip
    all_goals simp_all
    rename_i k' n h1
    subst h1
    obtain ⟨⟨rfl, h2⟩, _⟩ := hx
    exact ⟨_, ⟨n, by simpa [Lit.wf, IntKind.has] using h2, rfl⟩, .cons .int .nil⟩
theorem Opens.struct {t : TypeId} {fs : Array Field} {Ss : List (List AV → Prop)} (ht : P.underlying t = some (.struct fs)) (hl : fs.size = Ss.length)
    (hS : ∀ (i : Nat) (f : Field) (S : List AV → Prop), fs[i]? = some f → Ss[i]? = some S → Opens P w f.type S)
    (hoff : ∀ (i : Nat) (f : Field), fs[i]? = some f → f.offset = ((fs.toList.take i).map fun g => P.cellsOf g.type).sum) (hsz : P.cellsOf t = (fs.toList.map fun g => P.cellsOf g.type).sum) :
    Opens P w t fun l => ∃ ls : List (List AV), ls.length = Ss.length ∧ (∀ (i : Nat) (S : List AV → Prop) (m : List AV), Ss[i]? = some S → ls[i]? = some m → S m) ∧ l = ls.flatten := fun H enc base spare held fuel cs x hx => by
  obtain ⟨xs, n, _, _, hlen, hxs, hf⟩ := DataW.trod_struct ht hx
  have key : ∀ k, k ≤ fs.size → ∃ ls : List (List AV), ls.length = k ∧ (∀ (i : Nat) (S : List AV → Prop) (m : List AV), Ss[i]? = some S → ls[i]? = some m → S m) ∧ LRel (oldR w) [] ls.flatten (cs.take (((fs.toList.take k).map fun g => P.cellsOf g.type).sum)) := by
    intro k
    induction k with
    | zero => intro _; exact ⟨[], rfl, fun i S m _ h => by simp at h, by simp; exact .nil⟩
    | succ k ih =>
      intro hk
      obtain ⟨ls, h1, h2, h3⟩ := ih (by omega)
      have hfk : fs[k]? = some fs[k] := by simp [show k < fs.size by omega]
      have hSk : Ss[k]? = some (Ss[k]'(by omega)) := by simp [show k < Ss.length by omega]
      have hx := hf k _ hfk
      rw [List.getElem?_eq_getElem (by omega)] at hx
      obtain ⟨m, h4, h5⟩ := hS k _ _ hfk hSk H enc base spare held n _ _ hx
      refine ⟨ls ++ [m], by simp [h1], fun i S m' hS' hm' => ?_, ?_⟩
      · by_cases hi : i < ls.length
        · rw [List.getElem?_append_left hi] at hm'
          exact h2 i S m' hS' hm'
        · have : i = k := by
            have := (List.getElem?_eq_some_iff.1 hm').1
            simp at this
            omega
          subst this
          rw [List.getElem?_append_right (by omega), h1] at hm'
          simp at hm'
          subst hm'
          rw [hSk] at hS'
          cases hS'
          exact h4
      · rw [List.flatten_append, List.flatten_singleton, List.take_succ_eq_append_getElem (show k < fs.toList.length by simp; omega), List.map_append, List.sum_append, List.take_add]
        rw [hoff k _ hfk] at h5
        have e : fs.toList[k] = fs[k] := by simp
        rw [e]
        simp only [List.map_cons, List.map_nil, List.sum_cons, List.sum_nil, Nat.add_zero]
        exact h3.app h5
  obtain ⟨ls, h1, h2, h3⟩ := key fs.size (Nat.le_refl _)
  refine ⟨ls.flatten, ⟨ls, by omega, h2, rfl⟩, ?_⟩
  rw [List.take_of_length_le (l := fs.toList) (by simp), ← hsz, ← hlen, List.take_length] at h3
  exact h3
def OpL (P : Program) (w : World) : List Field → List (List AV → Prop) → Prop
  | [], [] => True
  | f :: fs, S :: Ss => Opens P w f.type S ∧ OpL P w fs Ss
  | _, _ => False
def offB (P : Program) : List Field → Nat → Bool
  | [], _ => true
  | f :: fs, n => (f.offset == n) && offB P fs (n + P.cellsOf f.type)
theorem OpL.len : ∀ {fs : List Field} {Ss : List (List AV → Prop)}, OpL P w fs Ss → fs.length = Ss.length
  | [], [], _ => rfl
  | _ :: _, _ :: _, h => by simp [OpL.len h.2]
  | [], _ :: _, h => h.elim
  | _ :: _, [], h => h.elim
theorem OpL.get : ∀ {fs : List Field} {Ss : List (List AV → Prop)} (i : Nat) {f : Field} {S : List AV → Prop}, OpL P w fs Ss → fs[i]? = some f → Ss[i]? = some S → Opens P w f.type S
  | _ :: _, _ :: _, 0, _, _, h, e1, e2 => by simp at e1 e2; subst e1; subst e2; exact h.1
  | _ :: _, _ :: _, i + 1, _, _, h, e1, e2 => OpL.get i h.2 (by simpa using e1) (by simpa using e2)
  | [], [], _, _, _, _, e1, _ => by simp at e1
  | [], _ :: _, _, _, _, h, _, _ => h.elim
  | _ :: _, [], _, _, _, h, _, _ => h.elim
theorem offB_get : ∀ {fs : List Field} {n : Nat} (i : Nat) {f : Field}, offB P fs n = true → fs[i]? = some f → f.offset = n + ((fs.take i).map fun g => P.cellsOf g.type).sum
  | _ :: _, _, 0, _, h, e => by
    simp at e
    subst e
    simp only [offB, Bool.and_eq_true, beq_iff_eq] at h
    simpa using h.1
  | g :: fs, n, i + 1, _, h, e => by
    simp only [offB, Bool.and_eq_true, beq_iff_eq] at h
    have := offB_get i h.2 (by simpa using e)
    simp only [List.take_succ_cons, List.map_cons, List.sum_cons]
    omega
  | [], _, _, _, _, e => by simp at e
/-- a struct's fields lie one behind the other -/
theorem Opens.fields {t : TypeId} {fl : List Field} {Ss : List (List AV → Prop)} (ht : P.underlying t = some (.struct fl.toArray)) (hS : OpL P w fl Ss) (ho : offB P fl 0 = true) (hsz : P.cellsOf t = (fl.map fun g => P.cellsOf g.type).sum) :
    Opens P w t fun l => ∃ ls : List (List AV), ls.length = Ss.length ∧ (∀ (i : Nat) (S : List AV → Prop) (m : List AV), Ss[i]? = some S → ls[i]? = some m → S m) ∧ l = ls.flatten :=
  Opens.struct ht (by simpa using hS.len) (fun i f S h1 h2 => hS.get i (by simpa using h1) h2) (fun i f h => by simpa using offB_get i ho (by simpa using h)) hsz
/-- slices: of the kind of elements e, each as `ok` says -/
theorem Opens.slice {t te : TypeId} {e : Ety} {S : List AV → Prop} {ok : e.T → Prop} (ht : P.underlying t = some (.slice te)) (hsz : P.cellsOf te = e.sz) (he : Opens P w te S) (hok : ∀ l, S l → ∃ x : e.T, e.enc x = l ∧ ok x) :
    Opens P w t fun l => ∃ xs : List e.T, xs.length ≤ maxLen ∧ (∀ x ∈ xs, ok x) ∧ l = [.ro e xs] := fun H enc base spare held fuel cs x hx => by
  rcases DataW.trod_slice ht hx with ⟨rfl, _⟩ | ⟨a, len, cap, elems, rest, n, _, rfl, _, _, hlc, hcm, hel, hg, _⟩
  · exact ⟨[.ro e []], ⟨[], by simp, by simp, rfl⟩, .cons (.ro0 (Nat.zero_le _)) .nil⟩
  · by_cases h0 : len = 0
    · subst h0
      exact ⟨[.ro e []], ⟨[], by simp, by simp, rfl⟩, .cons (.ro0 hcm) .nil⟩
    · have hz := e.sz_pos
      have each : ∀ i, i < len → ∃ (m : e.T) (cs' : List Value), ok m ∧ LRel (oldR w) [] (e.enc m) cs' ∧ w.cells? base (a.add (i * e.sz)) e.sz = some cs' := by
        intro i hi
        have h1 := hg i hi
        rw [List.getElem?_eq_getElem (by omega), hsz] at h1
        obtain ⟨cs', h2, h3⟩ := Option.bind_eq_some_iff.1 h1
        obtain ⟨l, h4, h5⟩ := he H enc base spare held n _ _ h3
        obtain ⟨m, rfl, h6⟩ := hok l h4
        exact ⟨m, cs', h6, h5, h2⟩
      obtain ⟨_, _, _, _, hc0⟩ := each 0 (by omega)
      obtain ⟨hs, arr, ty, fr, hb, _⟩ := cells_of hc0 hz
      have hs0 : a.spot = none := by
        rw [Nat.zero_mul] at hs
        simpa [Addr.add] using hs
      rw [add_block] at hb
      have key : ∀ k, k ≤ len → ∃ xs : List e.T, xs.length = k ∧ (∀ x ∈ xs, ok x) ∧ LRel (oldR w) [] (xs.flatMap e.enc) ((arr.toList.drop a.off).take (k * e.sz)) := by
        intro k
        induction k with
        | zero => intro _; exact ⟨[], rfl, by simp, by simp; exact .nil⟩
        | succ k ih =>
          intro hk
          obtain ⟨xs, h1, h2, h3⟩ := ih (by omega)
          obtain ⟨m, cs', h4, h5, h6⟩ := each k (by omega)
          obtain ⟨_, arr', ty', fr', hb', h7⟩ := cells_of h6 hz
          rw [add_block, hb] at hb'
          cases hb'
          rw [add_off] at h7
          refine ⟨xs ++ [m], by simp [h1], fun x hx => ?_, ?_⟩
          · rcases List.mem_append.1 hx with hx | hx
            · exact h2 x hx
            · rw [List.mem_singleton] at hx
              subst hx
              exact h4
          · rw [List.flatMap_append, List.flatMap_singleton, Nat.succ_mul, List.take_add, List.drop_drop, h7]
            exact h3.app h5
      obtain ⟨xs, h1, h2, h3⟩ := key len (Nat.le_refl _)
      refine ⟨[.ro e xs], ⟨xs, by omega, h2, rfl⟩, .cons ?_ .nil⟩
      obtain ⟨ab, ao, sp⟩ := a
      simp only at hs0
      subst hs0
      rw [← h1]
      exact .ro hb (by rw [h1]; exact h3) (by omega) hcm
/-! ### Arguments -/
def OpensV (P : Program) (w : World) (t : TypeId) (S : AV → Prop) : Prop :=
  ∀ (H : Type) (enc : TypeId × Value → H) (r : Reach) (b0 : Nat) (v : Value) (d : DataW H) (p : List MemPlace), Value.okWide P w r b0 t v → DataW.Trod enc P w 0 (fun _ => true) true t v d p → ∃ a, S a ∧ Rel (oldR w) [] a v
theorem Opens.argS {t : TypeId} {fs : Array Field} {S : List AV → Prop} (ht : P.underlying t = some (.struct fs)) (h : Opens P w t S) : OpensV P w t fun a => ∃ l, S l ∧ a = .agg l := fun H enc r b0 v d p hv hd => by
  obtain ⟨fuel, hd⟩ := hd
  obtain ⟨l, h1, h2⟩ := h H enc _ _ _ fuel _ _ hd
  unfold Value.okWide at hv
  simp only [ht] at hv
  obtain ⟨cs, rfl, _, _⟩ := hv
  exact ⟨.agg l, ⟨l, h1, rfl⟩, by simpa [Value.cells] using Rel.agg h2⟩
theorem Opens.arg1 {t : TypeId} {S : List AV → Prop} (h : Opens P w t S) (ht : ∀ v r b0, Value.okWide P w r b0 t v → v.cells = #[v]) : OpensV P w t fun a => S [a] := fun H enc r b0 v d p hv hd => by
  obtain ⟨fuel, hd⟩ := hd
  obtain ⟨l, h1, h2⟩ := h H enc _ _ _ fuel _ _ hd
  rw [ht v r b0 hv] at h2
  cases h2 with
  | cons h3 h4 =>
    cases h4
    exact ⟨_, h1, h3⟩
theorem one_of {t : TypeId} {u : TypeDesc} (ht : P.underlying t = some u) (hu : (match u with | .bool | .int _ | .string | .slice _ => true | _ => false) = true) (v : Value) (r : Reach) (b0 : Nat) (hv : Value.okWide P w r b0 t v) : v.cells = #[v] := by
  unfold Value.okWide at hv
  cases u <;> simp at hu <;> simp only [ht] at hv <;> unfold Cell.okWide Cell.ok at hv <;> simp only [ht] at hv <;> cases v <;> first | rfl | (simp at hv; done)
end
/-- a call over nothing but what lies for good leaves what lay there as it is -/
theorem does_calls {P : Program} {g : FuncId} {xs : List AV} {S : AV → Prop} {vs : List Value} {w : World} (H : Does P g xs [] fun a _ => S a) (hr : LRel (oldR w) [] xs vs) : Calls P g vs.toArray w fun e w' => (∃ v a R μ, e = .returned v ∧ S a ∧ Rel R μ a v) ∧ Go.RowKit.Below w.heap.size w w' :=
  (H.run (oldR w) [] w vs hr (old_ok w)).mono fun e w' hx => by
    obtain ⟨v, R', μ', h', av, rfl, h1, h2, _, _, h3⟩ := hx
    exact ⟨⟨v, av, R', μ', rfl, h1, h2⟩, h3.os, h3.tape, h3.output, h3.size, fun k hk => h3.out k hk (by simp [ownH])⟩
theorem does_true {P : Program} {g : FuncId} {xs : List AV} {vs : List Value} {w : World} (H : Does P g xs [] fun a _ => a = .bool true) (hr : LRel (oldR w) [] xs vs) : Calls P g vs.toArray w fun e w' => e = .returned (.bool true) ∧ Go.RowKit.Below w.heap.size w w' :=
  (does_calls H hr).mono fun e w' hx => by
    obtain ⟨⟨v, a, R, μ, rfl, rfl, h2⟩, hb⟩ := hx
    cases h2
    exact ⟨rfl, hb⟩
end Go.V

set_option maxRecDepth 100000
namespace Go.V
open Go.Proofs
theorem byte_enc {n : Int} (h : IntKind.u8.has n) : Ety.enc .byte (UInt8.ofNat n.toNat) = [.int .u8 n] := by
  have h1 : 0 ≤ n ∧ n ≤ 255 := h
  have : ((UInt8.ofNat n.toNat).toNat : Int) = n := by simp; omega
  show [AV.int .u8 ((UInt8.ofNat n.toNat).toNat : Int)] = _
  rw [this]
def okE_byte (x : Ety.T .byte) : Prop := True
def okS_Itm (x : Itm) : Prop := IntKind.i64.has x.apid ∧ IntKind.i64.has x.count ∧ IntKind.i64.has x.time ∧ (x.data.length ≤ maxLen ∧ ∀ y ∈ x.data, okE_byte y)
theorem op_T3 (w : World) : Opens Try.prog w 3 fun l => ∃ n, IntKind.i64.has n ∧ l = [.int .i64 n] := Opens.int Try.underlying3
theorem op_T5 (w : World) : Opens Try.prog w 5 fun l => ∃ n, IntKind.u8.has n ∧ l = [.int .u8 n] := Opens.int Try.underlying5
theorem op_T29 (w : World) : Opens Try.prog w 29 fun l => ∃ xs : List (Ety.T .byte), xs.length ≤ maxLen ∧ (∀ x ∈ xs, okE_byte x) ∧ l = [.ro .byte xs] :=
  Opens.slice (e := .byte) (ok := okE_byte) Try.underlying29 (by kernel_rfl) (op_T5 w) fun l ⟨n, h, e⟩ => ⟨UInt8.ofNat n.toNat, by rw [e]; exact byte_enc h, trivial⟩
theorem op_T31 (w : World) : Opens Try.prog w 31 fun l => ∃ x : Itm, okS_Itm x ∧ l = [.int .i64 x.apid, .int .i64 x.count, .int .i64 x.time, .ro .byte x.data] := by
  refine (Opens.fields Try.underlying31 (Ss := [_, _, _, _]) ⟨op_T3 w, op_T3 w, op_T3 w, op_T29 w, trivial⟩ (by kernel_rfl) (by kernel_rfl)).mono ?_
  rintro l ⟨ls, h1, h2, rfl⟩
  obtain ⟨a0, a1, a2, a3, rfl⟩ : ∃ a0 a1 a2 a3, ls = [a0, a1, a2, a3] := by
    match ls, h1 with
    | [a0, a1, a2, a3], _ => exact ⟨a0, a1, a2, a3, rfl⟩
  obtain ⟨x0, h10, rfl⟩ := h2 0 _ _ rfl rfl
  obtain ⟨x1, h11, rfl⟩ := h2 1 _ _ rfl rfl
  obtain ⟨x2, h12, rfl⟩ := h2 2 _ _ rfl rfl
  obtain ⟨x3, h13, g13, rfl⟩ := h2 3 _ _ rfl rfl
  exact ⟨⟨x0, x1, x2, x3⟩, ⟨h10, h11, h12, ⟨h13, g13⟩⟩, rfl⟩
theorem arg_T31 (w : World) : OpensV Try.prog w 31 fun a => ∃ x : Itm, okS_Itm x ∧ a = .agg [.int .i64 x.apid, .int .i64 x.count, .int .i64 x.time, .ro .byte x.data] := fun H enc r b0 v d p hv hd => by
  obtain ⟨a, ⟨l, ⟨c, hn, rfl⟩, rfl⟩, h⟩ := (op_T31 w).argS Try.underlying31 H enc r b0 v d p hv hd
  exact ⟨_, ⟨c, hn, rfl⟩, h⟩
theorem arg_T3 (w : World) : OpensV Try.prog w 3 fun a => ∃ n, IntKind.i64.has n ∧ a = .int .i64 n := fun H enc r b0 v d p hv hd => by
  obtain ⟨a, ⟨n, h1, e⟩, h⟩ := (op_T3 w).arg1 (one_of Try.underlying3 rfl) H enc r b0 v d p hv hd
  cases e
  exact ⟨_, ⟨n, h1, rfl⟩, h⟩
def okE_int (x : Ety.T .int) : Prop := IntKind.i64.has x
theorem op_T22 (w : World) : Opens Try.prog w 22 fun l => ∃ xs : List (Ety.T .int), xs.length ≤ maxLen ∧ (∀ x ∈ xs, okE_int x) ∧ l = [.ro .int xs] :=
  Opens.slice (e := .int) (ok := okE_int) Try.underlying22 (by kernel_rfl) (op_T3 w) fun l ⟨n, h, e⟩ => ⟨n, e.symm, h⟩
theorem arg_T22 (w : World) : OpensV Try.prog w 22 fun a => ∃ xs : List (Ety.T .int), xs.length ≤ maxLen ∧ (∀ x ∈ xs, okE_int x) ∧ a = .ro .int xs := fun H enc r b0 v d p hv hd => by
  obtain ⟨a, ⟨n, h1, h2, e⟩, h⟩ := (op_T22 w).arg1 (one_of Try.underlying22 rfl) H enc r b0 v d p hv hd
  cases e
  exact ⟨_, ⟨n, h1, h2, rfl⟩, h⟩
/-- a law that was walked -/
theorem law_true {g : FuncId} {la : List AV} {vs : List Value} {w : World} (H : DoesK Try.prog 0 g la [] (EndF 0 (.bool true) [])) (hb : brL [] [] la la) (hr : LRel (oldR w) [] la vs) : Calls Try.prog g vs.toArray w fun e w' => e = .returned (.bool true) ∧ Go.RowKit.Below w.heap.size w w' :=
  does_true (frame_pure H hb (.inr rfl) (fun _ => rfl) rfl) hr
end Go.V
