/-
  archive.Add of a further item.
  ranges: IndexFunc, ContainsFunc, Clone, DeleteFunc of slices; Has, Valid, Same.
  ranges: the reference's functions.
  ranges: the reference's functions, second part.
  slices.SortFunc at ranges, by their begin: the shelf's contract over the abstract memory.
-/
import Derived.Test.YtoohlpieakeecaaPart12
import Derived.Shelf.SlSortCmp.WholeK
import Derived.Shelf.SlSortCmp.NoneTotal
import Derived.Shelf.SlicesG.Cmp
import Derived.Shelf.Lay
import Derived.Ground.SlsfProg
import Derived.Ground.SlgcProg
set_option linter.unusedVariables false
set_option linter.unusedSimpArgs false
set_option maxRecDepth 100000
set_option maxHeartbeats 8000000
namespace Go.V
open Go.Proofs
abbrev eAt (xs : List Ent) (k : Nat) : Ent := xs.getD k Ent.zero
/-- the place of a count, from behind -/
def posE (xs : List Ent) (e : Int) : Nat → Nat
  | 0 => 0
  | k + 1 => if e ≤ (eAt xs k).count then posE xs e k else k + 1
theorem posE_le (xs : List Ent) (e : Int) : ∀ k, posE xs e k ≤ k
  | 0 => Nat.le_refl 0
  | k + 1 => by
    unfold posE
    split
    · exact Nat.le_succ_of_le (posE_le xs e k)
    · exact Nat.le_refl _
theorem posE_eq (xs : List Ent) (e : Int) {k : Nat} (h : ¬ (0 < k ∧ e ≤ (eAt xs (k - 1)).count)) : posE xs e k = k := by
  cases k with
  | zero => rfl
  | succ k =>
    rw [posE]
    exact if_neg fun q => h ⟨by omega, q⟩
theorem posE_dn (xs : List Ent) (e : Int) {k : Nat} (h : 0 < k ∧ e ≤ (eAt xs (k - 1)).count) : posE xs e k = posE xs e (k - 1) := by
  cases k with
  | zero => exact absurd h.1 (by decide)
  | succ k =>
    show posE xs e (k + 1) = posE xs e k
    rw [posE]
    exact if_pos h.2
/-- what Add does with the list behind the first item -/
def addA (p c t e : Int) (xs : List Ent) : List Ent × Int :=
  if posE xs e xs.length < xs.length ∧ (eAt xs (posE xs e xs.length)).count = e then (xs, if (eAt xs (posE xs e xs.length)).time = t ∧ (eAt xs (posE xs e xs.length)).data = [] then 9 else 4)
  else (xs.take (posE xs e xs.length) ++ ⟨e, p, c, t, []⟩ :: xs.drop (posE xs e xs.length), 0)
theorem b_beq (a b : List UInt8) : DoesK Try.prog 0 33 [.ro .byte a, .ro .byte b] [] (EndF 0 (.bool (decide (a = b))) []) := by
  refine DoesK.close ?_
  refine w_body (rs := [.tmp 4]) (tm := [.ro .byte a, .ro .byte b, .any, .any, .any, .any, .any, .any, .any, .any]) fn_33 rfl rfl rfl rfl fun R hR => ?_
  (all_goals (try ((first | (with_reducible refine wp_id ?_) | (with_reducible refine does_id ?_) | (with_reducible refine ops_id ?_)); refine walk ?_; (repeat' (first | exact trivial | with_reducible refine And.intro ?_ ?_)); all_goals (repeat (first | (with_reducible refine ImpB.mk fun hb => ?_) | (with_reducible refine ImpK.mk fun hK => ?_) | (with_reducible refine ImpF.mk fun hF => ?_) | (with_reducible refine ImpQ.mk fun hp => ?_) | (with_reducible refine AllE.mk fun p => ?_) | (with_reducible refine AllR.mk fun rest => ?_) | (with_reducible refine AllK.mk fun K => ?_))))); repeat' (with_reducible refine And.intro ?_ ?_))
  (all_goals (repeat (first | (clear hK; clear K) | (clear hE; clear E) | (clear hF; clear F) | (clear hR; clear R))); all_goals (try simp only [decide_eq_true_eq, decide_eq_false_iff_not, Bool.not_eq_true', Bool.not_eq_false', Bool.not_eq_true, Bool.not_eq_false, decide_not, decide_true, decide_false, Bool.decide_and, Bool.and_eq_true, Bool.or_eq_true, Bool.and_eq_false_imp, Decidable.not_not] at *); all_goals (try omega); all_goals (try (first | exact u8w_lo _ | exact u8w_hi _ | exact (bits8 _ _ _).1 | exact (bits8 _ _ _).2 | exact Int.natCast_nonneg _ | exact u8_ltI _)))
  (focus (refine ⟨_, _, Gh.refl, [], rfl, ?_⟩; (refine fitq ?_ ?_ ?_ <;> try exact trivial); (try any_goals (refine ⟨?_, ?_⟩)); (try any_goals (with_reducible rfl))))
theorem c_beq {h : List Ch} {K : KT} {a b : List UInt8} {a' b' : AV} (H : K (.bool (decide (a = b))) h) (b1 : brA [] h (.ro .byte a) a') (b2 : brA [] h (.ro .byte b) b') : Does Try.prog 33 [a', b'] h K :=
  frame_pure (b_beq a b) (br_cons b1 (br_cons b2 br_nil)) (.inr rfl) (fun _ => rfl) H
abbrev i_beq := Ctr.mk (i := 0) (g := 33) @c_beq
attribute [instance] i_beq
theorem b_addO (p c t : Int) (xs : List Ent) (e : Int) (q1 : isIt p c t) (hl : 0 < xs.length) (hl2 : xs.length ≤ 1000000) (hg : -1099511627776 ≤ (eAt xs (xs.length - 1)).count ∧ (eAt xs (xs.length - 1)).count ≤ 1099511627776) (he : ext (eAt xs (xs.length - 1)).count c = e) :
    DoesK Try.prog 1 10 [.ptr 0 0, .agg [.int .i64 p, .int .i64 c, .int .i64 t, .lit (.slice none 0 0)]] [.pack (AO p xs)] (EndF 1 (.int .i64 (addA p c t e xs).2) ([.pack (AO p (addA p c t e xs).1)] ++ [])) := by
  refine DoesK.close ?_
  have hc := q1.c1
  have hc2 := q1.c2
  have hw1 : IntKind.i64.wrap ((xs.length : Int) - 1) = ((xs.length - 1 : Nat) : Int) := by rw [wrap_i64 _ (by omega) (by omega)]; omega
  have hgg : ((xs.getD (xs.length - 1) Ent.zero).count) = (eAt xs (xs.length - 1)).count := rfl
  generalize eAt xs (xs.length - 1) = gE at *
  refine w_body (rs := [.tmp 4]) (tm := [.ptr 0 0, .agg [.int .i64 p, .int .i64 c, .int .i64 t, .lit (.slice none 0 0)], .any, .any, .any, .any, .any, .any, .any, .any, .any, .any, .any, .any, .any, .any, .any, .any, .any, .any, .any, .any, .any, .any, .any, .any, .any, .any, .any, .any, .any, .any, .any, .any, .any, .any, .any, .any, .any, .any, .any, .any, .any, .any, .any, .any, .any, .any, .any, .any, .any, .any, .any, .any, .any, .any, .any, .any, .any, .any, .any, .any, .any, .any, .any, .any, .any, .any, .any, .any, .any, .any, .any, .any, .any, .any, .any, .any, .any, .any, .any, .any, .any, .any, .any, .any, .any, .any, .any, .any, .any, .any, .any, .any, .any, .any, .any, .any, .any, .any, .any, .any, .any, .any, .any, .any, .any, .any, .any, .any, .any, .any, .any, .any, .any, .any, .any, .any, .any, .any, .any, .any, .any, .any, .any, .any, .any, .any, .any, .any, .any, .any, .any, .any, .any, .any, .any, .any, .any, .any, .any, .any, .any, .any, .any, .any, .any, .any, .any]) fn_10 rfl rfl rfl rfl fun R hR => ?_
  refine w_open 0 rfl rfl ?_
  simp only [go_sem, decide_true, decide_false, Int.reduceToNat, Nat.min_eq_left, Nat.min_eq_right, Int.reducePow, Nat.reducePow, Int.reduceLE, Int.reduceLT, Int.reduceMul, Int.reduceAdd, Int.reduceSub, Int.reduceNeg, Bool.not_true, Bool.not_false, Bool.not_not, ↓reduceIte, Nat.reduceAdd, Nat.reduceSub, Nat.reduceMul, Nat.reduceEqDiff, reduceCtorEq, Nat.reduceLT, Nat.reduceLeDiff, Nat.reduceGT]
  (have zx1 := @hw1; have zx2 := @hgg; have zx3 := @he; all_goals (try ((first | (with_reducible refine wp_id ?_) | (with_reducible refine does_id ?_) | (with_reducible refine ops_id ?_)); refine walk ?_; (repeat' (first | exact trivial | with_reducible refine And.intro ?_ ?_)); all_goals (repeat (first | (with_reducible refine ImpB.mk fun hb => ?_) | (with_reducible refine ImpK.mk fun hK => ?_) | (with_reducible refine ImpF.mk fun hF => ?_) | (with_reducible refine ImpQ.mk fun hp => ?_) | (with_reducible refine AllE.mk fun p => ?_) | (with_reducible refine AllR.mk fun rest => ?_) | (with_reducible refine AllK.mk fun K => ?_))))); repeat' (with_reducible refine And.intro ?_ ?_))
  any_goals first | exact Int.natCast_nonneg _ | (show ((xs.length - 1 : Nat) : Int) < (xs.length : Int); omega) | (show xs.length - 1 < xs.length; omega)
  any_goals ((try (refine w_seq fun K hK => ?_)); (try (refine w_block ?_)); refine w_loop (A := Nat) (fun k => k ≤ xs.length ∧ posE xs e xs.length = posE xs e k) (fun k => k) (fun k => [(9, .int .i64 k)]) (fun k => []) (xs.length) (ws := ?ws1) (tk := ?tk1) ?hw1 ?ht1 ?hi ?h0 ?LH1; (case hw1 => simp only [go_sem, decide_true, decide_false, Int.reduceToNat, Nat.min_eq_left, Nat.min_eq_right, Int.reducePow, Nat.reducePow, Int.reduceLE, Int.reduceLT, Int.reduceMul, Int.reduceAdd, Int.reduceSub, Int.reduceNeg, Bool.not_true, Bool.not_false, Bool.not_not, ↓reduceIte, Nat.reduceAdd, Nat.reduceSub, Nat.reduceMul, Nat.reduceEqDiff, reduceCtorEq, Nat.reduceLT, Nat.reduceLeDiff, Nat.reduceGT]; exact rfl); (case ht1 => simp only [go_sem, decide_true, decide_false, Int.reduceToNat, Nat.min_eq_left, Nat.min_eq_right, Int.reducePow, Nat.reducePow, Int.reduceLE, Int.reduceLT, Int.reduceMul, Int.reduceAdd, Int.reduceSub, Int.reduceNeg, Bool.not_true, Bool.not_false, Bool.not_not, ↓reduceIte, Nat.reduceAdd, Nat.reduceSub, Nat.reduceMul, Nat.reduceEqDiff, reduceCtorEq, Nat.reduceLT, Nat.reduceLeDiff, Nat.reduceGT]; exact rfl); (case' LH1 => rintro k E t hx hE ht; simp only [go_sem] at ht; subst ht; simp only [go_sem]; try dsimp only at hx))
  case hi => exact ⟨Nat.le_refl _, rfl⟩
  case h0 =>
    (focus (refine ⟨_, _, Gh.refl, [0, 1, 2, 3, 4], rfl, ?_⟩; (refine fitq ?_ ?_ ?_ <;> try exact trivial); (try any_goals (refine ⟨?_, ?_⟩)); (try any_goals (with_reducible rfl))))
    all_goals (repeat' (first | (refine And.intro ?_ ?_) | rfl))
  case LH1 =>
    obtain ⟨hk0, hkp⟩ := hx
    have hdn : 0 < k → IntKind.i64.wrap ((k : Int) - 1) = ((k - 1 : Nat) : Int) := fun q => by rw [wrap_i64 _ (by omega) (by omega)]; omega
    by_cases hk : 0 < k
    · have hw := hdn hk
      have hkd : decide (0 < (k : Int)) = true := decide_eq_true (by omega)
      by_cases hc3 : e ≤ (xs.getD (k - 1) Ent.zero).count
      · have d3 : decide (e ≤ (xs.getD (k - 1) Ent.zero).count) = true := decide_eq_true hc3
        (have zx1 := @hkd; have zx2 := @hw; have zx3 := @d3; all_goals (try ((first | (with_reducible refine wp_id ?_) | (with_reducible refine does_id ?_) | (with_reducible refine ops_id ?_)); refine walk ?_; (repeat' (first | exact trivial | with_reducible refine And.intro ?_ ?_)); all_goals (repeat (first | (with_reducible refine ImpB.mk fun hb => ?_) | (with_reducible refine ImpK.mk fun hK => ?_) | (with_reducible refine ImpF.mk fun hF => ?_) | (with_reducible refine ImpQ.mk fun hp => ?_) | (with_reducible refine AllE.mk fun p => ?_) | (with_reducible refine AllR.mk fun rest => ?_) | (with_reducible refine AllK.mk fun K => ?_))))); repeat' (with_reducible refine And.intro ?_ ?_))
        any_goals first | exact Int.natCast_nonneg _ | (show ((k - 1 : Nat) : Int) < (xs.length : Int); omega) | (show k - 1 < xs.length; omega)
        refine ⟨k - 1, ⟨⟨(by omega : k - 1 ≤ xs.length), hkp.trans (posE_dn xs e ⟨hk, hc3⟩)⟩, (by omega : k - 1 < k)⟩, ?_⟩
        dsimp only
        (focus (refine ⟨_, _, Gh.refl, [0, 1, 2, 3, 4], rfl, ?_⟩; (refine fitq ?_ ?_ ?_ <;> try exact trivial); (try any_goals (refine ⟨?_, ?_⟩)); (try any_goals (with_reducible rfl))))
        all_goals (repeat' (first | (refine And.intro ?_ ?_) | rfl))
      · have d3 : decide (e ≤ (xs.getD (k - 1) Ent.zero).count) = false := decide_eq_false hc3
        have hP : posE xs e xs.length = k := hkp.trans (posE_eq xs e fun q => hc3 q.2)
        obtain ⟨y, hy⟩ : ∃ y, xs.getD k Ent.zero = y := ⟨_, rfl⟩
        by_cases c5 : k < xs.length
        · have d5 : decide ((k : Int) < (xs.length : Int)) = true := decide_eq_true (by omega)
          by_cases c6 : y.count = e
          · have d6 : decide (y.count = e) = true := decide_eq_true c6
            by_cases c7 : y.time = t
            · have d7 : decide (y.time = t) = true := decide_eq_true c7
              by_cases c8 : y.data = []
              · have d8 : decide (y.data = []) = true := decide_eq_true c8
                have hr : addA p c t e xs = (xs, 9) := by
                  unfold addA
                  rw [hP]
                  show (if k < xs.length ∧ (xs.getD k Ent.zero).count = e then (xs, if (xs.getD k Ent.zero).time = t ∧ (xs.getD k Ent.zero).data = [] then (9 : Int) else 4) else _) = _
                  rw [hy, if_pos ⟨c5, c6⟩, if_pos ⟨c7, c8⟩]
                (have zx1 := @hkd; have zx2 := @hw; have zx3 := @d3; have zx4 := @d5; have zx5 := @hy; have zx6 := @d6; have zx7 := @d7; have zx8 := @d8; all_goals (try ((first | (with_reducible refine wp_id ?_) | (with_reducible refine does_id ?_) | (with_reducible refine ops_id ?_)); refine walk ?_; (repeat' (first | exact trivial | with_reducible refine And.intro ?_ ?_)); all_goals (repeat (first | (with_reducible refine ImpB.mk fun hb => ?_) | (with_reducible refine ImpK.mk fun hK => ?_) | (with_reducible refine ImpF.mk fun hF => ?_) | (with_reducible refine ImpQ.mk fun hp => ?_) | (with_reducible refine AllE.mk fun p => ?_) | (with_reducible refine AllR.mk fun rest => ?_) | (with_reducible refine AllK.mk fun K => ?_))))); repeat' (with_reducible refine And.intro ?_ ?_))
                try any_goals first | exact Int.natCast_nonneg _ | (show k - 1 < xs.length; omega) | (show k < xs.length; omega) | (show ((k - 1 : Nat) : Int) < (xs.length : Int); omega) | (show (k : Int) < (xs.length : Int); omega)
                rw [hr]
                (focus (refine ⟨_, _, gh_close (t := 0) (ts := [1, 2]) (l := AO p xs) ⟨⟨_, _, rfl⟩, ?_, by simp⟩, [0], rfl, ?_⟩; all_goals (refine fitq ?_ ?_ ?_ <;> try exact trivial); (try any_goals (refine ⟨?_, ?_⟩)); (try any_goals (with_reducible rfl))))
                all_goals (repeat' (first | (refine And.intro ?_ ?_) | rfl))
              · have d8 : decide (y.data = []) = false := decide_eq_false c8
                have hr : addA p c t e xs = (xs, 4) := by
                  unfold addA
                  rw [hP]
                  show (if k < xs.length ∧ (xs.getD k Ent.zero).count = e then (xs, if (xs.getD k Ent.zero).time = t ∧ (xs.getD k Ent.zero).data = [] then (9 : Int) else 4) else _) = _
                  rw [hy, if_pos ⟨c5, c6⟩, if_neg (fun q => c8 q.2)]
                (have zx1 := @hkd; have zx2 := @hw; have zx3 := @d3; have zx4 := @d5; have zx5 := @hy; have zx6 := @d6; have zx7 := @d7; have zx8 := @d8; all_goals (try ((first | (with_reducible refine wp_id ?_) | (with_reducible refine does_id ?_) | (with_reducible refine ops_id ?_)); refine walk ?_; (repeat' (first | exact trivial | with_reducible refine And.intro ?_ ?_)); all_goals (repeat (first | (with_reducible refine ImpB.mk fun hb => ?_) | (with_reducible refine ImpK.mk fun hK => ?_) | (with_reducible refine ImpF.mk fun hF => ?_) | (with_reducible refine ImpQ.mk fun hp => ?_) | (with_reducible refine AllE.mk fun p => ?_) | (with_reducible refine AllR.mk fun rest => ?_) | (with_reducible refine AllK.mk fun K => ?_))))); repeat' (with_reducible refine And.intro ?_ ?_))
                try any_goals first | exact Int.natCast_nonneg _ | (show k - 1 < xs.length; omega) | (show k < xs.length; omega) | (show ((k - 1 : Nat) : Int) < (xs.length : Int); omega) | (show (k : Int) < (xs.length : Int); omega)
                rw [hr]
                (focus (refine ⟨_, _, gh_close (t := 0) (ts := [1, 2]) (l := AO p xs) ⟨⟨_, _, rfl⟩, ?_, by simp⟩, [0], rfl, ?_⟩; all_goals (refine fitq ?_ ?_ ?_ <;> try exact trivial); (try any_goals (refine ⟨?_, ?_⟩)); (try any_goals (with_reducible rfl))))
                all_goals (repeat' (first | (refine And.intro ?_ ?_) | rfl))
            · have d7 : decide (y.time = t) = false := decide_eq_false c7
              have hr : addA p c t e xs = (xs, 4) := by
                unfold addA
                rw [hP]
                show (if k < xs.length ∧ (xs.getD k Ent.zero).count = e then (xs, if (xs.getD k Ent.zero).time = t ∧ (xs.getD k Ent.zero).data = [] then (9 : Int) else 4) else _) = _
                rw [hy, if_pos ⟨c5, c6⟩, if_neg (fun q => c7 q.1)]
              (have zx1 := @hkd; have zx2 := @hw; have zx3 := @d3; have zx4 := @d5; have zx5 := @hy; have zx6 := @d6; have zx7 := @d7; all_goals (try ((first | (with_reducible refine wp_id ?_) | (with_reducible refine does_id ?_) | (with_reducible refine ops_id ?_)); refine walk ?_; (repeat' (first | exact trivial | with_reducible refine And.intro ?_ ?_)); all_goals (repeat (first | (with_reducible refine ImpB.mk fun hb => ?_) | (with_reducible refine ImpK.mk fun hK => ?_) | (with_reducible refine ImpF.mk fun hF => ?_) | (with_reducible refine ImpQ.mk fun hp => ?_) | (with_reducible refine AllE.mk fun p => ?_) | (with_reducible refine AllR.mk fun rest => ?_) | (with_reducible refine AllK.mk fun K => ?_))))); repeat' (with_reducible refine And.intro ?_ ?_))
              try any_goals first | exact Int.natCast_nonneg _ | (show k - 1 < xs.length; omega) | (show k < xs.length; omega) | (show ((k - 1 : Nat) : Int) < (xs.length : Int); omega) | (show (k : Int) < (xs.length : Int); omega)
              rw [hr]
              (focus (refine ⟨_, _, gh_close (t := 0) (ts := [1, 2]) (l := AO p xs) ⟨⟨_, _, rfl⟩, ?_, by simp⟩, [0], rfl, ?_⟩; all_goals (refine fitq ?_ ?_ ?_ <;> try exact trivial); (try any_goals (refine ⟨?_, ?_⟩)); (try any_goals (with_reducible rfl))))
              all_goals (repeat' (first | (refine And.intro ?_ ?_) | rfl))
          · have d6 : decide (y.count = e) = false := decide_eq_false c6
            have hr : addA p c t e xs = (xs.take k ++ ⟨e, p, c, t, []⟩ :: xs.drop k, 0) := by
              unfold addA
              rw [hP]
              show (if k < xs.length ∧ (xs.getD k Ent.zero).count = e then _ else _) = _
              rw [hy, if_neg (fun q => c6 q.2)]
            have hlen : (xs.take k ++ (⟨e, p, c, t, []⟩ : Ent) :: xs.drop k).length = xs.length + 1 := by simp; omega
            (have zx1 := @hkd; have zx2 := @hw; have zx3 := @d3; have zx4 := @d5; have zx5 := @hy; have zx6 := @d6; all_goals (try ((first | (with_reducible refine wp_id ?_) | (with_reducible refine does_id ?_) | (with_reducible refine ops_id ?_)); refine walk ?_; (repeat' (first | exact trivial | with_reducible refine And.intro ?_ ?_)); all_goals (repeat (first | (with_reducible refine ImpB.mk fun hb => ?_) | (with_reducible refine ImpK.mk fun hK => ?_) | (with_reducible refine ImpF.mk fun hF => ?_) | (with_reducible refine ImpQ.mk fun hp => ?_) | (with_reducible refine AllE.mk fun p => ?_) | (with_reducible refine AllR.mk fun rest => ?_) | (with_reducible refine AllK.mk fun K => ?_))))); repeat' (with_reducible refine And.intro ?_ ?_))
            try any_goals first | exact Int.natCast_nonneg _ | (show k - 1 < xs.length; omega) | (show k < xs.length; omega) | (show ((k - 1 : Nat) : Int) < (xs.length : Int); omega) | (show (k : Int) < (xs.length : Int); omega)
            rw [hr, ← hlen]
            (focus (refine ⟨_, _, gh_close (t := 0) (ts := [1, 6]) (l := AO p (xs.take k ++ ⟨e, p, c, t, []⟩ :: xs.drop k)) ⟨⟨_, _, rfl⟩, ?_, by simp⟩, [0], rfl, ?_⟩; all_goals (refine fitq ?_ ?_ ?_ <;> try exact trivial); (try any_goals (refine ⟨?_, ?_⟩)); (try any_goals (with_reducible rfl))))
            all_goals (repeat' (first | (refine And.intro ?_ ?_) | rfl))
        · have d5 : decide ((k : Int) < (xs.length : Int)) = false := decide_eq_false (by omega)
          have hr : addA p c t e xs = (xs.take k ++ ⟨e, p, c, t, []⟩ :: xs.drop k, 0) := by
            unfold addA
            rw [hP]
            show (if k < xs.length ∧ (xs.getD k Ent.zero).count = e then _ else _) = _
            rw [hy, if_neg (fun q => c5 q.1)]
          have hlen : (xs.take k ++ (⟨e, p, c, t, []⟩ : Ent) :: xs.drop k).length = xs.length + 1 := by simp; omega
          (have zx1 := @hkd; have zx2 := @hw; have zx3 := @d3; have zx4 := @d5; all_goals (try ((first | (with_reducible refine wp_id ?_) | (with_reducible refine does_id ?_) | (with_reducible refine ops_id ?_)); refine walk ?_; (repeat' (first | exact trivial | with_reducible refine And.intro ?_ ?_)); all_goals (repeat (first | (with_reducible refine ImpB.mk fun hb => ?_) | (with_reducible refine ImpK.mk fun hK => ?_) | (with_reducible refine ImpF.mk fun hF => ?_) | (with_reducible refine ImpQ.mk fun hp => ?_) | (with_reducible refine AllE.mk fun p => ?_) | (with_reducible refine AllR.mk fun rest => ?_) | (with_reducible refine AllK.mk fun K => ?_))))); repeat' (with_reducible refine And.intro ?_ ?_))
          try any_goals first | exact Int.natCast_nonneg _ | (show k - 1 < xs.length; omega) | (show k < xs.length; omega) | (show ((k - 1 : Nat) : Int) < (xs.length : Int); omega) | (show (k : Int) < (xs.length : Int); omega)
          rw [hr, ← hlen]
          (focus (refine ⟨_, _, gh_close (t := 0) (ts := [1, 6]) (l := AO p (xs.take k ++ ⟨e, p, c, t, []⟩ :: xs.drop k)) ⟨⟨_, _, rfl⟩, ?_, by simp⟩, [0], rfl, ?_⟩; all_goals (refine fitq ?_ ?_ ?_ <;> try exact trivial); (try any_goals (refine ⟨?_, ?_⟩)); (try any_goals (with_reducible rfl))))
          all_goals (repeat' (first | (refine And.intro ?_ ?_) | rfl))
    · have hkd : decide (0 < (k : Int)) = false := decide_eq_false (by omega)
      have hP : posE xs e xs.length = k := hkp.trans (posE_eq xs e fun q => hk q.1)
      obtain ⟨y, hy⟩ : ∃ y, xs.getD k Ent.zero = y := ⟨_, rfl⟩
      by_cases c5 : k < xs.length
      · have d5 : decide ((k : Int) < (xs.length : Int)) = true := decide_eq_true (by omega)
        by_cases c6 : y.count = e
        · have d6 : decide (y.count = e) = true := decide_eq_true c6
          by_cases c7 : y.time = t
          · have d7 : decide (y.time = t) = true := decide_eq_true c7
            by_cases c8 : y.data = []
            · have d8 : decide (y.data = []) = true := decide_eq_true c8
              have hr : addA p c t e xs = (xs, 9) := by
                unfold addA
                rw [hP]
                show (if k < xs.length ∧ (xs.getD k Ent.zero).count = e then (xs, if (xs.getD k Ent.zero).time = t ∧ (xs.getD k Ent.zero).data = [] then (9 : Int) else 4) else _) = _
                rw [hy, if_pos ⟨c5, c6⟩, if_pos ⟨c7, c8⟩]
              (have zx1 := @hkd; have zx2 := @d5; have zx3 := @hy; have zx4 := @d6; have zx5 := @d7; have zx6 := @d8; all_goals (try ((first | (with_reducible refine wp_id ?_) | (with_reducible refine does_id ?_) | (with_reducible refine ops_id ?_)); refine walk ?_; (repeat' (first | exact trivial | with_reducible refine And.intro ?_ ?_)); all_goals (repeat (first | (with_reducible refine ImpB.mk fun hb => ?_) | (with_reducible refine ImpK.mk fun hK => ?_) | (with_reducible refine ImpF.mk fun hF => ?_) | (with_reducible refine ImpQ.mk fun hp => ?_) | (with_reducible refine AllE.mk fun p => ?_) | (with_reducible refine AllR.mk fun rest => ?_) | (with_reducible refine AllK.mk fun K => ?_))))); repeat' (with_reducible refine And.intro ?_ ?_))
              try any_goals first | exact Int.natCast_nonneg _ | (show k - 1 < xs.length; omega) | (show k < xs.length; omega) | (show ((k - 1 : Nat) : Int) < (xs.length : Int); omega) | (show (k : Int) < (xs.length : Int); omega)
              rw [hr]
              (focus (refine ⟨_, _, gh_close (t := 0) (ts := [1, 2]) (l := AO p xs) ⟨⟨_, _, rfl⟩, ?_, by simp⟩, [0], rfl, ?_⟩; all_goals (refine fitq ?_ ?_ ?_ <;> try exact trivial); (try any_goals (refine ⟨?_, ?_⟩)); (try any_goals (with_reducible rfl))))
              all_goals (repeat' (first | (refine And.intro ?_ ?_) | rfl))
            · have d8 : decide (y.data = []) = false := decide_eq_false c8
              have hr : addA p c t e xs = (xs, 4) := by
                unfold addA
                rw [hP]
                show (if k < xs.length ∧ (xs.getD k Ent.zero).count = e then (xs, if (xs.getD k Ent.zero).time = t ∧ (xs.getD k Ent.zero).data = [] then (9 : Int) else 4) else _) = _
                rw [hy, if_pos ⟨c5, c6⟩, if_neg (fun q => c8 q.2)]
              (have zx1 := @hkd; have zx2 := @d5; have zx3 := @hy; have zx4 := @d6; have zx5 := @d7; have zx6 := @d8; all_goals (try ((first | (with_reducible refine wp_id ?_) | (with_reducible refine does_id ?_) | (with_reducible refine ops_id ?_)); refine walk ?_; (repeat' (first | exact trivial | with_reducible refine And.intro ?_ ?_)); all_goals (repeat (first | (with_reducible refine ImpB.mk fun hb => ?_) | (with_reducible refine ImpK.mk fun hK => ?_) | (with_reducible refine ImpF.mk fun hF => ?_) | (with_reducible refine ImpQ.mk fun hp => ?_) | (with_reducible refine AllE.mk fun p => ?_) | (with_reducible refine AllR.mk fun rest => ?_) | (with_reducible refine AllK.mk fun K => ?_))))); repeat' (with_reducible refine And.intro ?_ ?_))
              try any_goals first | exact Int.natCast_nonneg _ | (show k - 1 < xs.length; omega) | (show k < xs.length; omega) | (show ((k - 1 : Nat) : Int) < (xs.length : Int); omega) | (show (k : Int) < (xs.length : Int); omega)
              rw [hr]
              (focus (refine ⟨_, _, gh_close (t := 0) (ts := [1, 2]) (l := AO p xs) ⟨⟨_, _, rfl⟩, ?_, by simp⟩, [0], rfl, ?_⟩; all_goals (refine fitq ?_ ?_ ?_ <;> try exact trivial); (try any_goals (refine ⟨?_, ?_⟩)); (try any_goals (with_reducible rfl))))
              all_goals (repeat' (first | (refine And.intro ?_ ?_) | rfl))
          · have d7 : decide (y.time = t) = false := decide_eq_false c7
            have hr : addA p c t e xs = (xs, 4) := by
              unfold addA
              rw [hP]
              show (if k < xs.length ∧ (xs.getD k Ent.zero).count = e then (xs, if (xs.getD k Ent.zero).time = t ∧ (xs.getD k Ent.zero).data = [] then (9 : Int) else 4) else _) = _
              rw [hy, if_pos ⟨c5, c6⟩, if_neg (fun q => c7 q.1)]
            (have zx1 := @hkd; have zx2 := @d5; have zx3 := @hy; have zx4 := @d6; have zx5 := @d7; all_goals (try ((first | (with_reducible refine wp_id ?_) | (with_reducible refine does_id ?_) | (with_reducible refine ops_id ?_)); refine walk ?_; (repeat' (first | exact trivial | with_reducible refine And.intro ?_ ?_)); all_goals (repeat (first | (with_reducible refine ImpB.mk fun hb => ?_) | (with_reducible refine ImpK.mk fun hK => ?_) | (with_reducible refine ImpF.mk fun hF => ?_) | (with_reducible refine ImpQ.mk fun hp => ?_) | (with_reducible refine AllE.mk fun p => ?_) | (with_reducible refine AllR.mk fun rest => ?_) | (with_reducible refine AllK.mk fun K => ?_))))); repeat' (with_reducible refine And.intro ?_ ?_))
            try any_goals first | exact Int.natCast_nonneg _ | (show k - 1 < xs.length; omega) | (show k < xs.length; omega) | (show ((k - 1 : Nat) : Int) < (xs.length : Int); omega) | (show (k : Int) < (xs.length : Int); omega)
            rw [hr]
            (focus (refine ⟨_, _, gh_close (t := 0) (ts := [1, 2]) (l := AO p xs) ⟨⟨_, _, rfl⟩, ?_, by simp⟩, [0], rfl, ?_⟩; all_goals (refine fitq ?_ ?_ ?_ <;> try exact trivial); (try any_goals (refine ⟨?_, ?_⟩)); (try any_goals (with_reducible rfl))))
            all_goals (repeat' (first | (refine And.intro ?_ ?_) | rfl))
        · have d6 : decide (y.count = e) = false := decide_eq_false c6
          have hr : addA p c t e xs = (xs.take k ++ ⟨e, p, c, t, []⟩ :: xs.drop k, 0) := by
            unfold addA
            rw [hP]
            show (if k < xs.length ∧ (xs.getD k Ent.zero).count = e then _ else _) = _
            rw [hy, if_neg (fun q => c6 q.2)]
          have hlen : (xs.take k ++ (⟨e, p, c, t, []⟩ : Ent) :: xs.drop k).length = xs.length + 1 := by simp; omega
          (have zx1 := @hkd; have zx2 := @d5; have zx3 := @hy; have zx4 := @d6; all_goals (try ((first | (with_reducible refine wp_id ?_) | (with_reducible refine does_id ?_) | (with_reducible refine ops_id ?_)); refine walk ?_; (repeat' (first | exact trivial | with_reducible refine And.intro ?_ ?_)); all_goals (repeat (first | (with_reducible refine ImpB.mk fun hb => ?_) | (with_reducible refine ImpK.mk fun hK => ?_) | (with_reducible refine ImpF.mk fun hF => ?_) | (with_reducible refine ImpQ.mk fun hp => ?_) | (with_reducible refine AllE.mk fun p => ?_) | (with_reducible refine AllR.mk fun rest => ?_) | (with_reducible refine AllK.mk fun K => ?_))))); repeat' (with_reducible refine And.intro ?_ ?_))
          try any_goals first | exact Int.natCast_nonneg _ | (show k - 1 < xs.length; omega) | (show k < xs.length; omega) | (show ((k - 1 : Nat) : Int) < (xs.length : Int); omega) | (show (k : Int) < (xs.length : Int); omega)
          rw [hr, ← hlen]
          (focus (refine ⟨_, _, gh_close (t := 0) (ts := [1, 6]) (l := AO p (xs.take k ++ ⟨e, p, c, t, []⟩ :: xs.drop k)) ⟨⟨_, _, rfl⟩, ?_, by simp⟩, [0], rfl, ?_⟩; all_goals (refine fitq ?_ ?_ ?_ <;> try exact trivial); (try any_goals (refine ⟨?_, ?_⟩)); (try any_goals (with_reducible rfl))))
          all_goals (repeat' (first | (refine And.intro ?_ ?_) | rfl))
      · have d5 : decide ((k : Int) < (xs.length : Int)) = false := decide_eq_false (by omega)
        have hr : addA p c t e xs = (xs.take k ++ ⟨e, p, c, t, []⟩ :: xs.drop k, 0) := by
          unfold addA
          rw [hP]
          show (if k < xs.length ∧ (xs.getD k Ent.zero).count = e then _ else _) = _
          rw [hy, if_neg (fun q => c5 q.1)]
        have hlen : (xs.take k ++ (⟨e, p, c, t, []⟩ : Ent) :: xs.drop k).length = xs.length + 1 := by simp; omega
        (have zx1 := @hkd; have zx2 := @d5; all_goals (try ((first | (with_reducible refine wp_id ?_) | (with_reducible refine does_id ?_) | (with_reducible refine ops_id ?_)); refine walk ?_; (repeat' (first | exact trivial | with_reducible refine And.intro ?_ ?_)); all_goals (repeat (first | (with_reducible refine ImpB.mk fun hb => ?_) | (with_reducible refine ImpK.mk fun hK => ?_) | (with_reducible refine ImpF.mk fun hF => ?_) | (with_reducible refine ImpQ.mk fun hp => ?_) | (with_reducible refine AllE.mk fun p => ?_) | (with_reducible refine AllR.mk fun rest => ?_) | (with_reducible refine AllK.mk fun K => ?_))))); repeat' (with_reducible refine And.intro ?_ ?_))
        try any_goals first | exact Int.natCast_nonneg _ | (show k - 1 < xs.length; omega) | (show k < xs.length; omega) | (show ((k - 1 : Nat) : Int) < (xs.length : Int); omega) | (show (k : Int) < (xs.length : Int); omega)
        rw [hr, ← hlen]
        (focus (refine ⟨_, _, gh_close (t := 0) (ts := [1, 6]) (l := AO p (xs.take k ++ ⟨e, p, c, t, []⟩ :: xs.drop k)) ⟨⟨_, _, rfl⟩, ?_, by simp⟩, [0], rfl, ?_⟩; all_goals (refine fitq ?_ ?_ ?_ <;> try exact trivial); (try any_goals (refine ⟨?_, ?_⟩)); (try any_goals (with_reducible rfl))))
        all_goals (repeat' (first | (refine And.intro ?_ ?_) | rfl))
end Go.V

set_option maxRecDepth 100000
set_option maxHeartbeats 4000000
namespace Go.V
open Go.Proofs

/-- the first place at which p holds -/
def ixF (p : Rng → Bool) : List Rng → Nat → Int
  | [], _ => -1
  | x :: l, k => if p x then k else ixF p l (k + 1)
theorem ixF_none {p : Rng → Bool} : ∀ {l : List Rng} {k : Nat}, (∀ x ∈ l, p x = false) → ixF p l k = -1
  | [], _, _ => rfl
  | x :: l, k, h => by rw [ixF, h x (by simp)]; exact ixF_none fun y hy => h y (by simp [hy])
theorem ixF_at {p : Rng → Bool} : ∀ {l : List Rng} {j k : Nat}, j < l.length → (∀ i, i < j → p (rAt l i) = false) → p (rAt l j) = true → ixF p l k = ((k + j : Nat) : Int)
  | [], j, _, h, _, _ => by simp at h
  | x :: l, 0, k, _, _, h => by
    have : p x = true := h
    rw [ixF, if_pos this, Nat.add_zero]
  | x :: l, j + 1, k, hl, h0, h => by
    have h1 : p x = false := h0 0 (by omega)
    rw [ixF, h1]
    simp only [Bool.false_eq_true, if_false]
    rw [ixF_at (j := j) (by simpa using hl) (fun i hi => h0 (i + 1) (by omega)) h]
    congr 1; omega
/-- IndexFunc over what lies for good; the closure's own cells lie where they may -/
theorem k_indexFunc {n0 : Nat} {h : List Ch} {K : KT} {xs : List Rng} {f : FuncId} {caps : List AV} (p : Rng → Bool) (hl : xs.length ≤ 9223372036854775806) (hp : ∀ x : Rng, ∀ K' : KT, K' (.bool (p x)) h → Does Try.prog f (.agg [.int .i64 x.from_, .int .i64 x.to_] :: caps) h K') (H : K (.int .i64 (ixF p xs 0)) h) : DoesK Try.prog n0 71 [.ro .rng xs, .fn f caps] h K := by
  have inst : Ctr 0 f (∀ {h' : List Ch} {K' : KT} {x : Rng} (_ : h' = h) (_ : K' (.bool (p x)) h), Does Try.prog f (.agg [.int .i64 x.from_, .int .i64 x.to_] :: caps) h' K') := Ctr.mk (by rintro h' K' x rfl H; exact hp x K' H)
  refine w_body (rs := [.tmp 4]) (tm := [.ro .rng xs, .fn f caps, .any, .any, .any, .any, .any, .any, .any, .any, .any, .any, .any, .any, .any, .any, .any, .any, .any]) fn_71 rfl rfl rfl rfl fun R hR => ?_
  (all_goals (try ((first | (with_reducible refine wp_id ?_) | (with_reducible refine does_id ?_) | (with_reducible refine ops_id ?_)); refine walk ?_; (repeat' (first | exact trivial | with_reducible refine And.intro ?_ ?_)); all_goals (repeat (first | (with_reducible refine ImpB.mk fun hb => ?_) | (with_reducible refine ImpK.mk fun hK => ?_) | (with_reducible refine ImpF.mk fun hF => ?_) | (with_reducible refine ImpQ.mk fun hp => ?_) | (with_reducible refine AllE.mk fun p => ?_) | (with_reducible refine AllR.mk fun rest => ?_) | (with_reducible refine AllK.mk fun K => ?_))))); repeat' (with_reducible refine And.intro ?_ ?_))
  any_goals ((try (refine w_seq fun K hK => ?_)); (try (refine w_block ?_)); refine w_loopS (A := Nat) (fun k => k ≤ xs.length ∧ ∀ i, i < k → p (rAt xs i) = false) (fun k => xs.length - k) (fun k => [(8, .int .i64 k)]) (0) (ws := ?ws2) (tk := ?tk2) ?hw2 ?ht2 ?hi ?h0 ?LH2; (case hw2 => simp only [go_sem, decide_true, decide_false, Int.reduceToNat, Nat.min_eq_left, Nat.min_eq_right, Int.reducePow, Nat.reducePow, Int.reduceLE, Int.reduceLT, Int.reduceMul, Int.reduceAdd, Int.reduceSub, Int.reduceNeg, Bool.not_true, Bool.not_false, Bool.not_not, ↓reduceIte, Nat.reduceAdd, Nat.reduceSub, Nat.reduceMul, Nat.reduceEqDiff, reduceCtorEq, Nat.reduceLT, Nat.reduceLeDiff, Nat.reduceGT]; exact rfl); (case ht2 => simp only [go_sem, decide_true, decide_false, Int.reduceToNat, Nat.min_eq_left, Nat.min_eq_right, Int.reducePow, Nat.reducePow, Int.reduceLE, Int.reduceLT, Int.reduceMul, Int.reduceAdd, Int.reduceSub, Int.reduceNeg, Bool.not_true, Bool.not_false, Bool.not_not, ↓reduceIte, Nat.reduceAdd, Nat.reduceSub, Nat.reduceMul, Nat.reduceEqDiff, reduceCtorEq, Nat.reduceLT, Nat.reduceLeDiff, Nat.reduceGT]; exact rfl); (case' LH2 => rintro k E t hx hE ht; simp only [go_sem] at ht; subst ht; simp only [go_sem]; try dsimp only at hx))
  case hi => exact ⟨Nat.zero_le _, fun i hi => absurd hi (by omega)⟩
  case h0 => (focus (simp only [go_sem]; (repeat' (first | exact sub_nil | refine sub_cons ?_ ?_)); (any_goals (first | exact .inl rfl | exact .inr rfl)); (try any_goals (refine .inr ?_)); (try any_goals (refine congrArg _ ?_))))
  case LH2 =>
    have hw : IntKind.i64.wrap ((k : Int) + 1) = ((k + 1 : Nat) : Int) := by rw [wrap_i64 _ (by omega) (by omega)]; omega
    by_cases hk : k < xs.length
    · have hkd : decide ((k : Int) < xs.length) = true := decide_eq_true (by omega)
      (have zx1 := @hkd; all_goals (try ((first | (with_reducible refine wp_id ?_) | (with_reducible refine does_id ?_) | (with_reducible refine ops_id ?_)); refine walk ?_; (repeat' (first | exact trivial | with_reducible refine And.intro ?_ ?_)); all_goals (repeat (first | (with_reducible refine ImpB.mk fun hb => ?_) | (with_reducible refine ImpK.mk fun hK => ?_) | (with_reducible refine ImpF.mk fun hF => ?_) | (with_reducible refine ImpQ.mk fun hp => ?_) | (with_reducible refine AllE.mk fun p => ?_) | (with_reducible refine AllR.mk fun rest => ?_) | (with_reducible refine AllK.mk fun K => ?_))))); repeat' (with_reducible refine And.intro ?_ ?_))
      all_goals first | exact Int.natCast_nonneg _ | exact Int.ofNat_lt.2 hk | rfl | skip
      · rw [ixF_at hk hx.2 hb, Nat.zero_add] at H
        exact H
      · refine ⟨k + 1, ⟨⟨by first | omega | (dsimp only; omega), fun i hi => ?_⟩, by first | omega | (dsimp only; omega)⟩, ?_, rfl⟩
        · by_cases e : i = k
          · rw [e]; exact hb
          · exact hx.2 i (by omega)
        (focus (simp only [go_sem]; (repeat' (first | exact sub_nil | refine sub_cons ?_ ?_)); (any_goals (first | exact .inl rfl | exact .inr rfl)); (try any_goals (refine .inr ?_)); (try any_goals (refine congrArg _ ?_))))
        exact hw.symm
    · have hkd : decide ((k : Int) < xs.length) = false := decide_eq_false (by omega)
      (have zx1 := @hkd; all_goals (try ((first | (with_reducible refine wp_id ?_) | (with_reducible refine does_id ?_) | (with_reducible refine ops_id ?_)); refine walk ?_; (repeat' (first | exact trivial | with_reducible refine And.intro ?_ ?_)); all_goals (repeat (first | (with_reducible refine ImpB.mk fun hb => ?_) | (with_reducible refine ImpK.mk fun hK => ?_) | (with_reducible refine ImpF.mk fun hF => ?_) | (with_reducible refine ImpQ.mk fun hp => ?_) | (with_reducible refine AllE.mk fun p => ?_) | (with_reducible refine AllR.mk fun rest => ?_) | (with_reducible refine AllK.mk fun K => ?_))))); repeat' (with_reducible refine And.intro ?_ ?_))
      rw [ixF_none fun x hx' => by
        obtain ⟨i, hi, rfl⟩ := List.getElem_of_mem hx'
        have := hx.2 i (by omega)
        simpa [rAt, List.getD_eq_getElem?_getD, List.getElem?_eq_getElem hi] using this] at H
      exact H
theorem b_clone (xs : List Rng) (hl : xs.length ≤ 1099511627776) : DoesK Try.prog 0 55 [.ro .rng xs] [] (EndF 0 (.sl 0 .rng 0 xs.length) [.rows .rng xs]) := by
  refine DoesK.close ?_
  refine w_body (rs := [.tmp 2]) (tm := [.ro .rng xs, .any, .any, .any, .any, .any, .any, .any]) fn_55 rfl rfl rfl rfl fun R hR => ?_
  (all_goals (try ((first | (with_reducible refine wp_id ?_) | (with_reducible refine does_id ?_) | (with_reducible refine ops_id ?_)); refine walk ?_; (repeat' (first | exact trivial | with_reducible refine And.intro ?_ ?_)); all_goals (repeat (first | (with_reducible refine ImpB.mk fun hb => ?_) | (with_reducible refine ImpK.mk fun hK => ?_) | (with_reducible refine ImpF.mk fun hF => ?_) | (with_reducible refine ImpQ.mk fun hp => ?_) | (with_reducible refine AllE.mk fun p => ?_) | (with_reducible refine AllR.mk fun rest => ?_) | (with_reducible refine AllK.mk fun K => ?_))))); repeat' (with_reducible refine And.intro ?_ ?_))
  · exact ⟨_, rfl⟩
  · subst hb
    refine ⟨_, _, gh_adopt (s := 0) .rng trivial, [0], rfl, ?ft⟩
    case' ft => (refine fitq ?_ ?_ ?_ <;> try exact trivial)
    all_goals rfl
  · omega
  · omega
  · (focus (refine ⟨_, _, Gh.refl, [1], rfl, ?_⟩; (refine fitq ?_ ?_ ?_ <;> try exact trivial); (try any_goals (refine ⟨?_, ?_⟩)); (try any_goals (with_reducible rfl))))
theorem c_clone {h : List Ch} {K : KT} {xs : List Rng} {a : AV} (H : K (.sl h.length .rng 0 xs.length) (h ++ [.rows .rng xs])) (q1 : isRO .rng xs a) (s1 : xs.length ≤ 1099511627776) : Does Try.prog 55 [a] h K :=
  frame_new (b_clone xs s1) (br_cons q1.br br_nil) (.inl (by rw [brTL, q1.brT]; rfl)) (fun _ => rfl) (by simp [renA, rhoC]) H
abbrev i_clone := Ctr.mk (i := 0) (g := 55) @c_clone
attribute [instance] i_clone
theorem b_ne (x : Rng) : DoesK Try.prog 0 63 [.agg [.int .i64 x.from_, .int .i64 x.to_]] [] (EndF 0 (.bool (neR x)) []) := by
  refine DoesK.close ?_
  refine w_body (rs := [.tmp 2]) (tm := [.agg [.int .i64 x.from_, .int .i64 x.to_], .any, .any, .any, .any, .any, .any, .any]) fn_63 rfl rfl rfl rfl fun R hR => ?_
  (all_goals (try ((first | (with_reducible refine wp_id ?_) | (with_reducible refine does_id ?_) | (with_reducible refine ops_id ?_)); refine walk ?_; (repeat' (first | exact trivial | with_reducible refine And.intro ?_ ?_)); all_goals (repeat (first | (with_reducible refine ImpB.mk fun hb => ?_) | (with_reducible refine ImpK.mk fun hK => ?_) | (with_reducible refine ImpF.mk fun hF => ?_) | (with_reducible refine ImpQ.mk fun hp => ?_) | (with_reducible refine AllE.mk fun p => ?_) | (with_reducible refine AllR.mk fun rest => ?_) | (with_reducible refine AllK.mk fun K => ?_))))); repeat' (with_reducible refine And.intro ?_ ?_))
  (focus (refine ⟨_, _, Gh.refl, [], rfl, ?_⟩; (refine fitq ?_ ?_ ?_ <;> try exact trivial); (try any_goals (refine ⟨?_, ?_⟩)); (try any_goals (with_reducible rfl))))
  all_goals rfl
theorem c_ne {h : List Ch} {K : KT} {x : Rng} (H : K (.bool (neR x)) h) : Does Try.prog 63 [.agg [.int .i64 x.from_, .int .i64 x.to_]] h K :=
  frame_pure (b_ne x) (br_cons (br_agg (br_cons br_int (br_cons br_int br_nil))) br_nil) (.inl rfl) (fun _ => rfl) H
abbrev i_ne := Ctr.mk (i := 0) (g := 63) @c_ne
attribute [instance] i_ne
theorem b_ixNe (xs : List Rng) (hl : xs.length ≤ 9223372036854775806) : DoesK Try.prog 0 71 [.ro .rng xs, .fn 63 []] [] (EndF 0 (.int .i64 (ixF neR xs 0)) []) :=
  k_indexFunc neR hl (fun x K' hK' => c_ne hK') ⟨[], rfl, ⟨⟨rfl, rfl⟩, trivial⟩, trivial, .nil⟩
theorem br_fn {σ : List Nat} {h : List Ch} {f : FuncId} : brA σ h (.fn f []) (.fn f []) := ⟨rfl, trivial⟩
theorem c_ixNe {h : List Ch} {K : KT} {xs : List Rng} {a : AV} (H : K (.int .i64 (ixF neR xs 0)) h) (b1 : brA [] h (.ro .rng xs) a) (s1 : xs.length ≤ 9223372036854775806) : Does Try.prog 71 [a, .fn 63 []] h K :=
  frame_pure (b_ixNe xs s1) (br_cons b1 (br_cons br_fn br_nil)) (.inr rfl) (fun _ => rfl) H
abbrev i_ixNe := Ctr.mk (i := 0) (g := 71) @c_ixNe
attribute [instance] i_ixNe
theorem ixF_cases (p : Rng → Bool) : ∀ (l : List Rng), (∀ x ∈ l, p x = false) ∨ ∃ j, j < l.length ∧ (∀ i, i < j → p (rAt l i) = false) ∧ p (rAt l j) = true
  | [] => .inl fun x h => by cases h
  | x :: l => by
    cases h : p x
    · rcases ixF_cases p l with q | ⟨j, h1, h2, h3⟩
      · exact .inl fun y hy => by rcases List.mem_cons.1 hy with rfl | hy; exact h; exact q y hy
      · refine .inr ⟨j + 1, by simpa using h1, fun i hi => ?_, h3⟩
        cases i with
        | zero => exact h
        | succ i => exact h2 i (by omega)
    · exact .inr ⟨0, by simp, fun i hi => absurd hi (by omega), h⟩
theorem rAt_eq {l : List Rng} {i : Nat} (h : i < l.length) : rAt l i = l[i] := by
  unfold rAt
  rw [List.getD_eq_getElem?_getD, List.getElem?_eq_getElem h]
  rfl
/-- the state of DeleteFunc's loop -/
structure DelI (xs : List Rng) (i j : Nat) (ys : List Rng) : Prop where
  j0 : j ≤ xs.length
  ij : i < j
  len : ys.length = xs.length
  kept : ys.take i = (xs.take j).filter fun x => !neR x
  rest : ys.drop j = xs.drop j
theorem DelI.start {xs : List Rng} {j : Nat} (h1 : j < xs.length) (h2 : ∀ i, i < j → neR (rAt xs i) = false) (h3 : neR (rAt xs j) = true) : DelI xs j (j + 1) xs := by
  refine ⟨by omega, by omega, rfl, ?_, rfl⟩
  rw [List.take_succ_eq_append_getElem h1, List.filter_append, List.filter_eq_self.2 fun x hx => ?_]
  · rw [rAt_eq h1] at h3
    simp [h3]
  · obtain ⟨i, hi, rfl⟩ := List.getElem_of_mem hx
    rw [List.length_take] at hi
    have := h2 i (by omega)
    rw [rAt_eq (by omega)] at this
    simp [this]
theorem DelI.at_ {xs ys : List Rng} {i j : Nat} (h : DelI xs i j ys) (hj : j < xs.length) : rAt ys j = rAt xs j := by
  have h1 : j < ys.length := by rw [h.len]; exact hj
  rw [rAt_eq hj, rAt_eq h1]
  have := congrArg (fun l => l[0]?) h.rest
  simpa [List.getElem?_drop, List.getElem?_eq_getElem hj, List.getElem?_eq_getElem h1] using this
theorem DelI.keep {xs ys : List Rng} {i j : Nat} (h : DelI xs i j ys) (hj : j < xs.length) (hn : neR (rAt xs j) = false) : DelI xs (i + 1) (j + 1) (ys.set i (rAt xs j)) := by
  have h1 : i < ys.length := by rw [h.len]; have := h.ij; omega
  refine ⟨by omega, by have := h.ij; omega, by rw [List.length_set, h.len], ?_, ?_⟩
  · rw [List.take_succ_eq_append_getElem (by rw [List.length_set]; exact h1), List.take_set_of_le (Nat.le_refl _), h.kept, List.take_succ_eq_append_getElem hj, List.filter_append]
    rw [rAt_eq hj] at hn ⊢
    simp [hn]
  · rw [List.drop_set_of_lt (by have := h.ij; omega), ← List.drop_drop, h.rest, List.drop_drop]
theorem DelI.skip {xs ys : List Rng} {i j : Nat} (h : DelI xs i j ys) (hj : j < xs.length) (hn : neR (rAt xs j) = true) : DelI xs i (j + 1) ys := by
  refine ⟨by omega, by have := h.ij; omega, h.len, ?_, ?_⟩
  · rw [h.kept, List.take_succ_eq_append_getElem hj, List.filter_append]
    rw [rAt_eq hj] at hn
    simp [hn]
  · rw [← List.drop_drop, h.rest, List.drop_drop]
theorem b_delNe (xs : List Rng) (hl : xs.length ≤ 1099511627776) : DoesK Try.prog 1 62 [.sl 0 .rng 0 xs.length, .fn 63 []] [.rows .rng xs] (EndF 1 (.sl 0 .rng 0 (xs.filter fun x => !neR x).length) ([.rows .rng (xs.filter fun x => !neR x)] ++ [])) := by
  refine DoesK.close ?_
  rcases ixF_cases neR xs with q | ⟨j0, g1, g2, g3⟩
  · have e1 : xs.filter (fun x => !neR x) = xs := List.filter_eq_self.2 fun x hx => by rw [q x hx]; rfl
    have e2 := ixF_none (k := 0) q
    rw [e1]
    refine w_body (rs := [.tmp 4]) (tm := [.sl 0 .rng 0 xs.length, .fn 63 [], .any, .any, .any, .any, .any, .any, .any, .any, .any, .any, .any, .any, .any, .any, .any, .any, .any, .any, .any, .any, .any, .any, .any, .any, .any, .any, .any, .any, .any, .any, .any, .any, .any, .any, .any, .any, .any, .any, .any, .any]) fn_62 rfl rfl rfl rfl fun R hR => ?_
    (have zx1 := @e2; all_goals (try ((first | (with_reducible refine wp_id ?_) | (with_reducible refine does_id ?_) | (with_reducible refine ops_id ?_)); refine walk ?_; (repeat' (first | exact trivial | with_reducible refine And.intro ?_ ?_)); all_goals (repeat (first | (with_reducible refine ImpB.mk fun hb => ?_) | (with_reducible refine ImpK.mk fun hK => ?_) | (with_reducible refine ImpF.mk fun hF => ?_) | (with_reducible refine ImpQ.mk fun hp => ?_) | (with_reducible refine AllE.mk fun p => ?_) | (with_reducible refine AllR.mk fun rest => ?_) | (with_reducible refine AllK.mk fun K => ?_))))); repeat' (with_reducible refine And.intro ?_ ?_))
    all_goals first | (exfalso; simp at hb; done) | skip
    (focus (refine ⟨_, _, Gh.refl, [0], rfl, ?_⟩; (refine fitq ?_ ?_ ?_ <;> try exact trivial); (try any_goals (refine ⟨?_, ?_⟩)); (try any_goals (with_reducible rfl))))
  · have e2 := ixF_at (k := 0) g1 g2 g3
    rw [Nat.zero_add] at e2
    have d2 : decide ((j0 : Int) = -1) = false := decide_eq_false (by omega)
    have w0 : IntKind.i64.wrap ((j0 : Int) + 1) = ((j0 + 1 : Nat) : Int) := by rw [wrap_i64 _ (by omega) (by omega)]; omega
    refine w_body (rs := [.tmp 4]) (tm := [.sl 0 .rng 0 xs.length, .fn 63 [], .any, .any, .any, .any, .any, .any, .any, .any, .any, .any, .any, .any, .any, .any, .any, .any, .any, .any, .any, .any, .any, .any, .any, .any, .any, .any, .any, .any, .any, .any, .any, .any, .any, .any, .any, .any, .any, .any, .any, .any]) fn_62 rfl rfl rfl rfl fun R hR => ?_
    (have zx1 := @e2; have zx2 := @d2; have zx3 := @w0; all_goals (try ((first | (with_reducible refine wp_id ?_) | (with_reducible refine does_id ?_) | (with_reducible refine ops_id ?_)); refine walk ?_; (repeat' (first | exact trivial | with_reducible refine And.intro ?_ ?_)); all_goals (repeat (first | (with_reducible refine ImpB.mk fun hb => ?_) | (with_reducible refine ImpK.mk fun hK => ?_) | (with_reducible refine ImpF.mk fun hF => ?_) | (with_reducible refine ImpQ.mk fun hp => ?_) | (with_reducible refine AllE.mk fun p => ?_) | (with_reducible refine AllR.mk fun rest => ?_) | (with_reducible refine AllK.mk fun K => ?_))))); repeat' (with_reducible refine And.intro ?_ ?_))
    any_goals ((try (refine w_seq fun K hK => ?_)); (try (refine w_block ?_)); refine w_loop (A := Nat × Nat × List Rng) (fun p => DelI xs p.1 p.2.1 p.2.2) (fun p => xs.length - p.2.1) (fun p => [(5, .int .i64 p.1), (6, .int .i64 p.2.1)]) (fun p => [(0, .rows .rng p.2.2)]) ((j0, j0 + 1, xs)) (ws := ?ws1) (tk := ?tk1) ?hw1 ?ht1 ?hi ?h0 ?LH1; (case hw1 => simp only [go_sem, decide_true, decide_false, Int.reduceToNat, Nat.min_eq_left, Nat.min_eq_right, Int.reducePow, Nat.reducePow, Int.reduceLE, Int.reduceLT, Int.reduceMul, Int.reduceAdd, Int.reduceSub, Int.reduceNeg, Bool.not_true, Bool.not_false, Bool.not_not, ↓reduceIte, Nat.reduceAdd, Nat.reduceSub, Nat.reduceMul, Nat.reduceEqDiff, reduceCtorEq, Nat.reduceLT, Nat.reduceLeDiff, Nat.reduceGT]; exact rfl); (case ht1 => simp only [go_sem, decide_true, decide_false, Int.reduceToNat, Nat.min_eq_left, Nat.min_eq_right, Int.reducePow, Nat.reducePow, Int.reduceLE, Int.reduceLT, Int.reduceMul, Int.reduceAdd, Int.reduceSub, Int.reduceNeg, Bool.not_true, Bool.not_false, Bool.not_not, ↓reduceIte, Nat.reduceAdd, Nat.reduceSub, Nat.reduceMul, Nat.reduceEqDiff, reduceCtorEq, Nat.reduceLT, Nat.reduceLeDiff, Nat.reduceGT]; exact rfl); (case' LH1 => rintro ⟨i, j, ys⟩ E t hx hE ht; simp only [go_sem] at ht; subst ht; simp only [go_sem]; try dsimp only at hx))
    case hi => exact .start g1 g2 g3
    case h0 => (focus (refine ⟨_, _, Gh.refl, [0], rfl, ?_⟩; (refine fitq ?_ ?_ ?_ <;> try exact trivial); (try any_goals (refine ⟨?_, ?_⟩)); (try any_goals (with_reducible rfl))))
    case LH1 =>
      have hj0 := hx.j0
      have hij := hx.ij
      have hlen := hx.len
      have wj : IntKind.i64.wrap ((j : Int) + 1) = ((j + 1 : Nat) : Int) := by rw [wrap_i64 _ (by omega) (by omega)]; omega
      have wi : IntKind.i64.wrap ((i : Int) + 1) = ((i + 1 : Nat) : Int) := by rw [wrap_i64 _ (by omega) (by omega)]; omega
      by_cases hj : j < xs.length
      · have hjd : decide ((j : Int) < xs.length) = true := decide_eq_true (by omega)
        have hat : ys.getD j Rng.zero = rAt xs j := hx.at_ hj
        cases hn : neR (rAt xs j)
        · (have zx1 := @hjd; have zx2 := @hat; have zx3 := @hn; have zx4 := @wi; have zx5 := @wj; all_goals (try ((first | (with_reducible refine wp_id ?_) | (with_reducible refine does_id ?_) | (with_reducible refine ops_id ?_)); refine walk ?_; (repeat' (first | exact trivial | with_reducible refine And.intro ?_ ?_)); all_goals (repeat (first | (with_reducible refine ImpB.mk fun hb => ?_) | (with_reducible refine ImpK.mk fun hK => ?_) | (with_reducible refine ImpF.mk fun hF => ?_) | (with_reducible refine ImpQ.mk fun hp => ?_) | (with_reducible refine AllE.mk fun p => ?_) | (with_reducible refine AllR.mk fun rest => ?_) | (with_reducible refine AllK.mk fun K => ?_))))); repeat' (with_reducible refine And.intro ?_ ?_))
          all_goals first | exact Int.natCast_nonneg _ | exact Int.ofNat_lt.2 hj | omega | (unfold capM; omega) | skip
          refine ⟨(i + 1, j + 1, ys.set i (rAt xs j)), ⟨hx.keep hj hn, by first | omega | (dsimp only; omega)⟩, ?m1⟩
          (focus (refine ⟨_, _, Gh.refl, [0], rfl, ?_⟩; (refine fitq ?_ ?_ ?_ <;> try exact trivial); (try any_goals (refine ⟨?_, ?_⟩)); (try any_goals (with_reducible rfl))))
        · (have zx1 := @hjd; have zx2 := @hat; have zx3 := @hn; have zx4 := @wi; have zx5 := @wj; all_goals (try ((first | (with_reducible refine wp_id ?_) | (with_reducible refine does_id ?_) | (with_reducible refine ops_id ?_)); refine walk ?_; (repeat' (first | exact trivial | with_reducible refine And.intro ?_ ?_)); all_goals (repeat (first | (with_reducible refine ImpB.mk fun hb => ?_) | (with_reducible refine ImpK.mk fun hK => ?_) | (with_reducible refine ImpF.mk fun hF => ?_) | (with_reducible refine ImpQ.mk fun hp => ?_) | (with_reducible refine AllE.mk fun p => ?_) | (with_reducible refine AllR.mk fun rest => ?_) | (with_reducible refine AllK.mk fun K => ?_))))); repeat' (with_reducible refine And.intro ?_ ?_))
          all_goals first | exact Int.natCast_nonneg _ | exact Int.ofNat_lt.2 hj | omega | (unfold capM; omega) | skip
          refine ⟨(i, j + 1, ys), ⟨hx.skip hj hn, by first | omega | (dsimp only; omega)⟩, ?m2⟩
          (focus (refine ⟨_, _, Gh.refl, [0], rfl, ?_⟩; (refine fitq ?_ ?_ ?_ <;> try exact trivial); (try any_goals (refine ⟨?_, ?_⟩)); (try any_goals (with_reducible rfl))))
      · have hjd : decide ((j : Int) < xs.length) = false := decide_eq_false (by omega)
        (have zx1 := @hjd; all_goals (try ((first | (with_reducible refine wp_id ?_) | (with_reducible refine does_id ?_) | (with_reducible refine ops_id ?_)); refine walk ?_; (repeat' (first | exact trivial | with_reducible refine And.intro ?_ ?_)); all_goals (repeat (first | (with_reducible refine ImpB.mk fun hb => ?_) | (with_reducible refine ImpK.mk fun hK => ?_) | (with_reducible refine ImpF.mk fun hF => ?_) | (with_reducible refine ImpQ.mk fun hp => ?_) | (with_reducible refine AllE.mk fun p => ?_) | (with_reducible refine AllR.mk fun rest => ?_) | (with_reducible refine AllK.mk fun K => ?_))))); repeat' (with_reducible refine And.intro ?_ ?_))
        all_goals first | exact Int.natCast_nonneg _ | exact Int.ofNat_lt.2 hj | omega | (unfold capM; omega) | skip
        have hk := hx.kept
        rw [List.take_of_length_le (l := xs) (by omega)] at hk
        have hkl := congrArg List.length hk
        rw [List.length_take] at hkl
        rw [← hk]
        (focus (refine ⟨_, _, Gh.refl, [0], rfl, ?_⟩; (refine fitq ?_ ?_ ?_ <;> try exact trivial); (try any_goals (refine ⟨?_, ?_⟩)); (try any_goals (with_reducible rfl))))
        omega
theorem c_delNe {h : List Ch} {K : KT} {xs : List Rng} {t n : Nat} (H : K (.sl t .rng 0 (xs.filter fun x => !neR x).length) (h.set t (.rows .rng (xs.filter fun x => !neR x)))) (o : hth h t = .rows .rng xs) (s1 : n = xs.length) (s2 : xs.length ≤ 1099511627776) : Does Try.prog 62 [.sl t .rng 0 n, .fn 63 []] h K := by
  subst s1
  exact frame_obj0 (b_delNe xs s2) o (by simp) (fitC_rows _ _) (br_cons (br_own rfl) (br_cons br_fn br_nil)) (.inl rfl) (fun _ => rfl) rfl H
abbrev i_delNe := Ctr.mk (i := 0) (g := 62) @c_delNe
attribute [instance] i_delNe
end Go.V

set_option maxRecDepth 100000
set_option maxHeartbeats 4000000
namespace Go.V
open Go.Proofs
theorem rng_eq {x y : Rng} (h1 : x.from_ = y.from_) (h2 : x.to_ = y.to_) : x = y := by cases x; cases y; simp_all
theorem b_same (a b : List Rng) (ha : a.length ≤ 1099511627776) (hb0 : b.length ≤ 1099511627776) : DoesK Try.prog 0 18 [.ro .rng a, .ro .rng b] [] (EndF 0 (.bool (decide (a = b))) []) := by
  refine DoesK.close ?_
  by_cases hn : a.length = b.length
  · have hnd : decide (¬ (a.length : Int) = b.length) = false := decide_eq_false (by omega)
    refine w_body (rs := [.tmp 4]) (tm := [.ro .rng a, .ro .rng b, .any, .any, .any, .any, .any, .any, .any, .any, .any, .any, .any, .any, .any, .any, .any, .any, .any, .any, .any, .any, .any, .any, .any, .any]) fn_18 rfl rfl rfl rfl fun R hR => ?_
    (have zx1 := @hnd; all_goals (try ((first | (with_reducible refine wp_id ?_) | (with_reducible refine does_id ?_) | (with_reducible refine ops_id ?_)); refine walk ?_; (repeat' (first | exact trivial | with_reducible refine And.intro ?_ ?_)); all_goals (repeat (first | (with_reducible refine ImpB.mk fun hb => ?_) | (with_reducible refine ImpK.mk fun hK => ?_) | (with_reducible refine ImpF.mk fun hF => ?_) | (with_reducible refine ImpQ.mk fun hp => ?_) | (with_reducible refine AllE.mk fun p => ?_) | (with_reducible refine AllR.mk fun rest => ?_) | (with_reducible refine AllK.mk fun K => ?_))))); repeat' (with_reducible refine And.intro ?_ ?_))
    any_goals ((try (refine w_seq fun K hK => ?_)); (try (refine w_block ?_)); refine w_loop (A := Nat) (fun k => k ≤ a.length ∧ ∀ j, j < k → rAt a j = rAt b j) (fun k => a.length - k) (fun k => [(5, .int .i64 k)]) (fun _ => []) (0) (ws := ?ws2) (tk := ?tk2) ?hw2 ?ht2 ?hi ?h0 ?LH2; (case hw2 => simp only [go_sem, decide_true, decide_false, Int.reduceToNat, Nat.min_eq_left, Nat.min_eq_right, Int.reducePow, Nat.reducePow, Int.reduceLE, Int.reduceLT, Int.reduceMul, Int.reduceAdd, Int.reduceSub, Int.reduceNeg, Bool.not_true, Bool.not_false, Bool.not_not, ↓reduceIte, Nat.reduceAdd, Nat.reduceSub, Nat.reduceMul, Nat.reduceEqDiff, reduceCtorEq, Nat.reduceLT, Nat.reduceLeDiff, Nat.reduceGT]; exact rfl); (case ht2 => simp only [go_sem, decide_true, decide_false, Int.reduceToNat, Nat.min_eq_left, Nat.min_eq_right, Int.reducePow, Nat.reducePow, Int.reduceLE, Int.reduceLT, Int.reduceMul, Int.reduceAdd, Int.reduceSub, Int.reduceNeg, Bool.not_true, Bool.not_false, Bool.not_not, ↓reduceIte, Nat.reduceAdd, Nat.reduceSub, Nat.reduceMul, Nat.reduceEqDiff, reduceCtorEq, Nat.reduceLT, Nat.reduceLeDiff, Nat.reduceGT]; exact rfl); (case' LH2 => rintro k E t hx hE ht; simp only [go_sem] at ht; subst ht; simp only [go_sem]; try dsimp only at hx))
    case hi => exact ⟨Nat.zero_le _, fun j hj => absurd hj (by omega)⟩
    case h0 => (focus (refine ⟨_, _, Gh.refl, [], rfl, ?_⟩; (refine fitq ?_ ?_ ?_ <;> try exact trivial); (try any_goals (refine ⟨?_, ?_⟩)); (try any_goals (with_reducible rfl))))
    case LH2 =>
      have hw : IntKind.i64.wrap ((k : Int) + 1) = ((k + 1 : Nat) : Int) := by rw [wrap_i64 _ (by omega) (by omega)]; omega
      by_cases hk : k < a.length
      · have hkd : decide ((k : Int) < a.length) = true := decide_eq_true (by omega)
        have hk2 : k < b.length := by omega
        (have zx1 := @hkd; all_goals (try ((first | (with_reducible refine wp_id ?_) | (with_reducible refine does_id ?_) | (with_reducible refine ops_id ?_)); refine walk ?_; (repeat' (first | exact trivial | with_reducible refine And.intro ?_ ?_)); all_goals (repeat (first | (with_reducible refine ImpB.mk fun hb => ?_) | (with_reducible refine ImpK.mk fun hK => ?_) | (with_reducible refine ImpF.mk fun hF => ?_) | (with_reducible refine ImpQ.mk fun hp => ?_) | (with_reducible refine AllE.mk fun p => ?_) | (with_reducible refine AllR.mk fun rest => ?_) | (with_reducible refine AllK.mk fun K => ?_))))); repeat' (with_reducible refine And.intro ?_ ?_))
        (all_goals first | exact Int.natCast_nonneg _ | exact Int.ofNat_lt.2 (by assumption) | assumption | omega | exact Nat.le_refl _ | (exfalso; simp at hb; done) | (simp only [go_sem, decide_true, decide_false, Int.reduceToNat, Nat.min_eq_left, Nat.min_eq_right, Int.reducePow, Nat.reducePow, Int.reduceLE, Int.reduceLT, Int.reduceMul, Int.reduceAdd, Int.reduceSub, Int.reduceNeg, Bool.not_true, Bool.not_false, Bool.not_not, ↓reduceIte, Nat.reduceAdd, Nat.reduceSub, Nat.reduceMul, Nat.reduceEqDiff, reduceCtorEq, Nat.reduceLT, Nat.reduceLeDiff, Nat.reduceGT]; done) | (unfold capM; omega) | (simp only [List.length_drop, List.length_take, List.length_append, List.length_cons, List.length_nil]; omega) | skip)
        · rw [decide_eq_false (fun e => by
            have q : a.getD k Rng.zero = b.getD k Rng.zero := by rw [e]
            rw [q] at hb; simp at hb)]
          (focus (refine ⟨_, _, Gh.refl, [], rfl, ?_⟩; (refine fitq ?_ ?_ ?_ <;> try exact trivial); (try any_goals (refine ⟨?_, ?_⟩)); (try any_goals (with_reducible rfl))))
        · have q : rAt a k = rAt b k := by
            simp at hb
            exact rng_eq hb.1 hb.2
          refine ⟨k + 1, ⟨⟨by first | omega | (dsimp only; omega), fun j hj => ?_⟩, by first | omega | (dsimp only; omega)⟩, ?m1⟩
          · by_cases e : j = k
            · rw [e]; exact q
            · exact hx.2 j (by omega)
          (focus (refine ⟨_, _, Gh.refl, [], rfl, ?_⟩; (refine fitq ?_ ?_ ?_ <;> try exact trivial); (try any_goals (refine ⟨?_, ?_⟩)); (try any_goals (with_reducible rfl))))
          exact hw.symm
      · have hkd : decide ((k : Int) < a.length) = false := decide_eq_false (by omega)
        have he : a = b := by
          apply List.ext_getElem hn
          intro j h1 h2
          have := hx.2 j (by omega)
          rwa [rAt_eq h1, rAt_eq h2] at this
        (have zx1 := @hkd; all_goals (try ((first | (with_reducible refine wp_id ?_) | (with_reducible refine does_id ?_) | (with_reducible refine ops_id ?_)); refine walk ?_; (repeat' (first | exact trivial | with_reducible refine And.intro ?_ ?_)); all_goals (repeat (first | (with_reducible refine ImpB.mk fun hb => ?_) | (with_reducible refine ImpK.mk fun hK => ?_) | (with_reducible refine ImpF.mk fun hF => ?_) | (with_reducible refine ImpQ.mk fun hp => ?_) | (with_reducible refine AllE.mk fun p => ?_) | (with_reducible refine AllR.mk fun rest => ?_) | (with_reducible refine AllK.mk fun K => ?_))))); repeat' (with_reducible refine And.intro ?_ ?_))
        rw [decide_eq_true he]
        (focus (refine ⟨_, _, Gh.refl, [], rfl, ?_⟩; (refine fitq ?_ ?_ ?_ <;> try exact trivial); (try any_goals (refine ⟨?_, ?_⟩)); (try any_goals (with_reducible rfl))))
  · have hnd : decide (¬ (a.length : Int) = b.length) = true := decide_eq_true (by omega)
    refine w_body (rs := [.tmp 4]) (tm := [.ro .rng a, .ro .rng b, .any, .any, .any, .any, .any, .any, .any, .any, .any, .any, .any, .any, .any, .any, .any, .any, .any, .any, .any, .any, .any, .any, .any, .any]) fn_18 rfl rfl rfl rfl fun R hR => ?_
    (have zx1 := @hnd; all_goals (try ((first | (with_reducible refine wp_id ?_) | (with_reducible refine does_id ?_) | (with_reducible refine ops_id ?_)); refine walk ?_; (repeat' (first | exact trivial | with_reducible refine And.intro ?_ ?_)); all_goals (repeat (first | (with_reducible refine ImpB.mk fun hb => ?_) | (with_reducible refine ImpK.mk fun hK => ?_) | (with_reducible refine ImpF.mk fun hF => ?_) | (with_reducible refine ImpQ.mk fun hp => ?_) | (with_reducible refine AllE.mk fun p => ?_) | (with_reducible refine AllR.mk fun rest => ?_) | (with_reducible refine AllK.mk fun K => ?_))))); repeat' (with_reducible refine And.intro ?_ ?_))
    rw [decide_eq_false (fun e => hn (by rw [e]))]
    (focus (refine ⟨_, _, Gh.refl, [], rfl, ?_⟩; (refine fitq ?_ ?_ ?_ <;> try exact trivial); (try any_goals (refine ⟨?_, ?_⟩)); (try any_goals (with_reducible rfl))))
theorem c_same {h : List Ch} {K : KT} {a b : List Rng} {x y : AV} (H : K (.bool (decide (a = b))) h) (b1 : brA [] h (.ro .rng a) x) (b2 : brA [] h (.ro .rng b) y) (s1 : a.length ≤ 1099511627776) (s2 : b.length ≤ 1099511627776) : Does Try.prog 18 [x, y] h K :=
  frame_pure (b_same a b s1 s2) (br_cons b1 (br_cons b2 br_nil)) (.inr rfl) (fun _ => rfl) H
abbrev i_same := Ctr.mk (i := 0) (g := 18) @c_same
attribute [instance] i_same
end Go.V

set_option maxRecDepth 100000
set_option maxHeartbeats 4000000
namespace Go.V
open Go.Proofs
theorem take_next {l : List Rng} {k : Nat} (hk : k < l.length) : l.take (k + 1) = l.take k ++ [rAt l k] := by rw [List.take_succ_eq_append_getElem hk, rAt_eq hk]
end Go.V

set_option maxRecDepth 100000
set_option maxHeartbeats 1000000
namespace Go.Proofs
open Go.Shelf Go.RowKit Go.Lib Go.Sort
shelf_lay_g SlLaysF0.n6 Slsf 6 at Try 64 as Try.sortRng
shelf_lay_g SlLaysC2.n5 Slgc 5 at Try 66 as Try.cmpInt
end Go.Proofs
namespace Go.V
open Go.Proofs Go.Sort Go.Shelf Go.RowKit
def encR (x : Rng) : List Value := [.int .i64 x.from_, .int .i64 x.to_]
instance : Inhabited Rng := ⟨Rng.zero⟩
theorem ltFrom (x y : Rng) : ltOf (fun x y : Rng => Lib.compareInt x.from_ y.from_) x y = decide (x.from_ < y.from_) := by
  unfold ltOf Lib.compareInt
  by_cases h1 : x.from_ < y.from_
  · simp [h1]
  · by_cases h2 : y.from_ < x.from_ <;> simp [h1, h2]
theorem swoFrom : SWO (ltOf fun x y : Rng => Lib.compareInt x.from_ y.from_) where
  irrefl x := by rw [ltFrom]; simp
  trans x y z h1 h2 := by rw [ltFrom] at *; simp at *; omega
  ntrans x y z h1 h2 := by rw [ltFrom] at *; simp at *; omega
theorem closureR (x y : Rng) (W : World) : Calls Try.prog 65 #[.agg #[.int .i64 x.from_, .int .i64 x.to_], .agg #[.int .i64 y.from_, .int .i64 y.to_]] W fun e w' => e = .returned (.int .i64 (Lib.compareInt x.from_ y.from_)) ∧ ∃ q os', w' = grow (W.drewN q) os' := by
  have hcon := fun W' => AnyG.cmp_Compare_int Try.cmpInt x.from_ y.from_ W'
  change ∀ W', Calls Try.prog 66 _ _ _ at hcon
  generalize Lib.compareInt x.from_ y.from_ = r at hcon ⊢
  go_enter Try.func65, Try.ntmps65
  go_wp2_with (go_at_call 66; refine (hcon _).mono ?_; rintro e w' ⟨rfl, rfl⟩)
  go_ret
  exact ⟨rfl, 0, _, by rw [alloc_eq_grow, alloc_eq_grow, grow_grow]; rfl⟩
theorem cmpLaysR (blk off size : Nat) (w : World) : CmpLays Try.prog 65 #[] encR 2 (fun x y => Lib.compareInt x.from_ y.from_) blk off size w :=
  fun _ _ _ _ x y => closureR x y _
theorem decR_rng (R : RO) (x : Rng) (cs : List Value) (h : LRel R [] (Ety.enc .rng x) cs) : ∃ a : Rng, encR a = cs := by
  cases h with
  | cons h1 h2 =>
    cases h1
    cases h2 with
    | cons h3 h4 =>
      cases h3
      cases h4
      exact ⟨x, rfl⟩
theorem eq_rng {R : RO} {x a : Rng} (h : LRel R [] (Ety.enc .rng x) (encR a)) : a.from_ = x.from_ ∧ a.to_ = x.to_ := by
  obtain ⟨v1, e1, h1⟩ := h.get 0 rfl
  obtain ⟨v2, e2, h2⟩ := h.get 1 rfl
  cases e1; cases e2
  exact ⟨rel_int h1, rel_int h2⟩
theorem sortR_runs (blk off cap : Nat) (d : Array Rng) (w : World) (hH : HoldsK encR 2 w blk off d) (hblk : blk < w.heap.size) (hsz : d.size < 4611686018427387904) :
    Calls Try.prog 64 #[.slice (some ⟨blk, off, none⟩) d.size cap, .func (.func 65) #[] #[]] w fun e w' => e = .returned (.tuple #[]) ∧ ∃ d' n os, PermIn 0 d.size d d' ∧ SortedIn (ltOf fun x y : Rng => Lib.compareInt x.from_ y.from_) 0 d.size d' ∧ w' = sortWorldK encR 2 w blk off n d' os := by
  have eg : ∀ args w, (callFunc 65 args).run Try.prog w = .ok (.enter 65 args) w := enters_of Try.func65 (by kernel_rfl) rfl
  exact AnyQ.slices_SortFunc Try.sortRng 2 Try.isAgg35 Try.sizeOf35 encR (fun _ => rfl) (fun x v hv => by simp [encR] at hv; rcases hv with rfl | rfl <;> rfl) (fun x y => Lib.compareInt x.from_ y.from_) swoFrom 65 #[] blk off cap d w eg (cmpLaysR blk off d.size w) hH hblk hsz
theorem c_sortR {h : List Ch} {K : KT} {t : Nat} {xs : List Rng} {n : Nat} (H : ∀ ys : List Rng, ys.Perm xs → (ys.Pairwise fun r s => r.from_ ≤ s.from_) → K (.tup []) (h.set t (.rows .rng ys))) (o : hth h t = .rows .rng xs) (s1 : n = xs.length) (s2 : xs.length ≤ 1099511627776) : Does Try.prog 64 [.sl t .rng 0 n, .fn 65 []] h K := -- nocall
  sort_cmpK (e := .rng) ⟨_, fn_64, rfl, rfl⟩ (enc := encR) (fun _ => rfl) (cf := fun x y => Lib.compareInt x.from_ y.from_) (lt := fun x y => decide (x.from_ < y.from_)) decR_rng
    (fun R x y a b h1 h2 => by
      rw [ltFrom, (eq_rng h1).1, (eq_rng h2).1])
    sortR_runs (fun p cap w => AnyF.slices_SortFunc_none (L := { Try.sortRng with }) p cap _ w) s1 s2 (fun ys h1 h2 => H ys h1 (h2.imp fun h => by simpa using h)) o
end Go.V
