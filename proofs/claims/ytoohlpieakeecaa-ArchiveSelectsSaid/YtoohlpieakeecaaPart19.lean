/-
  archive: the reference's Counts, Gaps, Items, Between.
  archive: the program and the reference agree (plain).
  ArchiveParts: application processes are independent.
  ArchiveAdds: items are accepted, and gaps and items returned, as specified.
  IKs
  IRt
  IRt2
  ISm
  archive: the order of Between's sort.
-/
import Derived.Test.YtoohlpieakeecaaPart18
set_option linter.unusedVariables false
set_option linter.unusedSimpArgs false
set_option maxRecDepth 100000
set_option maxHeartbeats 8000000
namespace Go.V
open Go.Proofs
theorem filter_next {α : Type} {P : α → Bool} {l : List α} {d : α} {k : Nat} (h : k < l.length) : (l.take (k + 1)).filter P = (l.take k).filter P ++ (if P (l.getD k d) = true then [l.getD k d] else []) := by
  rw [List.take_succ_eq_append_getElem h, List.filter_append, List.getD_eq_getElem?_getD, List.getElem?_eq_getElem h]
  show _ ++ List.filter P [l[k]] = _ ++ (if P l[k] = true then [l[k]] else [])
  by_cases c : P l[k] = true
  · rw [if_pos c, List.filter_cons_of_pos c]; rfl
  · rw [if_neg c, List.filter_cons_of_neg c]; rfl
def isA (a : Int) (r : REnt) : Bool := decide (r.apid = a)
def inT (f t : Int) (r : REnt) : Bool := decide (f ≤ r.time) && decide (r.time < t)
theorem b_rbet (rs : List REnt) (f t : Int) (h : rs.length ≤ 100000) : DoesK Try.prog 0 26 [.ro .ren rs, .int .i64 f, .int .i64 t] [] (EndF 0 (.ro .itm ((sortR ltB (rs.filter (inT f t))).map itR)) []) := by
  refine DoesK.close ?_
  refine w_body (rs := [.tmp 6]) (tm := [.ro .ren rs, .int .i64 f, .int .i64 t, .any, .any, .any, .any, .any, .any, .any, .any, .any, .any, .any, .any, .any, .any, .any, .any, .any, .any, .any, .any, .any, .any, .any, .any, .any, .any, .any, .any, .any, .any, .any, .any, .any, .any, .any, .any, .any, .any, .any]) fn_26 rfl rfl rfl rfl fun R hR => ?_
  (all_goals (try ((first | (with_reducible refine wp_id ?_) | (with_reducible refine does_id ?_) | (with_reducible refine ops_id ?_)); refine walk ?_; (repeat' (first | exact trivial | with_reducible refine And.intro ?_ ?_)); all_goals (repeat (first | (with_reducible refine ImpB.mk fun hb => ?_) | (with_reducible refine ImpK.mk fun hK => ?_) | (with_reducible refine ImpF.mk fun hF => ?_) | (with_reducible refine ImpQ.mk fun hp => ?_) | (with_reducible refine AllE.mk fun p => ?_) | (with_reducible refine AllR.mk fun rest => ?_) | (with_reducible refine AllK.mk fun K => ?_))))); repeat' (with_reducible refine And.intro ?_ ?_))
  refine Wp.ghost (gh_adopt (s := 7) .ren trivial) ?_
  simp only [go_sem, decide_true, decide_false, Int.reduceToNat, Nat.min_eq_left, Nat.min_eq_right, Int.reducePow, Nat.reducePow, Int.reduceLE, Int.reduceLT, Int.reduceMul, Int.reduceAdd, Int.reduceSub, Int.reduceNeg, Bool.not_true, Bool.not_false, Bool.not_not, ↓reduceIte, Nat.reduceAdd, Nat.reduceSub, Nat.reduceMul, Nat.reduceEqDiff, reduceCtorEq, Nat.reduceLT, Nat.reduceLeDiff, Nat.reduceGT]
  any_goals ((try (refine w_seq fun K hK => ?_)); (try (refine w_block ?_)); refine w_loop (A := Nat) (fun k => k ≤ rs.length) (fun k => rs.length - k) (fun k => [(7, .sl 0 .ren 0 ((rs.take k).filter (inT f t)).length), (8, .int .i64 k)]) (fun k => [(0, .rows .ren ((rs.take k).filter (inT f t)))]) (0) (ws := ?ws4) (tk := ?tk4) ?hw4 ?ht4 ?hi ?h0 ?LH4; (case hw4 => simp only [go_sem, decide_true, decide_false, Int.reduceToNat, Nat.min_eq_left, Nat.min_eq_right, Int.reducePow, Nat.reducePow, Int.reduceLE, Int.reduceLT, Int.reduceMul, Int.reduceAdd, Int.reduceSub, Int.reduceNeg, Bool.not_true, Bool.not_false, Bool.not_not, ↓reduceIte, Nat.reduceAdd, Nat.reduceSub, Nat.reduceMul, Nat.reduceEqDiff, reduceCtorEq, Nat.reduceLT, Nat.reduceLeDiff, Nat.reduceGT]; exact rfl); (case ht4 => simp only [go_sem, decide_true, decide_false, Int.reduceToNat, Nat.min_eq_left, Nat.min_eq_right, Int.reducePow, Nat.reducePow, Int.reduceLE, Int.reduceLT, Int.reduceMul, Int.reduceAdd, Int.reduceSub, Int.reduceNeg, Bool.not_true, Bool.not_false, Bool.not_not, ↓reduceIte, Nat.reduceAdd, Nat.reduceSub, Nat.reduceMul, Nat.reduceEqDiff, reduceCtorEq, Nat.reduceLT, Nat.reduceLeDiff, Nat.reduceGT]; exact rfl); (case' LH4 => rintro k E t hx hE ht; simp only [go_sem] at ht; subst ht; simp only [go_sem]; try dsimp only at hx))
  case hi => exact Nat.zero_le _
  case h0 =>
    (focus (refine ⟨_, _, Gh.refl, [0], rfl, ?_⟩; (refine fitq ?_ ?_ ?_ <;> try exact trivial); (try any_goals (refine ⟨?_, ?_⟩)); (try any_goals (with_reducible rfl))))
    all_goals (repeat' (first | (refine And.intro ?_ ?_) | rfl))
  case LH4 =>
    have hk0 : k ≤ rs.length := hx
    have hfl : ((rs.take k).filter (inT f t)).length ≤ 100000 := Nat.le_trans (List.length_filter_le _ _) (by rw [List.length_take]; omega)
    by_cases hk : k < rs.length
    · have hkd : decide ((k : Int) < (rs.length : Int)) = true := decide_eq_true (by omega)
      have hw : IntKind.i64.wrap ((k : Int) + 1) = ((k + 1 : Nat) : Int) := by rw [wrap_i64 _ (by omega) (by omega)]; omega
      have hn := filter_next (P := inT f t) (d := REnt.zero) hk
      obtain ⟨r, hr⟩ : ∃ r, rs.getD k REnt.zero = r := ⟨_, rfl⟩
      rw [hr] at hn
      obtain ⟨F, hF⟩ : ∃ F, (rs.take k).filter (inT f t) = F := ⟨_, rfl⟩
      rw [hF] at hn hfl ⊢
      by_cases c1 : f ≤ r.time
      · have d1 : decide (f ≤ r.time) = true := decide_eq_true c1
        by_cases c2 : r.time < t
        · have d2 : decide (r.time < t) = true := decide_eq_true c2
          have hn2 : (rs.take (k + 1)).filter (inT f t) = F ++ [r] := by rw [hn, if_pos (by unfold inT; rw [d1, d2]; rfl)]
          have hn3 : F ++ [r] = F ++ [⟨r.apid, r.cnt, r.time, r.data, r.count⟩] := rfl
          (have zx1 := @hkd; have zx2 := @hw; have zx3 := @hr; have zx4 := @d1; have zx5 := @d2; all_goals (try ((first | (with_reducible refine wp_id ?_) | (with_reducible refine does_id ?_) | (with_reducible refine ops_id ?_)); refine walk ?_; (repeat' (first | exact trivial | with_reducible refine And.intro ?_ ?_)); all_goals (repeat (first | (with_reducible refine ImpB.mk fun hb => ?_) | (with_reducible refine ImpK.mk fun hK => ?_) | (with_reducible refine ImpF.mk fun hF => ?_) | (with_reducible refine ImpQ.mk fun hp => ?_) | (with_reducible refine AllE.mk fun p => ?_) | (with_reducible refine AllR.mk fun rest => ?_) | (with_reducible refine AllK.mk fun K => ?_))))); repeat' (with_reducible refine And.intro ?_ ?_))
          any_goals first | exact Int.natCast_nonneg _ | (show (k : Int) < (rs.length : Int); omega) | (show k < rs.length; omega) | (show (F.length + 1) * 56 ≤ 140737488355328; omega) | (show F.length ≤ (_ : Nat); omega)
          (all_goals first | exact Int.natCast_nonneg _ | exact Int.ofNat_lt.2 (by assumption) | assumption | omega | exact Nat.le_refl _ | (exfalso; simp at hb; done) | (simp only [go_sem, decide_true, decide_false, Int.reduceToNat, Nat.min_eq_left, Nat.min_eq_right, Int.reducePow, Nat.reducePow, Int.reduceLE, Int.reduceLT, Int.reduceMul, Int.reduceAdd, Int.reduceSub, Int.reduceNeg, Bool.not_true, Bool.not_false, Bool.not_not, ↓reduceIte, Nat.reduceAdd, Nat.reduceSub, Nat.reduceMul, Nat.reduceEqDiff, reduceCtorEq, Nat.reduceLT, Nat.reduceLeDiff, Nat.reduceGT]; done) | (unfold capM; omega) | (simp only [List.length_drop, List.length_take, List.length_append, List.length_cons, List.length_nil]; omega) | skip)
          refine ⟨k + 1, ⟨(by omega : k + 1 ≤ rs.length), (by first | omega | (dsimp only; omega))⟩, ?_⟩
          dsimp only
          rw [hn2]
          (focus (refine ⟨_, _, Gh.refl, [2], rfl, ?_⟩; (refine fitq ?_ ?_ ?_ <;> try exact trivial); (try any_goals (refine ⟨?_, ?_⟩)); (try any_goals (with_reducible rfl))))
          all_goals first | rfl | (rw [List.length_append]; rfl) | skip
        · have d2 : decide (r.time < t) = false := decide_eq_false c2
          have hn2 : (rs.take (k + 1)).filter (inT f t) = F := by rw [hn, if_neg (by unfold inT; rw [d1, d2]; decide), List.append_nil]
          (have zx1 := @hkd; have zx2 := @hw; have zx3 := @hr; have zx4 := @d1; have zx5 := @d2; all_goals (try ((first | (with_reducible refine wp_id ?_) | (with_reducible refine does_id ?_) | (with_reducible refine ops_id ?_)); refine walk ?_; (repeat' (first | exact trivial | with_reducible refine And.intro ?_ ?_)); all_goals (repeat (first | (with_reducible refine ImpB.mk fun hb => ?_) | (with_reducible refine ImpK.mk fun hK => ?_) | (with_reducible refine ImpF.mk fun hF => ?_) | (with_reducible refine ImpQ.mk fun hp => ?_) | (with_reducible refine AllE.mk fun p => ?_) | (with_reducible refine AllR.mk fun rest => ?_) | (with_reducible refine AllK.mk fun K => ?_))))); repeat' (with_reducible refine And.intro ?_ ?_))
          any_goals first | exact Int.natCast_nonneg _ | (show (k : Int) < (rs.length : Int); omega) | (show k < rs.length; omega)
          (all_goals first | exact Int.natCast_nonneg _ | exact Int.ofNat_lt.2 (by assumption) | assumption | omega | exact Nat.le_refl _ | (exfalso; simp at hb; done) | (simp only [go_sem, decide_true, decide_false, Int.reduceToNat, Nat.min_eq_left, Nat.min_eq_right, Int.reducePow, Nat.reducePow, Int.reduceLE, Int.reduceLT, Int.reduceMul, Int.reduceAdd, Int.reduceSub, Int.reduceNeg, Bool.not_true, Bool.not_false, Bool.not_not, ↓reduceIte, Nat.reduceAdd, Nat.reduceSub, Nat.reduceMul, Nat.reduceEqDiff, reduceCtorEq, Nat.reduceLT, Nat.reduceLeDiff, Nat.reduceGT]; done) | (unfold capM; omega) | (simp only [List.length_drop, List.length_take, List.length_append, List.length_cons, List.length_nil]; omega) | skip)
          refine ⟨k + 1, ⟨(by omega : k + 1 ≤ rs.length), (by first | omega | (dsimp only; omega))⟩, ?_⟩
          dsimp only
          rw [hn2]
          (focus (refine ⟨_, _, Gh.refl, [0], rfl, ?_⟩; (refine fitq ?_ ?_ ?_ <;> try exact trivial); (try any_goals (refine ⟨?_, ?_⟩)); (try any_goals (with_reducible rfl))))
          all_goals (repeat' (first | (refine And.intro ?_ ?_) | rfl))
      · have d1 : decide (f ≤ r.time) = false := decide_eq_false c1
        have hn2 : (rs.take (k + 1)).filter (inT f t) = F := by rw [hn, if_neg (by unfold inT; rw [d1]; exact Bool.false_ne_true), List.append_nil]
        (have zx1 := @hkd; have zx2 := @hw; have zx3 := @hr; have zx4 := @d1; all_goals (try ((first | (with_reducible refine wp_id ?_) | (with_reducible refine does_id ?_) | (with_reducible refine ops_id ?_)); refine walk ?_; (repeat' (first | exact trivial | with_reducible refine And.intro ?_ ?_)); all_goals (repeat (first | (with_reducible refine ImpB.mk fun hb => ?_) | (with_reducible refine ImpK.mk fun hK => ?_) | (with_reducible refine ImpF.mk fun hF => ?_) | (with_reducible refine ImpQ.mk fun hp => ?_) | (with_reducible refine AllE.mk fun p => ?_) | (with_reducible refine AllR.mk fun rest => ?_) | (with_reducible refine AllK.mk fun K => ?_))))); repeat' (with_reducible refine And.intro ?_ ?_))
        any_goals first | exact Int.natCast_nonneg _ | (show (k : Int) < (rs.length : Int); omega) | (show k < rs.length; omega)
        (all_goals first | exact Int.natCast_nonneg _ | exact Int.ofNat_lt.2 (by assumption) | assumption | omega | exact Nat.le_refl _ | (exfalso; simp at hb; done) | (simp only [go_sem, decide_true, decide_false, Int.reduceToNat, Nat.min_eq_left, Nat.min_eq_right, Int.reducePow, Nat.reducePow, Int.reduceLE, Int.reduceLT, Int.reduceMul, Int.reduceAdd, Int.reduceSub, Int.reduceNeg, Bool.not_true, Bool.not_false, Bool.not_not, ↓reduceIte, Nat.reduceAdd, Nat.reduceSub, Nat.reduceMul, Nat.reduceEqDiff, reduceCtorEq, Nat.reduceLT, Nat.reduceLeDiff, Nat.reduceGT]; done) | (unfold capM; omega) | (simp only [List.length_drop, List.length_take, List.length_append, List.length_cons, List.length_nil]; omega) | skip)
        refine ⟨k + 1, ⟨(by omega : k + 1 ≤ rs.length), (by first | omega | (dsimp only; omega))⟩, ?_⟩
        dsimp only
        rw [hn2]
        (focus (refine ⟨_, _, Gh.refl, [0], rfl, ?_⟩; (refine fitq ?_ ?_ ?_ <;> try exact trivial); (try any_goals (refine ⟨?_, ?_⟩)); (try any_goals (with_reducible rfl))))
        all_goals (repeat' (first | (refine And.intro ?_ ?_) | rfl))
    · have hkd : decide ((k : Int) < (rs.length : Int)) = false := decide_eq_false (by omega)
      have hke : rs.take k = rs := List.take_of_length_le (by omega)
      rw [hke] at hfl ⊢
      (have zx1 := @hkd; all_goals (try ((first | (with_reducible refine wp_id ?_) | (with_reducible refine does_id ?_) | (with_reducible refine ops_id ?_)); refine walk ?_; (repeat' (first | exact trivial | with_reducible refine And.intro ?_ ?_)); all_goals (repeat (first | (with_reducible refine ImpB.mk fun hb => ?_) | (with_reducible refine ImpK.mk fun hK => ?_) | (with_reducible refine ImpF.mk fun hF => ?_) | (with_reducible refine ImpQ.mk fun hp => ?_) | (with_reducible refine AllE.mk fun p => ?_) | (with_reducible refine AllR.mk fun rest => ?_) | (with_reducible refine AllK.mk fun K => ?_))))); repeat' (with_reducible refine And.intro ?_ ?_))
      (all_goals first | exact Int.natCast_nonneg _ | exact Int.ofNat_lt.2 (by assumption) | assumption | omega | exact Nat.le_refl _ | (exfalso; simp at hb; done) | (simp only [go_sem, decide_true, decide_false, Int.reduceToNat, Nat.min_eq_left, Nat.min_eq_right, Int.reducePow, Nat.reducePow, Int.reduceLE, Int.reduceLT, Int.reduceMul, Int.reduceAdd, Int.reduceSub, Int.reduceNeg, Bool.not_true, Bool.not_false, Bool.not_not, ↓reduceIte, Nat.reduceAdd, Nat.reduceSub, Nat.reduceMul, Nat.reduceEqDiff, reduceCtorEq, Nat.reduceLT, Nat.reduceLeDiff, Nat.reduceGT]; done) | (unfold capM; omega) | (simp only [List.length_drop, List.length_take, List.length_append, List.length_cons, List.length_nil]; omega) | skip)
      (focus (refine ⟨_, _, Gh.refl, [], rfl, ?_⟩; (refine fitq ?_ ?_ ?_ <;> try exact trivial); (try any_goals (refine ⟨?_, ?_⟩)); (try any_goals (with_reducible rfl))))
      all_goals (repeat' (first | (refine And.intro ?_ ?_) | rfl))
theorem c_rbet {h : List Ch} {K : KT} {rs : List REnt} {f t : Int} {x : AV} (H : K (.ro .itm ((sortR ltB (rs.filter (inT f t))).map itR)) h) (q1 : isRO .ren rs x) (s1 : rs.length ≤ 100000) : Does Try.prog 26 [x, .int .i64 f, .int .i64 t] h K :=
  frame_pure (b_rbet rs f t s1) (br_cons q1.br (br_cons br_int (br_cons br_int br_nil))) (.inl (by simp only [brTL, q1.brT]; rfl)) (fun _ => rfl) H
abbrev i_rbet := Ctr.mk (i := 0) (g := 26) @c_rbet
attribute [instance] i_rbet
end Go.V

set_option maxRecDepth 100000
set_option maxHeartbeats 8000000
namespace Go.V
open Go.Proofs
def enR (x : Ent) : REnt := ⟨x.apid, x.cnt, x.time, x.data, x.count⟩
def srtE (xs : List Ent) : Prop := xs.Pairwise fun x y => x.count < y.count
structure Agree (ps : List Prc) (rs : List REnt) : Prop where
  perm : ∀ a, (rs.filter (isA a)).Perm ((getP ps a).map enR)
  srt : ∀ a, srtE (getP ps a)
  cnt : ∀ a, ∀ x ∈ getP ps a, x.apid = a ∧ x.cnt = x.count % 16384
  len : lenP ps = rs.length
/-! ### sorted -/
def insQ (lt : REnt → REnt → Bool) : List REnt → REnt → List REnt
  | [], x => [x]
  | y :: A, x => if lt x y = true then y :: insQ lt A x else x :: y :: A
theorem sAt_app1 {A C : List REnt} {x : REnt} : sAt (A ++ x :: C) A.length = x := by
  show (A ++ x :: C).getD A.length REnt.zero = x
  rw [List.getD_eq_getElem?_getD, List.getElem?_append_right (Nat.le_refl _), Nat.sub_self]; rfl
theorem bub_insQ (lt : REnt → REnt → Bool) : ∀ (R C : List REnt) (x : REnt), bub lt (R.reverse ++ x :: C) R.length = (insQ lt R x).reverse ++ C
  | [], C, x => rfl
  | y :: R, C, x => by
    have e1 : sAt ((y :: R).reverse ++ x :: C) (R.length + 1) = x := by
      have := sAt_app1 (A := (y :: R).reverse) (C := C) (x := x)
      rw [List.length_reverse] at this; exact this
    have e0 : (y :: R).reverse ++ x :: C = R.reverse ++ y :: x :: C := by simp
    have e2 : sAt ((y :: R).reverse ++ x :: C) R.length = y := by
      rw [e0]
      have := sAt_app1 (A := R.reverse) (C := x :: C) (x := y)
      rw [List.length_reverse] at this; exact this
    show (if lt (sAt _ (R.length + 1)) (sAt _ R.length) = true then bub lt (swp _ R.length) R.length else _) = _
    rw [e1, e2]
    by_cases c : lt x y = true
    · rw [if_pos c]
      have e3 : swp ((y :: R).reverse ++ x :: C) R.length = R.reverse ++ x :: y :: C := by
        unfold swp
        rw [e1, e2, e0]
        have h1 : (R.reverse ++ y :: x :: C).set (R.length + 1) y = R.reverse ++ y :: y :: C := by
          rw [List.set_append_right _ _ (by simp), List.length_reverse, Nat.add_sub_cancel_left]; rfl
        rw [h1, List.set_append_right _ _ (by simp), List.length_reverse, Nat.sub_self]; rfl
      rw [e3, bub_insQ lt R (y :: C) x]
      show _ = (if lt x y = true then y :: insQ lt R x else x :: y :: R).reverse ++ C
      rw [if_pos c]
      simp
    · rw [if_neg c]
      show _ = (if lt x y = true then y :: insQ lt R x else x :: y :: R).reverse ++ C
      rw [if_neg c]
      simp
theorem insQ_perm (lt : REnt → REnt → Bool) : ∀ (A : List REnt) (x : REnt), (insQ lt A x).Perm (x :: A)
  | [], _ => .refl _
  | y :: A, x => by
    unfold insQ
    split
    · exact ((insQ_perm lt A x).cons y).trans (.swap x y A)
    · exact .refl _
theorem insQ_len (lt : REnt → REnt → Bool) (A : List REnt) (x : REnt) : (insQ lt A x).length = A.length + 1 := by
  rw [(insQ_perm lt A x).length_eq]; rfl
def accR (lt : REnt → REnt → Bool) (l : List REnt) : List REnt := l.foldl (insQ lt) []
theorem accR_next (lt : REnt → REnt → Bool) {l : List REnt} {k : Nat} (h : k < l.length) : accR lt (l.take (k + 1)) = insQ lt (accR lt (l.take k)) l[k] := by
  unfold accR
  rw [List.take_succ_eq_append_getElem h, List.foldl_append]; rfl
theorem accR_len (lt : REnt → REnt → Bool) (l : List REnt) : ∀ k, k ≤ l.length → (accR lt (l.take k)).length = k
  | 0, _ => rfl
  | k + 1, h => by rw [accR_next lt (by omega), insQ_len, accR_len lt l k (by omega)]
theorem oS_acc (lt : REnt → REnt → Bool) (l : List REnt) : ∀ i, i ≤ l.length → oS lt l i = (accR lt (l.take i)).reverse ++ l.drop i
  | 0, _ => rfl
  | i + 1, h => by
    show bub lt (oS lt l i) i = _
    have hl := accR_len lt l i (by omega)
    rw [oS_acc lt l i (by omega), List.drop_eq_getElem_cons (by omega : i < l.length)]
    have := bub_insQ lt (accR lt (l.take i)) (l.drop (i + 1)) (l[i])
    rw [hl] at this
    rw [this, accR_next lt (by omega)]
theorem sortR_acc (lt : REnt → REnt → Bool) (l : List REnt) : sortR lt l = (accR lt l).reverse := by
  unfold sortR
  by_cases c : l.length = 0
  · obtain rfl := List.eq_nil_of_length_eq_zero c
    rfl
  · rw [Nat.max_eq_right (by omega), oS_acc lt l _ (Nat.le_refl _), List.take_length, List.drop_length, List.append_nil]
theorem accR_perm (lt : REnt → REnt → Bool) (l : List REnt) : (accR lt l).Perm l := by
  have key : ∀ (l acc : List REnt), (l.foldl (insQ lt) acc).Perm (l ++ acc) := by
    intro l
    induction l with
    | nil => intro acc; exact .refl _
    | cons x l ih =>
      intro acc
      refine (ih (insQ lt acc x)).trans ?_
      refine ((insQ_perm lt acc x).append_left l).trans ?_
      exact List.perm_middle
  have := key l []
  rwa [List.append_nil] at this
/-- a strict order whose ties form classes -/
structure OrdQ (lt : REnt → REnt → Bool) : Prop where
  asym : ∀ x y, lt x y = true → lt y x = false
  ntr : ∀ x y z, lt x y = false → lt y z = false → lt x z = false
theorem insQ_sorted {lt : REnt → REnt → Bool} (o : OrdQ lt) : ∀ {A : List REnt} {x : REnt}, A.Pairwise (fun p q => lt p q = false) → (insQ lt A x).Pairwise (fun p q => lt p q = false)
  | [], _, _ => by simp [insQ]
  | y :: A, x, h => by
    obtain ⟨h1, h2⟩ := List.pairwise_cons.1 h
    unfold insQ
    split
    · rename_i c
      refine List.pairwise_cons.2 ⟨fun z hz => ?_, insQ_sorted o h2⟩
      rcases List.mem_cons.1 ((insQ_perm lt A x).mem_iff.1 hz) with rfl | hz
      · exact o.asym _ _ c
      · exact h1 z hz
    · rename_i c
      have c : lt x y = false := by cases q : lt x y <;> simp_all
      refine List.pairwise_cons.2 ⟨fun z hz => ?_, h⟩
      rcases List.mem_cons.1 hz with rfl | hz
      · exact c
      · exact o.ntr _ _ _ c (h1 z hz)
theorem accR_sorted {lt : REnt → REnt → Bool} (o : OrdQ lt) (l : List REnt) : (accR lt l).Pairwise (fun p q => lt p q = false) := by
  have key : ∀ (l acc : List REnt), acc.Pairwise (fun p q => lt p q = false) → (l.foldl (insQ lt) acc).Pairwise (fun p q => lt p q = false) := by
    intro l
    induction l with
    | nil => intro acc h; exact h
    | cons x l ih => intro acc h; exact ih _ (insQ_sorted o h)
  exact key l [] .nil
theorem sortR_sorted {lt : REnt → REnt → Bool} (o : OrdQ lt) (l : List REnt) : (sortR lt l).Pairwise (fun p q => lt q p = false) := by
  rw [sortR_acc]
  exact List.pairwise_reverse.2 (accR_sorted o l)
theorem sortR_perm (lt : REnt → REnt → Bool) (l : List REnt) : (sortR lt l).Perm l := by
  rw [sortR_acc]
  exact (List.reverse_perm _).trans (accR_perm lt l)
theorem sort_one {lt : REnt → REnt → Bool} (ha : ∀ x y, lt x y = true → lt y x = false) : ∀ {l m : List REnt}, l.Perm m → l.Pairwise (fun p q => lt q p = false) → m.Pairwise (fun p q => lt p q = true) → l = m
  | [], m, hp, _, _ => (List.nil_perm.1 hp).symm
  | x :: l, [], hp, _, _ => by have := hp.length_eq; simp at this
  | x :: l, y :: m, hp, h1, h2 => by
    obtain ⟨a1, a2⟩ := List.pairwise_cons.1 h1
    obtain ⟨b1, b2⟩ := List.pairwise_cons.1 h2
    have hy : y ∈ x :: l := hp.mem_iff.2 (by simp)
    have hx : x ∈ y :: m := hp.mem_iff.1 (by simp)
    have e : x = y := by
      rcases List.mem_cons.1 hx with q | q
      · exact q
      · rcases List.mem_cons.1 hy with r | r
        · exact r.symm
        · have s1 := b1 x q
          have s2 := a1 y r
          rw [s1] at s2; cases s2
    subst e
    rw [sort_one ha ((List.perm_cons x).1 hp) a2 b2]
/-! ### Extend -/
theorem extS_spec (rs : List REnt) (a : Int) : (extS rs a = none ∧ rs.filter (isA a) = []) ∨ ∃ e, extS rs a = some e ∧ (∃ r ∈ rs.filter (isA a), r.count = e) ∧ ∀ r ∈ rs.filter (isA a), r.count ≤ e := by
  have key : ∀ (rs S : List REnt) (o : Option Int), ((o = none ∧ S = []) ∨ ∃ e, o = some e ∧ (∃ r ∈ S, r.count = e) ∧ ∀ r ∈ S, r.count ≤ e) →
      ((rs.foldl (extStep a) o = none ∧ S ++ rs.filter (isA a) = []) ∨ ∃ e, rs.foldl (extStep a) o = some e ∧ (∃ r ∈ S ++ rs.filter (isA a), r.count = e) ∧ ∀ r ∈ S ++ rs.filter (isA a), r.count ≤ e) := by
    intro rs
    induction rs with
    | nil => intro S o h; simpa using h
    | cons x rs ih =>
      intro S o h
      by_cases c : x.apid = a
      · have hf : (x :: rs).filter (isA a) = x :: rs.filter (isA a) := List.filter_cons_of_pos (by unfold isA; exact decide_eq_true c)
        have := ih (S ++ [x]) (extStep a o x) (by
          right
          unfold extStep
          rw [if_pos c]
          rcases h with ⟨rfl, rfl⟩ | ⟨e, rfl, ⟨r, hr, he⟩, hm⟩
          · exact ⟨x.count, rfl, ⟨x, by simp, rfl⟩, fun r hr => by simp at hr; rw [hr]; exact Int.le_refl _⟩
          · by_cases c2 : e < x.count
            · refine ⟨x.count, if_pos c2, ⟨x, by simp, rfl⟩, fun r hr => ?_⟩
              rcases List.mem_append.1 hr with hr | hr
              · have := hm r hr; omega
              · simp at hr; rw [hr]; exact Int.le_refl _
            · refine ⟨e, if_neg c2, ⟨r, by simp [hr], he⟩, fun r hr => ?_⟩
              rcases List.mem_append.1 hr with hr | hr
              · exact hm r hr
              · simp at hr; rw [hr]; omega)
        rw [List.append_assoc] at this
        rw [hf]
        exact this
      · have hf : (x :: rs).filter (isA a) = rs.filter (isA a) := List.filter_cons_of_neg (by unfold isA; rw [decide_eq_false c]; decide)
        rw [hf]
        have hs : extStep a o x = o := if_neg c
        show ((rs.foldl (extStep a) (extStep a o x)) = none ∧ _) ∨ ∃ e, rs.foldl (extStep a) (extStep a o x) = some e ∧ _
        rw [hs]
        exact ih S o h
  have := key rs [] none (.inl ⟨rfl, rfl⟩)
  rw [List.nil_append] at this
  exact this
theorem last_max {xs : List Ent} (h : srtE xs) (hn : 0 < xs.length) : eAt xs (xs.length - 1) ∈ xs ∧ ∀ x ∈ xs, x.count ≤ (eAt xs (xs.length - 1)).count := by
  have hne : xs ≠ [] := List.length_pos_iff.1 hn
  have e : eAt xs (xs.length - 1) = xs.getLast hne := by
    show xs.getD _ Ent.zero = _
    rw [List.getD_eq_getElem?_getD, ← List.getLast?_eq_getElem?, List.getLast?_eq_some_getLast hne]; rfl
  rw [e]
  refine ⟨List.getLast_mem hne, fun x hx => ?_⟩
  have hq := List.dropLast_concat_getLast hne
  have h2 := h
  rw [← hq] at hx h2
  rcases List.mem_append.1 hx with q | q
  · exact Int.le_of_lt ((List.pairwise_append.1 h2).2.2 x q _ (by simp))
  · rw [List.mem_singleton.1 q]; exact Int.le_refl _
theorem Agree.ext {ps : List Prc} {rs : List REnt} (h : Agree ps rs) (a c : Int) : extR rs a c = if (getP ps a).length = 0 then c else Go.V.ext (eAt (getP ps a) ((getP ps a).length - 1)).count c := by
  have hp := h.perm a
  unfold extR
  rcases extS_spec rs a with ⟨h1, h2⟩ | ⟨e, h1, ⟨r, hr, hre⟩, h3⟩
  · rw [h1]
    have : (getP ps a).length = 0 := by
      have := hp.length_eq
      rw [h2, List.length_map] at this
      exact this.symm
    rw [if_pos this]
  · rw [h1]
    have hl : 0 < (getP ps a).length := by
      have := hp.length_eq
      rw [List.length_map] at this
      rw [← this]
      exact List.length_pos_of_mem hr
    rw [if_neg (by omega)]
    obtain ⟨m1, m2⟩ := last_max (h.srt a) hl
    have q1 : (eAt (getP ps a) ((getP ps a).length - 1)).count ≤ e := h3 _ (hp.mem_iff.2 (List.mem_map.2 ⟨_, m1, rfl⟩))
    obtain ⟨x, hx, hxr⟩ := List.mem_map.1 (hp.mem_iff.1 hr)
    have q2 := m2 x hx
    have q3 : x.count = e := by rw [← hre, ← hxr]; rfl
    show Go.V.ext e c = _
    rw [show e = (eAt (getP ps a) ((getP ps a).length - 1)).count by omega]
/-! ### Add -/
theorem splitE : ∀ (xs : List Ent) (e : Int), srtE xs → ∃ A B, xs = A ++ B ∧ (∀ x ∈ A, x.count < e) ∧ (∀ x ∈ B, e ≤ x.count)
  | [], e, _ => ⟨[], [], rfl, by simp, by simp⟩
  | x :: xs, e, h => by
    obtain ⟨h1, h2⟩ := List.pairwise_cons.1 h
    by_cases c : x.count < e
    · obtain ⟨A, B, q, g1, g2⟩ := splitE xs e h2
      refine ⟨x :: A, B, by rw [q]; rfl, fun y hy => ?_, g2⟩
      rcases List.mem_cons.1 hy with rfl | hy
      · exact c
      · exact g1 y hy
    · refine ⟨[], x :: xs, rfl, by simp, fun y hy => ?_⟩
      rcases List.mem_cons.1 hy with rfl | hy
      · omega
      · have := h1 y hy; omega
theorem posE_split {A B : List Ent} {e : Int} (h1 : ∀ x ∈ A, x.count < e) (h2 : ∀ x ∈ B, e ≤ x.count) : posE (A ++ B) e (A ++ B).length = A.length := by
  have hl : (A ++ B).length = A.length + B.length := List.length_append
  refine posE_at (fun k hk => ?_) _ (by rw [hl]; omega) fun k a b => ?_
  · refine h1 _ ?_
    show (A ++ B).getD k Ent.zero ∈ A
    rw [List.getD_eq_getElem?_getD, List.getElem?_append_left (by omega), List.getElem?_eq_getElem (by omega)]
    exact List.getElem_mem _
  · refine h2 _ ?_
    show (A ++ B).getD k Ent.zero ∈ B
    rw [List.getD_eq_getElem?_getD, List.getElem?_append_right a, List.getElem?_eq_getElem (by omega)]
    exact List.getElem_mem _
theorem addQ_cases (i : Itm) (e : Int) {xs : List Ent} (h : srtE xs) : (∃ x ∈ xs, x.count = e ∧ addQ i e xs = (xs, if x.time = i.time ∧ x.data = i.data then 9 else 4)) ∨
    ((∀ x ∈ xs, x.count ≠ e) ∧ ∃ A B, xs = A ++ B ∧ (∀ x ∈ A, x.count < e) ∧ (∀ x ∈ B, e < x.count) ∧ addQ i e xs = (A ++ newE i e :: B, 0)) := by
  obtain ⟨A, B, rfl, h1, h2⟩ := splitE xs e h
  unfold addQ
  rw [posE_split h1 h2]
  have hl : (A ++ B).length = A.length + B.length := List.length_append
  cases B with
  | nil =>
    right
    refine ⟨fun x hx => ?_, A, [], rfl, h1, by simp, ?_⟩
    · rw [List.append_nil] at hx; have := h1 x hx; omega
    · rw [if_neg (by rw [hl]; simp)]; simp
  | cons b B =>
    have e0 : eAt (A ++ b :: B) A.length = b := by
      show (A ++ b :: B).getD A.length Ent.zero = b
      rw [List.getD_eq_getElem?_getD, List.getElem?_append_right (Nat.le_refl _), Nat.sub_self]; rfl
    rw [e0]
    have hb := h2 b (by simp)
    have hB := (List.pairwise_cons.1 (List.pairwise_append.1 h).2.1).1
    by_cases c : b.count = e
    · left
      exact ⟨b, by simp, c, by rw [if_pos ⟨by rw [hl, List.length_cons]; omega, c⟩]⟩
    · right
      have hB2 : ∀ x ∈ b :: B, e < x.count := fun x hx => by
        rcases List.mem_cons.1 hx with rfl | hx
        · omega
        · have := hB x hx; omega
      refine ⟨fun x hx => ?_, A, b :: B, rfl, h1, hB2, ?_⟩
      · rcases List.mem_append.1 hx with q | q
        · have := h1 x q; omega
        · have := hB2 x q; omega
      · rw [if_neg (fun q => c q.2), List.take_left' rfl, List.drop_left' rfl]
theorem ext_mod (g c : Int) : Go.V.ext g c % 16384 = c % 16384 := by
  unfold Go.V.ext
  split <;> omega
theorem isA_iff {a : Int} {r : REnt} : isA a r = true ↔ r.apid = a := by unfold isA; exact decide_eq_true_iff
theorem lenP_app (A B : List Prc) : lenP (A ++ B) = lenP A + lenP B := by unfold lenP; rw [List.map_append, List.sum_append]
theorem lenP_cons (p : Prc) (B : List Prc) : lenP (p :: B) = p.list.length + lenP B := by unfold lenP; rw [List.map_cons, List.sum_cons]
/-- the program's and the reference's Add give the same -/
theorem Agree.add {ps : List Prc} {rs : List REnt} {n : Nat} (h : Agree ps rs) (hs : StP ps n) (i : Itm) : (addR rs i).2 = (addM i ps).2 ∧ Agree (addM i ps).1 (addR rs i).1 := by
  cases hr : rightB i with
  | false =>
    unfold addR addM
    rw [if_pos hr, if_pos hr]
    exact ⟨rfl, h⟩
  | true =>
    have R := rightB_of hr
    have hget := addM_get (i := i) hs
    have hres := addM_res (i := i) hs.srt
    rw [if_pos hr] at hres
    have hext := h.ext i.apid i.count
    have hcnt := h.cnt i.apid
    have hsrt := h.srt i.apid
    have hperm := h.perm i.apid
    obtain ⟨A, B, X, e, g1, g2, hX, hform⟩ := addM_form hs.srt hr
    have hX2 : (getP ps i.apid).length = lenP X := by
      rcases hX with ⟨rfl, q⟩ | ⟨b, rfl, -, q⟩
      · rw [q]; rfl
      · rw [q]; simp [lenP]
    have hlen : lenP (addM i ps).1 = lenP ps - (getP ps i.apid).length + (addL i (getP ps i.apid)).1.length := by
      rw [hform, e]
      show lenP (A ++ _ :: B) = _
      rw [lenP_app, lenP_cons, lenP_app, lenP_app, ← e, hX2]
      show _ + ((addL i (getP ps i.apid)).1.length + _) = _
      omega
    have hle : (getP ps i.apid).length ≤ lenP ps := by
      rw [hX2, e, lenP_app, lenP_app]; omega
    obtain ⟨xs, hxs⟩ : ∃ xs, getP ps i.apid = xs := ⟨_, rfl⟩
    rw [hxs] at hres hext hcnt hsrt hperm hlen hle
    obtain ⟨N, hN⟩ : ∃ N, extR rs i.apid i.count = N := ⟨_, rfl⟩
    have hNm : N % 16384 = i.count % 16384 := by
      rw [← hN, hext]
      split
      · rfl
      · exact ext_mod _ _
    have hAL : addL i xs = if xs.length = 0 then ([newE i N], 0) else addQ i N xs := by
      unfold addL
      rw [← hN, hext]
      by_cases c : xs.length = 0
      · rw [if_pos c, if_pos c, if_pos c]
      · rw [if_neg c, if_neg c, if_neg c]
    have hcase : (∃ x ∈ xs, x.count = N ∧ addL i xs = (xs, if x.time = i.time ∧ x.data = i.data then 9 else 4)) ∨ ((∀ x ∈ xs, x.count ≠ N) ∧ ∃ A B, xs = A ++ B ∧ (∀ x ∈ A, x.count < N) ∧ (∀ x ∈ B, N < x.count) ∧ addL i xs = (A ++ newE i N :: B, 0)) := by
      by_cases c : xs.length = 0
      · obtain rfl := List.eq_nil_of_length_eq_zero c
        right
        exact ⟨fun x hx => (by cases hx), [], [], rfl, fun x hx => (by cases hx), fun x hx => (by cases hx), hAL⟩
      · rw [hAL, if_neg c]
        exact addQ_cases i N hsrt
    have hmem : ∀ r, r ∈ rs ∧ hitB i.apid N r = true ↔ r ∈ xs.map enR ∧ r.count = N := fun r => by
      rw [← hperm.mem_iff, List.mem_filter]
      unfold hitB isA
      rw [Bool.and_eq_true, decide_eq_true_iff, decide_eq_true_iff]
      exact ⟨fun q => ⟨⟨q.1, q.2.1⟩, q.2.2⟩, fun q => ⟨q.1.1, q.1.2, q.2⟩⟩
    rcases hcase with ⟨x, hx, hxN, hal⟩ | ⟨hno, A2, B2, hAB, a1, a2, hal⟩
    · -- there already
      have hf : ∃ r, rs.find? (hitB i.apid N) = some r := by
        cases q : rs.find? (hitB i.apid N) with
        | some r => exact ⟨r, rfl⟩
        | none =>
          have := List.find?_eq_none.1 q (enR x) ((hmem _).2 ⟨List.mem_map.2 ⟨x, hx, rfl⟩, hxN⟩).1
          exact absurd ((hmem _).2 ⟨List.mem_map.2 ⟨x, hx, rfl⟩, hxN⟩).2 this
      obtain ⟨r, hf⟩ := hf
      have hr1 : r ∈ rs := List.mem_of_find?_eq_some hf
      have hr2 : hitB i.apid N r = true := List.find?_some hf
      obtain ⟨hr3, hr4⟩ := (hmem r).1 ⟨hr1, hr2⟩
      obtain ⟨y, hy, rfl⟩ := List.mem_map.1 hr3
      have hyx : y = x := by
        obtain ⟨A3, B3, e3, c1, c2⟩ := splitE xs N hsrt
        have hyN : y.count = N := hr4
        have key : ∀ z ∈ xs, z.count = N → ∃ l, B3 = z :: l := fun z hz hzN => by
          rw [e3] at hz
          rcases List.mem_append.1 hz with q | q
          · have := c1 z q; omega
          · cases B3 with
            | nil => cases q
            | cons b l =>
              rcases List.mem_cons.1 q with rfl | q
              · exact ⟨l, rfl⟩
              · have hb := c2 b (by simp)
                rw [e3] at hsrt
                have := (List.pairwise_cons.1 (List.pairwise_append.1 hsrt).2.1).1 z q
                omega
        obtain ⟨l1, q1⟩ := key y hy hyN
        obtain ⟨l2, q2⟩ := key x hx hxN
        rw [q1] at q2
        exact (List.cons.inj q2).1
      subst hyx
      have hcc := hcnt y hy
      have hsame : (sameI (itR (enR y)) i = true) ↔ (y.time = i.time ∧ y.data = i.data) := by
        rw [sameI_iff]
        constructor
        · intro q
          rw [← q]; exact ⟨rfl, rfl⟩
        · rintro ⟨q1, q2⟩
          have e1 : y.apid = i.apid := hcc.1
          have e2 : y.cnt = i.count := by rw [hcc.2, hxN]; omega
          obtain ⟨ia, ic, it, id⟩ := i
          show (⟨y.apid, y.cnt, y.time, y.data⟩ : Itm) = ⟨ia, ic, it, id⟩
          rw [e1, e2, q1, q2]
      have hadd : addR rs i = (rs, if y.time = i.time ∧ y.data = i.data then 9 else 4) := by
        unfold addR
        rw [if_neg (by rw [hr]; decide), hN, hf]
        show (rs, if sameI (itR (enR y)) i = true then (9 : Int) else 4) = _
        by_cases c : y.time = i.time ∧ y.data = i.data
        · rw [if_pos c, if_pos (hsame.2 c)]
        · rw [if_neg c, if_neg (fun q => c (hsame.1 q))]
      rw [hadd, hres, hal]
      refine ⟨rfl, ?_⟩
      have hgg : ∀ b, getP (addM i ps).1 b = getP ps b := fun b => by
        rw [hget b]
        split
        · rename_i q
          rw [← q.2, hxs, hal]
        · rfl
      exact ⟨fun b => by rw [hgg]; exact h.perm b, fun b => by rw [hgg]; exact h.srt b, fun b => by rw [hgg]; exact h.cnt b, by
        rw [hlen, hal]
        show lenP ps - xs.length + xs.length = rs.length
        have := h.len; omega⟩
    · -- a new one
      have hf : rs.find? (hitB i.apid N) = none := List.find?_eq_none.2 fun r hr1 hr2 => by
        obtain ⟨q1, q2⟩ := (hmem r).1 ⟨hr1, hr2⟩
        obtain ⟨y, hy, rfl⟩ := List.mem_map.1 q1
        exact hno y hy q2
      have hadd : addR rs i = (rs ++ [newR i N], 0) := by
        unfold addR
        rw [if_neg (by rw [hr]; decide), hN, hf]
      rw [hadd, hres, hal]
      refine ⟨rfl, ?_⟩
      have hgi : getP (addM i ps).1 i.apid = A2 ++ newE i N :: B2 := by
        rw [hget, if_pos ⟨hr, rfl⟩, hxs, hal]
      have hgo : ∀ b, i.apid ≠ b → getP (addM i ps).1 b = getP ps b := fun b hb => by
        rw [hget, if_neg (fun q => hb q.2)]
      have hni : isA i.apid (newR i N) = true := isA_iff.2 rfl
      refine ⟨fun b => ?_, fun b => ?_, fun b => ?_, ?_⟩
      · by_cases hb : i.apid = b
        · subst hb
          rw [hgi, List.filter_append]
          show (rs.filter (isA i.apid) ++ List.filter (isA i.apid) [newR i N]).Perm _
          rw [List.filter_cons_of_pos hni]
          show (rs.filter (isA i.apid) ++ [newR i N]).Perm ((A2 ++ newE i N :: B2).map enR)
          refine (List.perm_append_comm).trans ?_
          have e5 : (A2 ++ newE i N :: B2).map enR = A2.map enR ++ newR i N :: B2.map enR := by rw [List.map_append]; rfl
          rw [e5]
          refine List.Perm.trans ?_ List.perm_middle.symm
          refine List.Perm.cons _ ?_
          rw [← List.map_append, ← hAB]
          exact hperm
        · rw [hgo b hb, List.filter_append]
          have hnb : isA b (newR i N) = false := by
            cases q : isA b (newR i N) with
            | true => exact absurd (isA_iff.1 q) hb
            | false => rfl
          show (rs.filter (isA b) ++ List.filter (isA b) [newR i N]).Perm _
          rw [List.filter_cons_of_neg (by rw [hnb]; decide)]
          show (rs.filter (isA b) ++ []).Perm _
          rw [List.append_nil]
          exact h.perm b
      · by_cases hb : i.apid = b
        · subst hb
          rw [hgi]
          rw [hAB] at hsrt
          have s1 := List.pairwise_append.1 hsrt
          refine List.pairwise_append.2 ⟨s1.1, List.pairwise_cons.2 ⟨fun x hx => a2 x hx, s1.2.1⟩, fun x hx y hy => ?_⟩
          have h1 := a1 x hx
          rcases List.mem_cons.1 hy with rfl | hy
          · exact h1
          · exact s1.2.2 x hx y hy
        · rw [hgo b hb]; exact h.srt b
      · by_cases hb : i.apid = b
        · subst hb
          rw [hgi]
          intro x hx
          have hx2 : x = newE i N ∨ x ∈ xs := by
            rw [hAB]
            rcases List.mem_append.1 hx with q | q
            · exact .inr (List.mem_append.2 (.inl q))
            · rcases List.mem_cons.1 q with q | q
              · exact .inl q
              · exact .inr (List.mem_append.2 (.inr q))
          rcases hx2 with rfl | hx2
          · refine ⟨rfl, ?_⟩
            show i.count = N % 16384
            rw [hNm]; omega
          · exact hcnt x hx2
        · rw [hgo b hb]; exact h.cnt b
      · rw [hlen, hal]
        show lenP ps - xs.length + (A2 ++ newE i N :: B2).length = (rs ++ [newR i N]).length
        have := h.len
        have hx3 : xs.length = A2.length + B2.length := by rw [hAB, List.length_append]
        rw [List.length_append, List.length_cons, List.length_append]
        show _ = rs.length + 1
        omega
theorem Agree.nil : Agree [] [] := ⟨fun a => .refl _, fun a => .nil, fun a x hx => (by cases hx), rfl⟩
end Go.V

set_option maxRecDepth 100000
set_option maxHeartbeats 8000000
namespace Go.V
open Go.Proofs
attribute [-go_sem] AE AO
def aK (l : List Itm) : Nat → List Prc
  | 0 => []
  | k + 1 => (addM (l.getD k Itm.zero) (aK l k)).1
theorem aK_ok (l : List Itm) : ∀ k, StP (aK l k) k
  | 0 => .nil
  | k + 1 => addM_ok (aK_ok l k)
theorem StP.mono {ps : List Prc} {n : Nat} (h : StP ps n) : StP ps (n + 1) := ⟨h.srt, by have := h.len; omega, fun p hp => (h.all p hp).mono⟩
end Go.V

set_option maxRecDepth 100000
set_option maxHeartbeats 8000000
namespace Go.V
open Go.Proofs
attribute [-go_sem] AE AO
def rK (l : List Itm) : Nat → List REnt
  | 0 => []
  | k + 1 => (addR (rK l k) (l.getD k Itm.zero)).1
theorem ag_K (l : List Itm) : ∀ k, Agree (aK l k) (rK l k)
  | 0 => .nil
  | k + 1 => ((ag_K l k).add (aK_ok l k) (l.getD k Itm.zero)).2
theorem rK_len (l : List Itm) : ∀ k, (rK l k).length ≤ k
  | 0 => Nat.le_refl 0
  | k + 1 => by
    have ih := rK_len l k
    show ((addR (rK l k) (l.getD k Itm.zero)).1).length ≤ k + 1
    unfold addR
    split
    · show (rK l k).length ≤ k + 1; omega
    · split
      · show (rK l k).length ≤ k + 1; omega
      · show (rK l k ++ [_]).length ≤ k + 1
        rw [List.length_append]
        show (rK l k).length + 1 ≤ k + 1
        omega
theorem rK_ok (l : List Itm) {k : Nat} (hk : k ≤ 1000) : okR (rK l k) := by
  refine ⟨by have := rK_len l k; omega, fun j => ?_⟩
  by_cases c : j < (rK l k).length
  · have hm : (rK l k).getD j REnt.zero ∈ rK l k := by
      rw [List.getD_eq_getElem?_getD, List.getElem?_eq_getElem c]; exact List.getElem_mem c
    obtain ⟨r, hr⟩ : ∃ r, (rK l k).getD j REnt.zero = r := ⟨_, rfl⟩
    rw [hr] at hm ⊢
    have hf : r ∈ (rK l k).filter (isA r.apid) := List.mem_filter.2 ⟨hm, isA_iff.2 rfl⟩
    obtain ⟨x, hx, rfl⟩ := List.mem_map.1 (((ag_K l k).perm r.apid).mem_iff.1 hf)
    rcases (aK_ok l k).get (enR x).apid with q | q
    · rw [q.1] at hx; cases hx
    · have := q.1.all x hx
      show -1099511627776 ≤ x.count ∧ x.count ≤ 1099511627776
      omega
  · rw [List.getD_eq_getElem?_getD, List.getElem?_eq_none (by omega)]
    exact ⟨by decide, by decide⟩
theorem StP.okCl {ps : List Prc} {n : Nat} (h : StP ps n) (hn : n ≤ 10000) : okCl ps := by
  have hmem : ∀ i, i < ps.length → pAt ps i ∈ ps := fun i hi => by
    show ps.getD i Prc.zero ∈ ps
    rw [List.getD_eq_getElem?_getD, List.getElem?_eq_getElem hi]; exact List.getElem_mem hi
  refine ⟨by have := h.len; omega, fun i hi => by have := (h.all _ (hmem i hi)).len; omega, fun i k => ?_⟩
  by_cases c : i < ps.length
  · by_cases c2 : k < (pAt ps i).list.length
    · have := ((h.all _ (hmem i c)).all _ (eAt_mem c2)).2
      exact Nat.le_trans this (by decide)
    · rw [List.getD_eq_getElem?_getD, List.getElem?_eq_none (by omega)]; exact Nat.zero_le _
  · have : pAt ps i = Prc.zero := by
      show ps.getD i Prc.zero = _
      rw [List.getD_eq_getElem?_getD, List.getElem?_eq_none (by omega)]; rfl
    rw [this]
    exact Nat.zero_le _
end Go.V

set_option maxRecDepth 100000
namespace Go.V
/-- the same of each key, in the same order -/
def KE (f : Itm → Int) (xs ys : List Itm) : Prop := ∀ k, xs.filter (fun a => decide (f a = k)) = ys.filter fun a => decide (f a = k)
theorem KE.refl {f : Itm → Int} {xs : List Itm} : KE f xs xs := fun _ => rfl
theorem KE.symm {f : Itm → Int} {xs ys : List Itm} (h : KE f xs ys) : KE f ys xs := fun k => (h k).symm
theorem KE.trans {f : Itm → Int} {xs ys zs : List Itm} (h : KE f xs ys) (g : KE f ys zs) : KE f xs zs := fun k => (h k).trans (g k)
theorem KE.app {f : Itm → Int} {xs ys xs' ys' : List Itm} (h : KE f xs ys) (g : KE f xs' ys') : KE f (xs ++ xs') (ys ++ ys') := fun k => by rw [List.filter_append, List.filter_append, h k, g k]
theorem KE.mem {f : Itm → Int} {xs ys : List Itm} (h : KE f xs ys) {a : Itm} (ha : a ∈ xs) : a ∈ ys := by
  have := h (f a)
  have h1 : a ∈ xs.filter fun b => decide (f b = f a) := List.mem_filter.2 ⟨ha, by simp⟩
  rw [this] at h1
  exact (List.mem_filter.1 h1).1
theorem KE.cancel {f : Itm → Int} {a b xs ys : List Itm} (h : KE f (a ++ xs ++ b) (a ++ ys ++ b)) : KE f xs ys := fun k => by
  have := h k
  rw [List.filter_append, List.filter_append, List.filter_append, List.filter_append] at this
  exact List.append_cancel_left (List.append_cancel_right this)
theorem KE.cons {f : Itm → Int} {a : Itm} {xs ys : List Itm} (h : KE f xs ys) : KE f (a :: xs) (a :: ys) := KE.app (xs := [a]) (ys := [a]) KE.refl h
theorem KE.two {f : Itm → Int} {u v : Itm} {B : List Itm} (h : f u ≠ f v) : KE f (u :: v :: B) (v :: u :: B) := fun k => by
  by_cases hu : f u = k
  · have hv : f v ≠ k := fun e => h (hu.trans e.symm)
    simp [List.filter_cons, hu, hv]
  · simp only [List.filter_cons, hu, decide_false, Bool.false_eq_true, if_false]
/-- two neighbours change places -/
def swA (k : Nat) (zs : List Itm) : List Itm := (zs.set (k + 1) (zs.getD k Itm.zero)).set k (zs.getD (k + 1) Itm.zero)
theorem swA_cons {k : Nat} {x : Itm} {zs : List Itm} : swA (k + 1) (x :: zs) = x :: swA k zs := by unfold swA; simp
theorem KE_swap {f : Itm → Int} : ∀ {k : Nat} {zs : List Itm}, k + 1 < zs.length → f (zs.getD k Itm.zero) ≠ f (zs.getD (k + 1) Itm.zero) → KE f zs (swA k zs)
  | 0, [], h, _ => by simp at h
  | 0, [_], h, _ => by simp at h
  | 0, u :: v :: B, _, hk => KE.two hk
  | k + 1, [], h, _ => by simp at h
  | k + 1, x :: zs, h, hk => by
    rw [swA_cons]
    exact KE.cons (KE_swap (by simpa using h) (by simpa using hk))
theorem swA_len {k : Nat} {zs : List Itm} : (swA k zs).length = zs.length := by unfold swA; simp
theorem swA_get {k : Nat} {zs : List Itm} (h : k + 1 < zs.length) (i : Nat) : (swA k zs).getD i Itm.zero = if i = k then zs.getD (k + 1) Itm.zero else if i = k + 1 then zs.getD k Itm.zero else zs.getD i Itm.zero := by
  unfold swA
  by_cases e1 : i = k
  · subst e1
    rw [if_pos rfl, List.getD_eq_getElem?_getD, List.getElem?_set_self (by rw [List.length_set]; omega)]; rfl
  · rw [if_neg e1, List.getD_eq_getElem?_getD, List.getElem?_set_ne (by omega)]
    by_cases e2 : i = k + 1
    · subst e2
      rw [if_pos rfl, List.getElem?_set_self h]; rfl
    · rw [if_neg e2, List.getElem?_set_ne (by omega), List.getD_eq_getElem?_getD]
/-- insertion of one ahead of its equals -/
def insK (f : Itm → Int) (x : Itm) : List Itm → List Itm
  | [] => [x]
  | y :: ys => if f x ≤ f y then x :: y :: ys else y :: insK f x ys
def srt (f : Itm → Int) : List Itm → List Itm
  | [] => []
  | x :: xs => insK f x (srt f xs)
def Srt (f : Itm → Int) (l : List Itm) : Prop := l.Pairwise fun a b => f a ≤ f b
theorem insK_KE {f : Itm → Int} {x : Itm} : ∀ {l : List Itm}, KE f (insK f x l) (x :: l)
  | [] => KE.refl
  | y :: ys => by
    unfold insK
    split
    · exact KE.refl
    · exact (KE.cons insK_KE).trans (KE.two (by omega))
theorem srt_KE {f : Itm → Int} : ∀ {l : List Itm}, KE f (srt f l) l
  | [] => KE.refl
  | _ :: _ => insK_KE.trans (KE.cons srt_KE)
theorem insK_Srt {f : Itm → Int} {x : Itm} : ∀ {l : List Itm}, Srt f l → Srt f (insK f x l)
  | [], _ => List.pairwise_singleton ..
  | y :: ys, h => by
    have h' := List.pairwise_cons.1 h
    unfold insK
    split
    · refine List.pairwise_cons.2 ⟨fun b hb => ?_, h⟩
      rcases List.mem_cons.1 hb with rfl | hb
      · assumption
      · have := h'.1 b hb; omega
    · refine List.pairwise_cons.2 ⟨fun b hb => ?_, insK_Srt h'.2⟩
      rcases List.mem_cons.1 (KE.mem insK_KE hb) with rfl | hb
      · omega
      · exact h'.1 b hb
theorem srt_Srt {f : Itm → Int} : ∀ {l : List Itm}, Srt f (srt f l)
  | [] => List.Pairwise.nil
  | _ :: _ => insK_Srt srt_Srt
theorem srt_uniq {f : Itm → Int} : ∀ {xs ys : List Itm}, Srt f xs → Srt f ys → KE f xs ys → xs = ys
  | [], [], _, _, _ => rfl
  | [], y :: ys, _, _, h => absurd (h.symm.mem (List.mem_cons_self)) (by simp)
  | x :: xs, [], _, _, h => absurd (h.mem (List.mem_cons_self)) (by simp)
  | x :: xs, y :: ys, hx, hy, h => by
    have hx' := List.pairwise_cons.1 hx
    have hy' := List.pairwise_cons.1 hy
    have e1 : f y ≤ f x := by
      rcases List.mem_cons.1 (h.mem (List.mem_cons_self (a := x))) with e | e
      · rw [e]; exact Int.le_refl _
      · exact hy'.1 _ e
    have e2 : f x ≤ f y := by
      rcases List.mem_cons.1 (h.symm.mem (List.mem_cons_self (a := y))) with e | e
      · rw [e]; exact Int.le_refl _
      · exact hx'.1 _ e
    have e : f x = f y := by omega
    have hk := h (f x)
    rw [List.filter_cons, List.filter_cons, if_pos (by simp), if_pos (by simp [e])] at hk
    obtain ⟨exy, _⟩ := List.cons.inj hk
    subst exy
    rw [srt_uniq hx'.2 hy'.2 (KE.cancel (a := [x]) (b := []) (by simpa using h))]
/-- the part from a to b is sorted, the rest stays -/
def srtR (f : Itm → Int) (a b : Nat) (xs : List Itm) : List Itm := xs.take a ++ srt f ((xs.take b).drop a) ++ xs.drop b
theorem cut3I {a b : Nat} {xs : List Itm} (hab : a ≤ b) : xs.take a ++ (xs.take b).drop a ++ xs.drop b = xs := by
  have e : xs.take a = (xs.take b).take a := by rw [List.take_take, Nat.min_eq_left hab]
  rw [e, List.take_append_drop, List.take_append_drop]
theorem srtR_uniq {f : Itm → Int} {a b : Nat} {xs zs : List Itm} (hab : a ≤ b) (hl : zs.length = xs.length) (hk : KE f xs zs) (h1 : zs.take a = xs.take a) (h2 : zs.drop b = xs.drop b)
    (hs : ∀ p q, a ≤ p → p < q → q < b → q < zs.length → f (zs.getD p Itm.zero) ≤ f (zs.getD q Itm.zero)) : zs = srtR f a b xs := by
  have hS : Srt f ((zs.take b).drop a) := by
    refine List.pairwise_iff_getElem.2 fun i j hi hj hij => ?_
    rw [List.length_drop, List.length_take] at hj
    have := hs (a + i) (a + j) (by omega) (by omega) (by omega) (by omega)
    rw [List.getElem_drop, List.getElem_take, List.getElem_drop, List.getElem_take]
    rw [List.getD_eq_getElem?_getD, List.getD_eq_getElem?_getD, List.getElem?_eq_getElem (by omega), List.getElem?_eq_getElem (by omega)] at this
    exact this
  have hK : KE f ((xs.take b).drop a) ((zs.take b).drop a) := by
    refine KE.cancel (a := xs.take a) (b := xs.drop b) ?_
    rw [cut3I hab]
    conv => rhs; rw [← h1, ← h2, cut3I hab]
    exact hk
  unfold srtR
  rw [srt_uniq srt_Srt hS (srt_KE.trans hK), ← h1, ← h2, cut3I hab]
end Go.V

namespace Go.V
/-- two blocks with no key in common change places -/
theorem KE_rot {f : Itm → Int} {U V : List Itm} (h : ∀ u ∈ U, ∀ v ∈ V, f u ≠ f v) : KE f (U ++ V) (V ++ U) := fun k => by
  rw [List.filter_append, List.filter_append]
  by_cases c : ∃ u ∈ U, f u = k
  · obtain ⟨u, hu, hk⟩ := c
    have e : V.filter (fun a => decide (f a = k)) = [] := List.filter_eq_nil_iff.2 fun v hv => by
      have := h u hu v hv
      simp only [decide_eq_true_eq]
      omega
    rw [e, List.append_nil, List.nil_append]
  · have e : U.filter (fun a => decide (f a = k)) = [] := List.filter_eq_nil_iff.2 fun u hu => by
      simp only [decide_eq_true_eq]
      exact fun q => c ⟨u, hu, q⟩
    rw [e, List.append_nil, List.nil_append]
theorem KE_rot3 {f : Itm → Int} {A U V B : List Itm} (h : ∀ u ∈ U, ∀ v ∈ V, f u ≠ f v) : KE f (A ++ U ++ V ++ B) (A ++ V ++ U ++ B) := by
  rw [List.append_assoc A U V, List.append_assoc A V U]
  exact KE.app (KE.app KE.refl (KE_rot h)) KE.refl
/-- places a+k and b+k change their contents, k below n -/
def swR (a b : Nat) : Nat → List Itm → List Itm
  | 0, xs => xs
  | k + 1, xs => ((swR a b k xs).set (a + k) ((swR a b k xs).getD (b + k) Itm.zero)).set (b + k) ((swR a b k xs).getD (a + k) Itm.zero)
theorem swR_len {a b : Nat} : ∀ {k : Nat} {xs : List Itm}, (swR a b k xs).length = xs.length
  | 0, _ => rfl
  | k + 1, xs => by rw [swR, List.length_set, List.length_set, swR_len]
theorem getD_setI {xs : List Itm} {p i : Nat} {y : Itm} (hp : p < xs.length) : (xs.set p y).getD i Itm.zero = if i = p then y else xs.getD i Itm.zero := by
  rw [List.getD_eq_getElem?_getD]
  by_cases e : i = p
  · rw [if_pos e, e, List.getElem?_set_self hp]; rfl
  · rw [if_neg e, List.getElem?_set_ne (fun q => e q.symm), List.getD_eq_getElem?_getD]
theorem swR_get {a b : Nat} : ∀ {k : Nat} {xs : List Itm}, a + k ≤ b → b + k ≤ xs.length → ∀ i, (swR a b k xs).getD i Itm.zero = if a ≤ i ∧ i < a + k then xs.getD (b + (i - a)) Itm.zero else if b ≤ i ∧ i < b + k then xs.getD (a + (i - b)) Itm.zero else xs.getD i Itm.zero
  | 0, xs, _, _, i => by rw [if_neg (by omega), if_neg (by omega)]; rfl
  | k + 1, xs, h1, h2, i => by
    have hl := swR_len (a := a) (b := b) (k := k) (xs := xs)
    have ih := swR_get (a := a) (b := b) (k := k) (xs := xs) (by omega) (by omega)
    rw [swR, getD_setI (by rw [List.length_set]; omega), getD_setI (by omega)]
    by_cases e1 : i = b + k
    · rw [if_pos e1, ih, if_neg (by omega), if_neg (by omega), if_neg (by omega), if_pos (by omega)]
      congr 1; omega
    · rw [if_neg e1]
      by_cases e2 : i = a + k
      · rw [if_pos e2, ih, if_neg (by omega), if_neg (by omega), if_pos (by omega)]
        congr 1; omega
      · rw [if_neg e2, ih]
        by_cases c1 : a ≤ i ∧ i < a + k
        · rw [if_pos c1, if_pos (by omega)]
        · rw [if_neg c1]
          by_cases c2 : b ≤ i ∧ i < b + k
          · rw [if_pos c2, if_neg (by omega), if_pos (by omega)]
          · rw [if_neg c2, if_neg (by omega), if_neg (by omega)]
end Go.V

namespace Go.V
theorem getD_appI {A B : List Itm} {i : Nat} : (A ++ B).getD i Itm.zero = if i < A.length then A.getD i Itm.zero else B.getD (i - A.length) Itm.zero := by
  rw [List.getD_eq_getElem?_getD]
  by_cases h : i < A.length
  · rw [if_pos h, List.getElem?_append_left h, List.getD_eq_getElem?_getD]
  · rw [if_neg h, List.getElem?_append_right (by omega), List.getD_eq_getElem?_getD]
theorem ext_getDI {A B : List Itm} (hl : A.length = B.length) (h : ∀ i, i < A.length → A.getD i Itm.zero = B.getD i Itm.zero) : A = B := by
  refine List.ext_getElem hl fun i h1 h2 => ?_
  have := h i h1
  rw [List.getD_eq_getElem?_getD, List.getD_eq_getElem?_getD, List.getElem?_eq_getElem h1, List.getElem?_eq_getElem h2] at this
  exact this
/-- two blocks of the same length change places -/
theorem swR_list {A X M Y B : List Itm} (h : X.length = Y.length) : swR A.length (A.length + X.length + M.length) X.length (A ++ X ++ M ++ Y ++ B) = A ++ Y ++ M ++ X ++ B := by
  refine ext_getDI (by rw [swR_len]; simp only [List.length_append]; omega) fun i hi => ?_
  rw [swR_len] at hi
  simp only [List.length_append] at hi
  rw [swR_get (by omega) (by simp only [List.length_append]; omega)]
  simp only [getD_appI, List.length_append]
  by_cases c1 : i < A.length
  · rw [if_neg (by omega), if_neg (by omega)]
    simp only [c1, show i < A.length + X.length by omega, show i < A.length + Y.length by omega, show i < A.length + X.length + M.length by omega, show i < A.length + Y.length + M.length by omega, show i < A.length + X.length + M.length + Y.length by omega, show i < A.length + Y.length + M.length + X.length by omega, if_true]
  by_cases c2 : i < A.length + X.length
  · rw [if_pos (by omega)]
    simp only [show ¬ (A.length + X.length + M.length + (i - A.length)) < A.length by omega, show ¬ (A.length + X.length + M.length + (i - A.length)) < A.length + X.length by omega, show ¬ (A.length + X.length + M.length + (i - A.length)) < A.length + X.length + M.length by omega, show (A.length + X.length + M.length + (i - A.length)) < A.length + X.length + M.length + Y.length by omega, c1, show i < A.length + Y.length by omega, show i < A.length + Y.length + M.length by omega, show i < A.length + Y.length + M.length + X.length by omega, if_true, if_false]
    congr 1; omega
  rw [if_neg (by omega)]
  by_cases c3 : i < A.length + X.length + M.length
  · rw [if_neg (by omega)]
    simp only [c1, c2, c3, show ¬ i < A.length + Y.length by omega, show i < A.length + Y.length + M.length by omega, show i < A.length + X.length + M.length + Y.length by omega, show i < A.length + Y.length + M.length + X.length by omega, if_true, if_false]
    congr 1; omega
  by_cases c4 : i < A.length + X.length + M.length + Y.length
  · rw [if_pos (by omega)]
    simp only [show ¬ (A.length + (i - (A.length + X.length + M.length))) < A.length by omega, show (A.length + (i - (A.length + X.length + M.length))) < A.length + X.length by omega, show (A.length + (i - (A.length + X.length + M.length))) < A.length + X.length + M.length by omega, show (A.length + (i - (A.length + X.length + M.length))) < A.length + X.length + M.length + Y.length by omega, c1, show ¬ i < A.length + Y.length by omega, show ¬ i < A.length + Y.length + M.length by omega, show i < A.length + Y.length + M.length + X.length by omega, if_true, if_false]
    congr 1; omega
  · rw [if_neg (by omega)]
    simp only [c1, c2, c3, c4, show ¬ i < A.length + Y.length by omega, show ¬ i < A.length + Y.length + M.length by omega, show ¬ i < A.length + Y.length + M.length + X.length by omega, if_false]
    congr 1; omega
end Go.V

namespace Go.V
theorem srt_congrK {f : Itm → Int} {xs ys : List Itm} (h : KE f xs ys) : srt f xs = srt f ys := srt_uniq srt_Srt srt_Srt ((srt_KE.trans h).trans srt_KE.symm)
theorem srt_id {f : Itm → Int} {xs : List Itm} (h : Srt f xs) : srt f xs = xs := srt_uniq srt_Srt h srt_KE
theorem srt_lenK {f : Itm → Int} : ∀ {l : List Itm}, (srt f l).length = l.length
  | [] => rfl
  | x :: xs => by
    have : ∀ {x : Itm} {l : List Itm}, (insK f x l).length = l.length + 1 := by
      intro x l
      induction l with
      | nil => rfl
      | cons y ys ih =>
        unfold insK
        split
        · rfl
        · simp [ih]
    rw [srt, this, srt_lenK]; rfl
theorem Srt_app {f : Itm → Int} {L R : List Itm} : Srt f (L ++ R) ↔ Srt f L ∧ Srt f R ∧ ∀ u ∈ L, ∀ v ∈ R, f u ≤ f v := List.pairwise_append
theorem srt_two {f : Itm → Int} {L R : List Itm} (h : ∀ u ∈ L, ∀ v ∈ R, f u ≤ f v) : srt f (L ++ R) = srt f L ++ srt f R :=
  srt_uniq srt_Srt (Srt_app.2 ⟨srt_Srt, srt_Srt, fun u hu v hv => h u (srt_KE.mem hu) v (srt_KE.mem hv)⟩) (srt_KE.trans (KE.app srt_KE srt_KE).symm)
theorem sym_list {f : Itm → Int} {L1 U V L2 : List Itm} (h1 : Srt f (L1 ++ U)) (h2 : Srt f (V ++ L2)) (h3 : ∀ u ∈ U, ∀ v ∈ V, f v < f u) (h4 : ∀ u ∈ L1, ∀ v ∈ L2, f u ≤ f v) : srt f (L1 ++ U ++ V ++ L2) = srt f (L1 ++ V) ++ srt f (U ++ L2) := by
  have hk := KE_rot3 (f := f) (A := L1) (U := U) (V := V) (B := L2) fun u hu v hv => by have := h3 u hu v hv; omega
  rw [srt_congrK hk, List.append_assoc (L1 ++ V)]
  refine srt_two fun u hu v hv => ?_
  rcases List.mem_append.1 hu with hu | hu <;> rcases List.mem_append.1 hv with hv | hv
  · exact (Srt_app.1 h1).2.2 u hu v hv
  · exact h4 u hu v hv
  · have := h3 v hv u hu; omega
  · exact (Srt_app.1 h2).2.2 u hu v hv
theorem srtR_app {f : Itm → Int} {A M B : List Itm} {a b : Nat} (ha : a = A.length) (hb : b = A.length + M.length) : srtR f a b (A ++ M ++ B) = A ++ srt f M ++ B := by
  subst ha; subst hb
  have e1 : (A ++ M ++ B).take A.length = A := by rw [List.append_assoc, List.take_left']; rfl
  have e2 : (A ++ M ++ B).take (A.length + M.length) = A ++ M := by rw [List.take_left']; simp
  have e3 : (A ++ M ++ B).drop (A.length + M.length) = B := by rw [List.drop_left']; simp
  unfold srtR
  rw [e1, e2, e3, List.drop_left']; rfl
/-- a part of a list, cut out -/
theorem part_app {A M B : List Itm} {a b : Nat} (ha : a = A.length) (hb : b = A.length + M.length) : ((A ++ M ++ B).take b).drop a = M := by
  subst ha; subst hb
  have e2 : (A ++ M ++ B).take (A.length + M.length) = A ++ M := by rw [List.take_left']; simp
  rw [e2, List.drop_left']; rfl
theorem getD_memI {xs : List Itm} {i : Nat} (h : i < xs.length) : xs.getD i Itm.zero ∈ xs := by
  rw [List.getD_eq_getElem?_getD, List.getElem?_eq_getElem h]
  exact List.getElem_mem h
theorem Srt_ix {f : Itm → Int} {a b : Nat} {xs : List Itm} (h : Srt f ((xs.take b).drop a)) (hb : b ≤ xs.length) {u v : Nat} (h1 : a ≤ u) (h2 : u < v) (h3 : v < b) : f (xs.getD u Itm.zero) ≤ f (xs.getD v Itm.zero) := by
  have hl : ((xs.take b).drop a).length = b - a := by rw [List.length_drop, List.length_take]; omega
  have := List.pairwise_iff_getElem.1 h (u - a) (v - a) (by omega) (by omega) (by omega)
  simp only [List.getElem_drop, List.getElem_take] at this
  have q : ∀ i, a ≤ i → (hi : i < xs.length) → (hj : a + (i - a) < xs.length) → xs[a + (i - a)] = xs.getD i Itm.zero := fun i hi hi' hj => by
    rw [List.getD_eq_getElem?_getD, List.getElem?_eq_getElem hi', Option.getD_some]
    congr 1; omega
  rw [q u h1 (by omega), q v (by omega) (by omega)] at this
  exact this
theorem Srt_ix' {f : Itm → Int} {a b : Nat} {xs : List Itm} (h : Srt f ((xs.take b).drop a)) (hb : b ≤ xs.length) {u v : Nat} (h1 : a ≤ u) (h2 : u ≤ v) (h3 : v < b) : f (xs.getD u Itm.zero) ≤ f (xs.getD v Itm.zero) := by
  rcases Nat.lt_or_ge u v with q | q
  · exact Srt_ix h hb h1 q h3
  · obtain rfl : u = v := by omega
    exact Int.le_refl _
theorem mem_part {a b : Nat} {xs : List Itm} {u : Itm} (hb : b ≤ xs.length) (h : u ∈ (xs.take b).drop a) : ∃ i, a ≤ i ∧ i < b ∧ xs.getD i Itm.zero = u := by
  obtain ⟨i, hi, e⟩ := List.getElem_of_mem h
  rw [List.length_drop, List.length_take] at hi
  rw [List.getElem_drop, List.getElem_take] at e
  exact ⟨a + i, by omega, by omega, by rw [List.getD_eq_getElem?_getD, List.getElem?_eq_getElem (by omega)]; exact e⟩
theorem part_cut {a m b : Nat} {xs : List Itm} (h1 : a ≤ m) (h2 : m ≤ b) : (xs.take b).drop a = (xs.take m).drop a ++ (xs.take b).drop m := by
  have e : (xs.take m).drop a = ((xs.take b).drop a).take (m - a) := by
    rw [List.take_drop, List.take_take, Nat.min_eq_left (by omega), Nat.add_sub_cancel' h1]
  have e2 : (xs.take b).drop m = ((xs.take b).drop a).drop (m - a) := by
    rw [List.drop_drop, Nat.add_sub_cancel' h1]
  rw [e, e2, List.take_append_drop]
/-- what remains to do behind the rotation -/
theorem sym_pack {f : Itm → Int} {xs : List Itm} {a m b c s e : Nat} (q1 : a ≤ s) (q2 : s ≤ m) (q3 : m ≤ e) (q4 : e ≤ b) (q5 : b ≤ xs.length) (hc : c + m = s + e)
    (h1 : Srt f ((xs.take m).drop a)) (h2 : Srt f ((xs.take b).drop m)) (h3 : s < m → m < e → f (xs.getD (e - 1) Itm.zero) < f (xs.getD s Itm.zero)) (h4 : a < s → e < b → f (xs.getD (s - 1) Itm.zero) ≤ f (xs.getD e Itm.zero)) :
    ∃ ys, xs.take s ++ (xs.take e).drop m ++ (xs.take m).drop s ++ xs.drop e = ys ∧ (s = m ∨ m = e → ys = xs) ∧ ys.length = xs.length ∧ KE f xs ys ∧ Srt f ((ys.take s).drop a) ∧ Srt f ((ys.take c).drop s) ∧ (s = a ∨ s = c → srtR f a c ys = ys) ∧
    ∃ ws, srtR f a c ys = ws ∧ ws.length = xs.length ∧ KE f xs ws ∧ Srt f ((ws.take e).drop c) ∧ Srt f ((ws.take b).drop e) ∧ (e = c ∨ e = b → srtR f c b ws = ws) ∧ srtR f c b ws = srtR f a b xs := by
  have c1 := part_cut (xs := xs) q1 q2
  have c2 := part_cut (xs := xs) q3 q4
  obtain ⟨A, hA⟩ : ∃ A, xs.take a = A := ⟨_, rfl⟩
  obtain ⟨L1, hL1⟩ : ∃ A, (xs.take s).drop a = A := ⟨_, rfl⟩
  obtain ⟨U, hU⟩ : ∃ A, (xs.take m).drop s = A := ⟨_, rfl⟩
  obtain ⟨V, hV⟩ : ∃ A, (xs.take e).drop m = A := ⟨_, rfl⟩
  obtain ⟨L2, hL2⟩ : ∃ A, (xs.take b).drop e = A := ⟨_, rfl⟩
  obtain ⟨B, hB⟩ : ∃ A, xs.drop b = A := ⟨_, rfl⟩
  have lA : A.length = a := by rw [← hA, List.length_take]; omega
  have lL1 : L1.length = s - a := by rw [← hL1, List.length_drop, List.length_take]; omega
  have lU : U.length = m - s := by rw [← hU, List.length_drop, List.length_take]; omega
  have lV : V.length = e - m := by rw [← hV, List.length_drop, List.length_take]; omega
  have lL2 : L2.length = b - e := by rw [← hL2, List.length_drop, List.length_take]; omega
  have k3 : ∀ u ∈ U, ∀ v ∈ V, f v < f u := fun u hu v hv => by
    rw [← hU] at hu; rw [← hV] at hv
    obtain ⟨i, i1, i2, rfl⟩ := mem_part (by omega) hu
    obtain ⟨j, j1, j2, rfl⟩ := mem_part (by omega) hv
    have := h3 (by omega) (by omega)
    have w1 := Srt_ix' h1 (by omega) (u := s) (v := i) q1 i1 i2
    have w2 := Srt_ix' h2 q5 (u := j) (v := e - 1) j1 (by omega) (by omega)
    omega
  have k4 : ∀ u ∈ L1, ∀ v ∈ L2, f u ≤ f v := fun u hu v hv => by
    rw [← hL1] at hu; rw [← hL2] at hv
    obtain ⟨i, i1, i2, rfl⟩ := mem_part (by omega) hu
    obtain ⟨j, j1, j2, rfl⟩ := mem_part q5 hv
    have := h4 (by omega) (by omega)
    have w1 := Srt_ix' h1 (by omega) (u := i) (v := s - 1) i1 (by omega) (by omega)
    have w2 := Srt_ix' h2 q5 (u := e) (v := j) (by omega) j1 j2
    omega
  rw [c1, hL1, hU] at h1
  rw [c2, hV, hL2] at h2
  have hs : xs.take s = A ++ L1 := by
    have := part_cut (xs := xs) (a := 0) (m := a) (b := s) (by omega) q1
    rw [List.drop_zero, List.drop_zero, hA, hL1] at this
    exact this
  have he : xs.drop e = L2 ++ B := by
    have e1 := cut3I (xs := xs) q4
    have e2 := List.take_append_drop e xs
    rw [hL2, hB, List.append_assoc] at e1
    exact List.append_cancel_left (e2.trans e1.symm)
  have hm : xs.take m = A ++ L1 ++ U := by
    have := part_cut (xs := xs) (a := 0) (m := s) (b := m) (by omega) q2
    rw [List.drop_zero, List.drop_zero, hs, hU] at this
    exact this
  have hxs : xs = A ++ (L1 ++ U ++ V ++ L2) ++ B := by
    have e2 := List.take_append_drop e xs
    have := part_cut (xs := xs) (a := 0) (m := m) (b := e) (by omega) q3
    rw [List.drop_zero, List.drop_zero, hm, hV] at this
    rw [this, he] at e2
    rw [← e2]
    simp only [List.append_assoc]
  have hys : A ++ L1 ++ V ++ U ++ (L2 ++ B) = A ++ (L1 ++ V) ++ (U ++ L2 ++ B) := by simp only [List.append_assoc]
  have hkr := KE_rot3 (f := f) (A := A ++ L1) (U := U) (V := V) (B := L2 ++ B) fun u hu v hv => by have := k3 u hu v hv; omega
  have e0 : A ++ L1 ++ U ++ V ++ (L2 ++ B) = xs := by rw [hxs]; simp only [List.append_assoc]
  rw [e0] at hkr
  have p1 := Srt_app.1 h1
  have p2 := Srt_app.1 h2
  rw [hs, hV, hU, he]
  have eS : srtR f a c (A ++ L1 ++ V ++ U ++ (L2 ++ B)) = A ++ srt f (L1 ++ V) ++ (U ++ L2 ++ B) := by
    rw [hys]; exact srtR_app lA.symm (by rw [List.length_append]; omega)
  have lS : (srt f (L1 ++ V)).length = c - a := by rw [srt_lenK, List.length_append]; omega
  have eT : A ++ srt f (L1 ++ V) ++ (U ++ L2 ++ B) = (A ++ srt f (L1 ++ V)) ++ (U ++ L2) ++ B := by simp only [List.append_assoc]
  have eU : srtR f c b (A ++ srt f (L1 ++ V) ++ (U ++ L2 ++ B)) = (A ++ srt f (L1 ++ V)) ++ srt f (U ++ L2) ++ B := by
    rw [eT]; exact srtR_app (by rw [List.length_append]; omega) (by rw [List.length_append, List.length_append]; omega)
  refine ⟨_, rfl, fun h => ?_, ?_, hkr, ?_, ?_, fun h => ?_, _, rfl, ?_, ?_, ?_, ?_, fun h => ?_, ?_⟩
  · have : U = [] ∨ V = [] := by
      rcases h with h | h
      · exact .inl (List.eq_nil_of_length_eq_zero (by omega))
      · exact .inr (List.eq_nil_of_length_eq_zero (by omega))
    rcases this with q | q
    · rw [hxs, q]; simp only [List.append_assoc, List.nil_append, List.append_nil]
    · rw [hxs, q]; simp only [List.append_assoc, List.nil_append, List.append_nil]
  · conv => rhs; rw [hxs]
    simp only [List.length_append]; omega
  · rw [show A ++ L1 ++ V ++ U ++ (L2 ++ B) = A ++ L1 ++ (V ++ U ++ L2 ++ B) by simp only [List.append_assoc], part_app lA.symm (by omega)]
    exact p1.1
  · rw [show A ++ L1 ++ V ++ U ++ (L2 ++ B) = (A ++ L1) ++ V ++ (U ++ L2 ++ B) by simp only [List.append_assoc], part_app (by rw [List.length_append]; omega) (by rw [List.length_append]; omega)]
    exact p2.1
  · rw [eS, srt_id]
    · simp only [List.append_assoc]
    · rcases h with h | h
      · have : L1 = [] := List.eq_nil_of_length_eq_zero (by omega)
        rw [this]; exact p2.1
      · have : V = [] := List.eq_nil_of_length_eq_zero (by omega)
        rw [this, List.append_nil]; exact p1.1
  · rw [eS]
    conv => rhs; rw [hxs]
    simp only [List.length_append, lS]; omega
  · rw [eS]
    refine hkr.trans ?_
    rw [hys]
    exact KE.app (KE.app KE.refl srt_KE.symm) KE.refl
  · rw [eS, show A ++ srt f (L1 ++ V) ++ (U ++ L2 ++ B) = (A ++ srt f (L1 ++ V)) ++ U ++ (L2 ++ B) by simp only [List.append_assoc], part_app (by rw [List.length_append]; omega) (by rw [List.length_append]; omega)]
    exact p1.2.1
  · rw [eS, show A ++ srt f (L1 ++ V) ++ (U ++ L2 ++ B) = (A ++ srt f (L1 ++ V) ++ U) ++ L2 ++ B by simp only [List.append_assoc], part_app (by simp only [List.length_append]; omega) (by simp only [List.length_append]; omega)]
    exact p2.2.1
  · rw [eS, eU, srt_id (xs := U ++ L2)]
    · simp only [List.append_assoc]
    · rcases h with h | h
      · have : U = [] := List.eq_nil_of_length_eq_zero (by omega)
        rw [this]; exact p2.2.1
      · have : L2 = [] := List.eq_nil_of_length_eq_zero (by omega)
        rw [this, List.append_nil]; exact p1.2.1
  · rw [eS, eU, hxs, srtR_app lA.symm (by simp only [List.length_append]; omega), sym_list h1 h2 k3 k4]
    simp only [List.append_assoc]
end Go.V

set_option maxRecDepth 100000
set_option maxHeartbeats 8000000
namespace Go.V
open Go.Proofs
attribute [-go_sem] AE AO
abbrev tmI (x : Itm) : Int := x.time
def okT (x : Itm) : Prop := 0 ≤ x.time ∧ x.time ≤ 1099511627776
theorem tm_lt (x y : Int) : decide (x - y < 0) = decide (x < y) := decide_eq_decide.2 ⟨fun _ => by omega, fun _ => by omega⟩
theorem b_btw1 (a c t a2 c2 t2 : Int) (d d2 : List UInt8) (h1 : 0 ≤ t ∧ t ≤ 1099511627776) (h2 : 0 ≤ t2 ∧ t2 ≤ 1099511627776) : DoesK Try.prog 0 47 [.agg [.int .i64 a, .int .i64 c, .int .i64 t, .ro .byte d], .agg [.int .i64 a2, .int .i64 c2, .int .i64 t2, .ro .byte d2]] [] (EndF 0 (.int .i64 (t - t2)) []) := by
  refine DoesK.close ?_
  have w : IntKind.i64.wrap (t - t2) = t - t2 := wrap_i64 _ (by omega) (by omega)
  refine w_body (rs := [.tmp 4]) (tm := [.agg [.int .i64 a, .int .i64 c, .int .i64 t, .ro .byte d], .agg [.int .i64 a2, .int .i64 c2, .int .i64 t2, .ro .byte d2], .any, .any, .any, .any, .any, .any, .any, .any]) fn_47 rfl rfl rfl rfl fun R hR => ?_
  (have zx1 := @w; all_goals (try ((first | (with_reducible refine wp_id ?_) | (with_reducible refine does_id ?_) | (with_reducible refine ops_id ?_)); refine walk ?_; (repeat' (first | exact trivial | with_reducible refine And.intro ?_ ?_)); all_goals (repeat (first | (with_reducible refine ImpB.mk fun hb => ?_) | (with_reducible refine ImpK.mk fun hK => ?_) | (with_reducible refine ImpF.mk fun hF => ?_) | (with_reducible refine ImpQ.mk fun hp => ?_) | (with_reducible refine AllE.mk fun p => ?_) | (with_reducible refine AllR.mk fun rest => ?_) | (with_reducible refine AllK.mk fun K => ?_))))); repeat' (with_reducible refine And.intro ?_ ?_))
  (focus (refine ⟨_, _, Gh.refl, [], rfl, ?_⟩; (refine fitq ?_ ?_ ?_ <;> try exact trivial); (try any_goals (refine ⟨?_, ?_⟩)); (try any_goals (with_reducible rfl))))
  all_goals (repeat' (first | (refine And.intro ?_ ?_) | rfl))
theorem c_btw1 {h : List Ch} {K : KT} {a c t a2 c2 t2 : Int} {d d2 : List UInt8} (H : K (.int .i64 (t - t2)) h) (s1 : 0 ≤ t ∧ t ≤ 1099511627776) (s2 : 0 ≤ t2 ∧ t2 ≤ 1099511627776) : Does Try.prog 47 [.agg [.int .i64 a, .int .i64 c, .int .i64 t, .ro .byte d], .agg [.int .i64 a2, .int .i64 c2, .int .i64 t2, .ro .byte d2]] h K :=
  frame_pure (b_btw1 a c t a2 c2 t2 d d2 s1 s2) (br_cons (br_it ⟨a, c, t, d⟩) (br_cons (br_it ⟨a2, c2, t2, d2⟩) br_nil)) (.inr rfl) (fun _ => rfl) H
abbrev i_btw1 := Ctr.mk (i := 0) (g := 47) @c_btw1
attribute [instance] i_btw1
end Go.V
