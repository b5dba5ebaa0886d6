/-
  archive: contracts at any number of application processes; Lists, few.
  archive: plain law of Add at any number of application processes.
  archive: Clone at any number of application processes.
  archive: Len at any number of application processes.
  archive: the reference's Extend and Add.
-/
import Derived.Test.YtoohlpieakeecaaPart16
set_option linter.unusedVariables false
set_option linter.unusedSimpArgs false
set_option maxRecDepth 100000
set_option maxHeartbeats 8000000
namespace Go.V
open Go.Proofs
attribute [-go_sem] AE AO
structure okAdd (ps : List Prc) : Prop where
  max : ps.length ≤ 900000
  lst : ∀ a, isP ps a = true → 0 < (getP ps a).length ∧ (getP ps a).length ≤ 1000000 ∧ -1099511627776 ≤ (eAt (getP ps a) ((getP ps a).length - 1)).count ∧ (eAt (getP ps a) ((getP ps a).length - 1)).count ≤ 1099511627776
theorem rightB_of {i : Itm} (h : rightB i = true) : 0 ≤ i.apid ∧ i.apid ≤ 2046 ∧ 0 ≤ i.count ∧ i.count < 16384 ∧ 0 ≤ i.time ∧ i.time ≤ 1099511627776 ∧ (i.data.length : Int) ≤ 4096 := by
  unfold rightB at h
  simpa only [Bool.and_eq_true, decide_eq_true_eq] using h
theorem c_addM {h : List Ch} {K : KT} {u : Nat} {a c t r : Int} {d : List UInt8} {ps qs : List Prc} (H : K (.int .i64 r) (h.set u (.pack (AM qs)))) (o : hth h u = .pack (AM ps)) (e1 : okAdd ps) (e3 : addM ⟨a, c, t, d⟩ ps = (qs, r)) : Does Try.prog 10 [.ptr u 0, .agg [.int .i64 a, .int .i64 c, .int .i64 t, .ro .byte d]] h K := by
  have hbr : brL [u] h [.ptr 0 0, .agg (itL ⟨a, c, t, d⟩)] [.ptr u 0, .agg (itL ⟨a, c, t, d⟩)] := br_cons (br_ptr rfl) (br_cons (br_it _) br_nil)
  unfold addM at e3
  cases hr : rightB ⟨a, c, t, d⟩ with
  | false =>
    rw [if_pos hr] at e3
    obtain ⟨rfl, rfl⟩ := Prod.mk.inj e3
    exact frame_obj0 (b_addMW ⟨a, c, t, d⟩ ps hr) o (by simp) (fitC_pack _) hbr (.inl rfl) (fun _ => rfl) rfl H
  | true =>
    have R := rightB_of hr
    have hd : (⟨a, c, t, d⟩ : Itm).data.length ≤ 1099511627776 := by have := R.2.2.2.2.2.2; omega
    rw [if_neg (by rw [hr]; decide)] at e3
    cases hi : isP ps (⟨a, c, t, d⟩ : Itm).apid with
    | true =>
      obtain ⟨q1, q2, q3, q4⟩ := e1.lst _ hi
      rw [if_pos hi] at e3
      have e5 : addL ⟨a, c, t, d⟩ (getP ps (⟨a, c, t, d⟩ : Itm).apid) = addQ ⟨a, c, t, d⟩ (ext (eAt (getP ps (⟨a, c, t, d⟩ : Itm).apid) ((getP ps (⟨a, c, t, d⟩ : Itm).apid).length - 1)).count (⟨a, c, t, d⟩ : Itm).count) (getP ps (⟨a, c, t, d⟩ : Itm).apid) := if_neg (by omega)
      rw [e5] at e3
      obtain ⟨rfl, rfl⟩ := Prod.mk.inj e3
      exact frame_obj0 (b_addMI ⟨a, c, t, d⟩ ps e1.max hr hi hd q1 q2 ⟨q3, q4⟩ ⟨R.2.2.1, R.2.2.2.1⟩) o (by simp) (fitC_pack _) hbr (.inl rfl) (fun _ => rfl) rfl H
    | false =>
      rw [if_neg (by rw [hi]; decide)] at e3
      obtain ⟨rfl, rfl⟩ := Prod.mk.inj e3
      by_cases hn : ps.length = 0
      · obtain rfl := List.eq_nil_of_length_eq_zero hn
        exact frame_obj0 (b_addMZ ⟨a, c, t, d⟩ hr hd) o (by simp) (fitC_pack _) hbr (.inl rfl) (fun _ => rfl) rfl H
      · exact frame_obj0 (b_addMN ⟨a, c, t, d⟩ ps (by omega) e1.max hr hi hd) o (by simp) (fitC_pack _) hbr (.inl rfl) (fun _ => rfl) rfl H
abbrev i_addM := Ctr.mk (i := 3) (g := 10) @c_addM
attribute [instance] i_addM
def sameI (x y : Itm) : Bool := decide (x.apid = y.apid) && (decide (x.count = y.count) && (decide (x.time = y.time) && decide (x.data = y.data)))
theorem b_same52 (x y : Itm) : DoesK Try.prog 0 40 [.agg (itL x), .agg (itL y)] [] (EndF 0 (.bool (sameI x y)) []) := by
  refine DoesK.close ?_
  unfold sameI
  obtain ⟨a, c, t, d⟩ := x
  obtain ⟨a2, c2, t2, d2⟩ := y
  dsimp only [itL]
  cases d1 : decide (a = a2)
  · refine w_body (rs := [.tmp 4]) (tm := [.agg [.int .i64 a, .int .i64 c, .int .i64 t, .ro .byte d], .agg [.int .i64 a2, .int .i64 c2, .int .i64 t2, .ro .byte d2], .any, .any, .any, .any, .any, .any, .any, .any, .any, .any, .any, .any, .any, .any, .any, .any, .any, .any, .any, .any, .any, .any, .any, .any, .any, .any, .any, .any, .any, .any, .any]) fn_40 rfl rfl rfl rfl fun R hR => ?_
    (have zx1 := @d1; all_goals (try ((first | (with_reducible refine wp_id ?_) | (with_reducible refine does_id ?_) | (with_reducible refine ops_id ?_)); refine walk ?_; (repeat' (first | exact trivial | with_reducible refine And.intro ?_ ?_)); all_goals (repeat (first | (with_reducible refine ImpB.mk fun hb => ?_) | (with_reducible refine ImpK.mk fun hK => ?_) | (with_reducible refine ImpF.mk fun hF => ?_) | (with_reducible refine ImpQ.mk fun hp => ?_) | (with_reducible refine AllE.mk fun p => ?_) | (with_reducible refine AllR.mk fun rest => ?_) | (with_reducible refine AllK.mk fun K => ?_))))); repeat' (with_reducible refine And.intro ?_ ?_))
    (focus (refine ⟨_, _, Gh.refl, [], rfl, ?_⟩; (refine fitq ?_ ?_ ?_ <;> try exact trivial); (try any_goals (refine ⟨?_, ?_⟩)); (try any_goals (with_reducible rfl))))
    all_goals (repeat' (first | (refine And.intro ?_ ?_) | rfl))
  cases d2_ : decide (c = c2)
  · refine w_body (rs := [.tmp 4]) (tm := [.agg [.int .i64 a, .int .i64 c, .int .i64 t, .ro .byte d], .agg [.int .i64 a2, .int .i64 c2, .int .i64 t2, .ro .byte d2], .any, .any, .any, .any, .any, .any, .any, .any, .any, .any, .any, .any, .any, .any, .any, .any, .any, .any, .any, .any, .any, .any, .any, .any, .any, .any, .any, .any, .any, .any, .any]) fn_40 rfl rfl rfl rfl fun R hR => ?_
    (have zx1 := @d1; have zx2 := @d2_; all_goals (try ((first | (with_reducible refine wp_id ?_) | (with_reducible refine does_id ?_) | (with_reducible refine ops_id ?_)); refine walk ?_; (repeat' (first | exact trivial | with_reducible refine And.intro ?_ ?_)); all_goals (repeat (first | (with_reducible refine ImpB.mk fun hb => ?_) | (with_reducible refine ImpK.mk fun hK => ?_) | (with_reducible refine ImpF.mk fun hF => ?_) | (with_reducible refine ImpQ.mk fun hp => ?_) | (with_reducible refine AllE.mk fun p => ?_) | (with_reducible refine AllR.mk fun rest => ?_) | (with_reducible refine AllK.mk fun K => ?_))))); repeat' (with_reducible refine And.intro ?_ ?_))
    (focus (refine ⟨_, _, Gh.refl, [], rfl, ?_⟩; (refine fitq ?_ ?_ ?_ <;> try exact trivial); (try any_goals (refine ⟨?_, ?_⟩)); (try any_goals (with_reducible rfl))))
    all_goals (repeat' (first | (refine And.intro ?_ ?_) | rfl))
  cases d3 : decide (t = t2)
  · refine w_body (rs := [.tmp 4]) (tm := [.agg [.int .i64 a, .int .i64 c, .int .i64 t, .ro .byte d], .agg [.int .i64 a2, .int .i64 c2, .int .i64 t2, .ro .byte d2], .any, .any, .any, .any, .any, .any, .any, .any, .any, .any, .any, .any, .any, .any, .any, .any, .any, .any, .any, .any, .any, .any, .any, .any, .any, .any, .any, .any, .any, .any, .any]) fn_40 rfl rfl rfl rfl fun R hR => ?_
    (have zx1 := @d1; have zx2 := @d2_; have zx3 := @d3; all_goals (try ((first | (with_reducible refine wp_id ?_) | (with_reducible refine does_id ?_) | (with_reducible refine ops_id ?_)); refine walk ?_; (repeat' (first | exact trivial | with_reducible refine And.intro ?_ ?_)); all_goals (repeat (first | (with_reducible refine ImpB.mk fun hb => ?_) | (with_reducible refine ImpK.mk fun hK => ?_) | (with_reducible refine ImpF.mk fun hF => ?_) | (with_reducible refine ImpQ.mk fun hp => ?_) | (with_reducible refine AllE.mk fun p => ?_) | (with_reducible refine AllR.mk fun rest => ?_) | (with_reducible refine AllK.mk fun K => ?_))))); repeat' (with_reducible refine And.intro ?_ ?_))
    (focus (refine ⟨_, _, Gh.refl, [], rfl, ?_⟩; (refine fitq ?_ ?_ ?_ <;> try exact trivial); (try any_goals (refine ⟨?_, ?_⟩)); (try any_goals (with_reducible rfl))))
    all_goals (repeat' (first | (refine And.intro ?_ ?_) | rfl))
  · refine w_body (rs := [.tmp 4]) (tm := [.agg [.int .i64 a, .int .i64 c, .int .i64 t, .ro .byte d], .agg [.int .i64 a2, .int .i64 c2, .int .i64 t2, .ro .byte d2], .any, .any, .any, .any, .any, .any, .any, .any, .any, .any, .any, .any, .any, .any, .any, .any, .any, .any, .any, .any, .any, .any, .any, .any, .any, .any, .any, .any, .any, .any, .any]) fn_40 rfl rfl rfl rfl fun R hR => ?_
    (have zx1 := @d1; have zx2 := @d2_; have zx3 := @d3; all_goals (try ((first | (with_reducible refine wp_id ?_) | (with_reducible refine does_id ?_) | (with_reducible refine ops_id ?_)); refine walk ?_; (repeat' (first | exact trivial | with_reducible refine And.intro ?_ ?_)); all_goals (repeat (first | (with_reducible refine ImpB.mk fun hb => ?_) | (with_reducible refine ImpK.mk fun hK => ?_) | (with_reducible refine ImpF.mk fun hF => ?_) | (with_reducible refine ImpQ.mk fun hp => ?_) | (with_reducible refine AllE.mk fun p => ?_) | (with_reducible refine AllR.mk fun rest => ?_) | (with_reducible refine AllK.mk fun K => ?_))))); repeat' (with_reducible refine And.intro ?_ ?_))
    (focus (refine ⟨_, _, Gh.refl, [], rfl, ?_⟩; (refine fitq ?_ ?_ ?_ <;> try exact trivial); (try any_goals (refine ⟨?_, ?_⟩)); (try any_goals (with_reducible rfl))))
    all_goals (repeat' (first | (refine And.intro ?_ ?_) | rfl))
theorem c_same52 {h : List Ch} {K : KT} {a c t a2 c2 t2 : Int} {d d2 : List UInt8} (H : K (.bool (sameI ⟨a, c, t, d⟩ ⟨a2, c2, t2, d2⟩)) h) : Does Try.prog 40 [.agg [.int .i64 a, .int .i64 c, .int .i64 t, .ro .byte d], .agg [.int .i64 a2, .int .i64 c2, .int .i64 t2, .ro .byte d2]] h K :=
  frame_pure (b_same52 ⟨a, c, t, d⟩ ⟨a2, c2, t2, d2⟩) (br_cons (br_it ⟨a, c, t, d⟩) (br_cons (br_it ⟨a2, c2, t2, d2⟩) br_nil)) (.inr rfl) (fun _ => rfl) H
abbrev i_same52 := Ctr.mk (i := 0) (g := 40) @c_same52
attribute [instance] i_same52
theorem sameI_iff {x y : Itm} : sameI x y = true ↔ x = y := by
  obtain ⟨a, c, t, d⟩ := x
  obtain ⟨a2, c2, t2, d2⟩ := y
  unfold sameI
  simp [Bool.and_eq_true]
theorem b_lists (a b : List Itm) (ha : a.length ≤ 1099511627776) (hb0 : b.length ≤ 1099511627776) : DoesK Try.prog 0 19 [.ro .itm a, .ro .itm b] [] (EndF 0 (.bool (decide (a = b))) []) := by
  refine DoesK.close ?_
  refine w_body (rs := [.tmp 4]) (tm := [.ro .itm a, .ro .itm b, .any, .any, .any, .any, .any, .any, .any, .any, .any, .any, .any, .any, .any, .any, .any, .any, .any, .any, .any, .any, .any, .any, .any, .any, .any]) fn_19 rfl rfl rfl rfl fun R hR => ?_
  by_cases hlen : a.length = b.length
  · have hld : decide (¬ (a.length : Int) = (b.length : Int)) = false := decide_eq_false (by omega)
    (have zx1 := @hld; all_goals (try ((first | (with_reducible refine wp_id ?_) | (with_reducible refine does_id ?_) | (with_reducible refine ops_id ?_)); refine walk ?_; (repeat' (first | exact trivial | with_reducible refine And.intro ?_ ?_)); all_goals (repeat (first | (with_reducible refine ImpB.mk fun hb => ?_) | (with_reducible refine ImpK.mk fun hK => ?_) | (with_reducible refine ImpF.mk fun hF => ?_) | (with_reducible refine ImpQ.mk fun hp => ?_) | (with_reducible refine AllE.mk fun p => ?_) | (with_reducible refine AllR.mk fun rest => ?_) | (with_reducible refine AllK.mk fun K => ?_))))); repeat' (with_reducible refine And.intro ?_ ?_))
    any_goals ((try (refine w_seq fun K hK => ?_)); (try (refine w_block ?_)); refine w_loop (A := Nat) (fun k => k ≤ a.length ∧ ∀ i, i < k → a.getD i Itm.zero = b.getD i Itm.zero) (fun k => a.length - k) (fun k => [(5, .int .i64 k)]) (fun _ => []) (0) (ws := ?ws2) (tk := ?tk2) ?hw2 ?ht2 ?hi ?h0 ?LH2; (case hw2 => simp only [go_sem, decide_true, decide_false, Int.reduceToNat, Nat.min_eq_left, Nat.min_eq_right, Int.reducePow, Nat.reducePow, Int.reduceLE, Int.reduceLT, Int.reduceMul, Int.reduceAdd, Int.reduceSub, Int.reduceNeg, Bool.not_true, Bool.not_false, Bool.not_not, ↓reduceIte, Nat.reduceAdd, Nat.reduceSub, Nat.reduceMul, Nat.reduceEqDiff, reduceCtorEq, Nat.reduceLT, Nat.reduceLeDiff, Nat.reduceGT]; exact rfl); (case ht2 => simp only [go_sem, decide_true, decide_false, Int.reduceToNat, Nat.min_eq_left, Nat.min_eq_right, Int.reducePow, Nat.reducePow, Int.reduceLE, Int.reduceLT, Int.reduceMul, Int.reduceAdd, Int.reduceSub, Int.reduceNeg, Bool.not_true, Bool.not_false, Bool.not_not, ↓reduceIte, Nat.reduceAdd, Nat.reduceSub, Nat.reduceMul, Nat.reduceEqDiff, reduceCtorEq, Nat.reduceLT, Nat.reduceLeDiff, Nat.reduceGT]; exact rfl); (case' LH2 => rintro k E t hx hE ht; simp only [go_sem] at ht; subst ht; simp only [go_sem]; try dsimp only at hx))
    case hi => exact ⟨Nat.zero_le _, fun i hi => absurd hi (by omega)⟩
    case h0 =>
      (focus (refine ⟨_, _, Gh.refl, [], rfl, ?_⟩; (refine fitq ?_ ?_ ?_ <;> try exact trivial); (try any_goals (refine ⟨?_, ?_⟩)); (try any_goals (with_reducible rfl))))
      all_goals rfl
    case LH2 =>
      obtain ⟨hk0, hke⟩ := hx
      have hw : IntKind.i64.wrap ((k : Int) + 1) = ((k + 1 : Nat) : Int) := by rw [wrap_i64 _ (by omega) (by omega)]; omega
      by_cases hk : k < a.length
      · have hkd : decide ((k : Int) < (a.length : Int)) = true := decide_eq_true (by omega)
        obtain ⟨x, hxx⟩ : ∃ x, a.getD k Itm.zero = x := ⟨_, rfl⟩
        obtain ⟨y, hyy⟩ : ∃ y, b.getD k Itm.zero = y := ⟨_, rfl⟩
        cases hs : sameI x y with
        | true =>
          have hs2 : sameI ⟨x.apid, x.count, x.time, x.data⟩ ⟨y.apid, y.count, y.time, y.data⟩ = true := hs
          (have zx1 := @hkd; have zx2 := @hw; have zx3 := @hxx; have zx4 := @hyy; have zx5 := @hs2; all_goals (try ((first | (with_reducible refine wp_id ?_) | (with_reducible refine does_id ?_) | (with_reducible refine ops_id ?_)); refine walk ?_; (repeat' (first | exact trivial | with_reducible refine And.intro ?_ ?_)); all_goals (repeat (first | (with_reducible refine ImpB.mk fun hb => ?_) | (with_reducible refine ImpK.mk fun hK => ?_) | (with_reducible refine ImpF.mk fun hF => ?_) | (with_reducible refine ImpQ.mk fun hp => ?_) | (with_reducible refine AllE.mk fun p => ?_) | (with_reducible refine AllR.mk fun rest => ?_) | (with_reducible refine AllK.mk fun K => ?_))))); repeat' (with_reducible refine And.intro ?_ ?_))
          any_goals first | exact Int.natCast_nonneg _ | (show (k : Int) < (a.length : Int); omega) | (show (k : Int) < (b.length : Int); omega) | (show k < a.length; omega) | (show k < b.length; omega)
          refine ⟨k + 1, ⟨⟨(by omega : k + 1 ≤ a.length), fun i hi => ?_⟩, (by first | omega | (dsimp only; omega))⟩, ?_⟩
          · rcases Nat.lt_or_ge i k with q | q
            · exact hke i q
            · obtain rfl : i = k := by omega
              rw [hxx, hyy]; exact sameI_iff.1 hs
          (focus (refine ⟨_, _, Gh.refl, [], rfl, ?_⟩; (refine fitq ?_ ?_ ?_ <;> try exact trivial); (try any_goals (refine ⟨?_, ?_⟩)); (try any_goals (with_reducible rfl))))
          all_goals (repeat' (first | (refine And.intro ?_ ?_) | rfl))
        | false =>
          have hs2 : sameI ⟨x.apid, x.count, x.time, x.data⟩ ⟨y.apid, y.count, y.time, y.data⟩ = false := hs
          have hf : decide (a = b) = false := decide_eq_false fun q => by
            rw [q, hyy] at hxx
            rw [hxx, sameI_iff.2 rfl] at hs; cases hs
          (have zx1 := @hkd; have zx2 := @hw; have zx3 := @hxx; have zx4 := @hyy; have zx5 := @hs2; all_goals (try ((first | (with_reducible refine wp_id ?_) | (with_reducible refine does_id ?_) | (with_reducible refine ops_id ?_)); refine walk ?_; (repeat' (first | exact trivial | with_reducible refine And.intro ?_ ?_)); all_goals (repeat (first | (with_reducible refine ImpB.mk fun hb => ?_) | (with_reducible refine ImpK.mk fun hK => ?_) | (with_reducible refine ImpF.mk fun hF => ?_) | (with_reducible refine ImpQ.mk fun hp => ?_) | (with_reducible refine AllE.mk fun p => ?_) | (with_reducible refine AllR.mk fun rest => ?_) | (with_reducible refine AllK.mk fun K => ?_))))); repeat' (with_reducible refine And.intro ?_ ?_))
          any_goals first | exact Int.natCast_nonneg _ | (show (k : Int) < (a.length : Int); omega) | (show (k : Int) < (b.length : Int); omega) | (show k < a.length; omega) | (show k < b.length; omega)
          rw [hf]
          (focus (refine ⟨_, _, Gh.refl, [], rfl, ?_⟩; (refine fitq ?_ ?_ ?_ <;> try exact trivial); (try any_goals (refine ⟨?_, ?_⟩)); (try any_goals (with_reducible rfl))))
          all_goals (repeat' (first | (refine And.intro ?_ ?_) | rfl))
      · have hkd : decide ((k : Int) < (a.length : Int)) = false := decide_eq_false (by omega)
        have ht : decide (a = b) = true := decide_eq_true (List.ext_getElem hlen fun i h1 h2 => by
          have := hke i (by omega)
          rw [List.getD_eq_getElem?_getD, List.getD_eq_getElem?_getD, List.getElem?_eq_getElem h1, List.getElem?_eq_getElem h2] at this
          exact this)
        (have zx1 := @hkd; all_goals (try ((first | (with_reducible refine wp_id ?_) | (with_reducible refine does_id ?_) | (with_reducible refine ops_id ?_)); refine walk ?_; (repeat' (first | exact trivial | with_reducible refine And.intro ?_ ?_)); all_goals (repeat (first | (with_reducible refine ImpB.mk fun hb => ?_) | (with_reducible refine ImpK.mk fun hK => ?_) | (with_reducible refine ImpF.mk fun hF => ?_) | (with_reducible refine ImpQ.mk fun hp => ?_) | (with_reducible refine AllE.mk fun p => ?_) | (with_reducible refine AllR.mk fun rest => ?_) | (with_reducible refine AllK.mk fun K => ?_))))); repeat' (with_reducible refine And.intro ?_ ?_))
        rw [ht]
        (focus (refine ⟨_, _, Gh.refl, [], rfl, ?_⟩; (refine fitq ?_ ?_ ?_ <;> try exact trivial); (try any_goals (refine ⟨?_, ?_⟩)); (try any_goals (with_reducible rfl))))
        all_goals (repeat' (first | (refine And.intro ?_ ?_) | rfl))
  · have hld : decide (¬ (a.length : Int) = (b.length : Int)) = true := decide_eq_true (by omega)
    have hf : decide (a = b) = false := decide_eq_false fun q => hlen (by rw [q])
    (have zx1 := @hld; all_goals (try ((first | (with_reducible refine wp_id ?_) | (with_reducible refine does_id ?_) | (with_reducible refine ops_id ?_)); refine walk ?_; (repeat' (first | exact trivial | with_reducible refine And.intro ?_ ?_)); all_goals (repeat (first | (with_reducible refine ImpB.mk fun hb => ?_) | (with_reducible refine ImpK.mk fun hK => ?_) | (with_reducible refine ImpF.mk fun hF => ?_) | (with_reducible refine ImpQ.mk fun hp => ?_) | (with_reducible refine AllE.mk fun p => ?_) | (with_reducible refine AllR.mk fun rest => ?_) | (with_reducible refine AllK.mk fun K => ?_))))); repeat' (with_reducible refine And.intro ?_ ?_))
    rw [hf]
    (focus (refine ⟨_, _, Gh.refl, [], rfl, ?_⟩; (refine fitq ?_ ?_ ?_ <;> try exact trivial); (try any_goals (refine ⟨?_, ?_⟩)); (try any_goals (with_reducible rfl))))
    all_goals (repeat' (first | (refine And.intro ?_ ?_) | rfl))
theorem c_lists {h : List Ch} {K : KT} {a b : List Itm} {x y : AV} (H : K (.bool (decide (a = b))) h) (b1 : brA [] h (.ro .itm a) x) (b2 : brA [] h (.ro .itm b) y) (s1 : a.length ≤ 1099511627776) (s2 : b.length ≤ 1099511627776) : Does Try.prog 19 [x, y] h K :=
  frame_pure (b_lists a b s1 s2) (br_cons b1 (br_cons b2 br_nil)) (.inr rfl) (fun _ => rfl) H
abbrev i_lists := Ctr.mk (i := 0) (g := 19) @c_lists
attribute [instance] i_lists
def fewB (l : List Itm) : Bool := decide (∀ i, i < l.length → i < 200 → (l.getD i Itm.zero).data.length ≤ 5000) && decide (l.length ≤ 80)
theorem b_few (l : List Itm) (hl : l.length ≤ 9223372036854775807) : DoesK Try.prog 0 17 [.ro .itm l] [] (EndF 0 (.bool (fewB l)) []) := by
  refine DoesK.close ?_
  refine w_body (rs := [.tmp 2]) (tm := [.ro .itm l, .any, .any, .any, .any, .any, .any, .any, .any, .any, .any, .any, .any, .any, .any, .any, .any, .any, .any, .any, .any, .any, .any, .any]) fn_17 rfl rfl rfl rfl fun R hR => ?_
  (all_goals (try ((first | (with_reducible refine wp_id ?_) | (with_reducible refine does_id ?_) | (with_reducible refine ops_id ?_)); refine walk ?_; (repeat' (first | exact trivial | with_reducible refine And.intro ?_ ?_)); all_goals (repeat (first | (with_reducible refine ImpB.mk fun hb => ?_) | (with_reducible refine ImpK.mk fun hK => ?_) | (with_reducible refine ImpF.mk fun hF => ?_) | (with_reducible refine ImpQ.mk fun hp => ?_) | (with_reducible refine AllE.mk fun p => ?_) | (with_reducible refine AllR.mk fun rest => ?_) | (with_reducible refine AllK.mk fun K => ?_))))); repeat' (with_reducible refine And.intro ?_ ?_))
  any_goals ((try (refine w_seq fun K hK => ?_)); (try (refine w_block ?_)); refine w_loop (A := Nat) (fun k => (k ≤ l.length ∧ k ≤ 200) ∧ ∀ i, i < k → (l.getD i Itm.zero).data.length ≤ 5000) (fun k => l.length - k) (fun k => [(3, .int .i64 k)]) (fun _ => []) (0) (ws := ?ws3) (tk := ?tk3) ?hw3 ?ht3 ?hi ?h0 ?LH3; (case hw3 => simp only [go_sem, decide_true, decide_false, Int.reduceToNat, Nat.min_eq_left, Nat.min_eq_right, Int.reducePow, Nat.reducePow, Int.reduceLE, Int.reduceLT, Int.reduceMul, Int.reduceAdd, Int.reduceSub, Int.reduceNeg, Bool.not_true, Bool.not_false, Bool.not_not, ↓reduceIte, Nat.reduceAdd, Nat.reduceSub, Nat.reduceMul, Nat.reduceEqDiff, reduceCtorEq, Nat.reduceLT, Nat.reduceLeDiff, Nat.reduceGT]; exact rfl); (case ht3 => simp only [go_sem, decide_true, decide_false, Int.reduceToNat, Nat.min_eq_left, Nat.min_eq_right, Int.reducePow, Nat.reducePow, Int.reduceLE, Int.reduceLT, Int.reduceMul, Int.reduceAdd, Int.reduceSub, Int.reduceNeg, Bool.not_true, Bool.not_false, Bool.not_not, ↓reduceIte, Nat.reduceAdd, Nat.reduceSub, Nat.reduceMul, Nat.reduceEqDiff, reduceCtorEq, Nat.reduceLT, Nat.reduceLeDiff, Nat.reduceGT]; exact rfl); (case' LH3 => rintro k E t hx hE ht; simp only [go_sem] at ht; subst ht; simp only [go_sem]; try dsimp only at hx))
  case hi => exact ⟨⟨Nat.zero_le _, Nat.zero_le _⟩, fun i hi => absurd hi (by omega)⟩
  case h0 =>
    (focus (refine ⟨_, _, Gh.refl, [], rfl, ?_⟩; (refine fitq ?_ ?_ ?_ <;> try exact trivial); (try any_goals (refine ⟨?_, ?_⟩)); (try any_goals (with_reducible rfl))))
    all_goals rfl
  case LH3 =>
    obtain ⟨⟨hk0, hk1⟩, hka⟩ := hx
    have hend : ¬ (k < l.length ∧ k < 200) → fewB l = decide ((l.length : Int) ≤ 80) := fun q => by
      unfold fewB
      rw [decide_eq_true (p := ∀ i, i < l.length → i < 200 → (l.getD i Itm.zero).data.length ≤ 5000) (fun i h1 h2 => hka i (by omega)), Bool.true_and]
      exact decide_eq_decide.2 ⟨fun _ => by omega, fun _ => by omega⟩
    by_cases hk : k < l.length
    · have hw : IntKind.i64.wrap ((k : Int) + 1) = ((k + 1 : Nat) : Int) := by rw [wrap_i64 _ (by omega) (by omega)]; omega
      have hkd : decide ((k : Int) < (l.length : Int)) = true := decide_eq_true (by omega)
      by_cases hk2 : k < 200
      · have hkd2 : decide ((k : Int) < 200) = true := decide_eq_true (by omega)
        obtain ⟨x, hxx⟩ : ∃ x, l.getD k Itm.zero = x := ⟨_, rfl⟩
        by_cases hc : 5000 < x.data.length
        · have d1 : decide ((5000 : Int) < (x.data.length : Int)) = true := decide_eq_true (by omega)
          have hf : fewB l = false := by
            unfold fewB
            rw [decide_eq_false (p := ∀ i, i < l.length → i < 200 → (l.getD i Itm.zero).data.length ≤ 5000) (fun q => by have := q k hk hk2; rw [hxx] at this; omega)]; rfl
          (have zx1 := @hkd; have zx2 := @hkd2; have zx3 := @hxx; have zx4 := @d1; all_goals (try ((first | (with_reducible refine wp_id ?_) | (with_reducible refine does_id ?_) | (with_reducible refine ops_id ?_)); refine walk ?_; (repeat' (first | exact trivial | with_reducible refine And.intro ?_ ?_)); all_goals (repeat (first | (with_reducible refine ImpB.mk fun hb => ?_) | (with_reducible refine ImpK.mk fun hK => ?_) | (with_reducible refine ImpF.mk fun hF => ?_) | (with_reducible refine ImpQ.mk fun hp => ?_) | (with_reducible refine AllE.mk fun p => ?_) | (with_reducible refine AllR.mk fun rest => ?_) | (with_reducible refine AllK.mk fun K => ?_))))); repeat' (with_reducible refine And.intro ?_ ?_))
          any_goals first | exact Int.natCast_nonneg _ | (show (k : Int) < (l.length : Int); omega) | (show k < l.length; omega)
          rw [hf]
          (focus (refine ⟨_, _, Gh.refl, [], rfl, ?_⟩; (refine fitq ?_ ?_ ?_ <;> try exact trivial); (try any_goals (refine ⟨?_, ?_⟩)); (try any_goals (with_reducible rfl))))
          all_goals (repeat' (first | (refine And.intro ?_ ?_) | rfl))
        · have d1 : decide ((5000 : Int) < (x.data.length : Int)) = false := decide_eq_false (by omega)
          (have zx1 := @hkd; have zx2 := @hkd2; have zx3 := @hxx; have zx4 := @d1; have zx5 := @hw; all_goals (try ((first | (with_reducible refine wp_id ?_) | (with_reducible refine does_id ?_) | (with_reducible refine ops_id ?_)); refine walk ?_; (repeat' (first | exact trivial | with_reducible refine And.intro ?_ ?_)); all_goals (repeat (first | (with_reducible refine ImpB.mk fun hb => ?_) | (with_reducible refine ImpK.mk fun hK => ?_) | (with_reducible refine ImpF.mk fun hF => ?_) | (with_reducible refine ImpQ.mk fun hp => ?_) | (with_reducible refine AllE.mk fun p => ?_) | (with_reducible refine AllR.mk fun rest => ?_) | (with_reducible refine AllK.mk fun K => ?_))))); repeat' (with_reducible refine And.intro ?_ ?_))
          any_goals first | exact Int.natCast_nonneg _ | (show (k : Int) < (l.length : Int); omega) | (show k < l.length; omega)
          refine ⟨k + 1, ⟨⟨⟨(by omega : k + 1 ≤ l.length), (by omega : k + 1 ≤ 200)⟩, fun i hi => ?_⟩, (by first | omega | (dsimp only; omega))⟩, ?_⟩
          · rcases Nat.lt_or_ge i k with q | q
            · exact hka i q
            · obtain rfl : i = k := by omega
              rw [hxx]; omega
          (focus (refine ⟨_, _, Gh.refl, [], rfl, ?_⟩; (refine fitq ?_ ?_ ?_ <;> try exact trivial); (try any_goals (refine ⟨?_, ?_⟩)); (try any_goals (with_reducible rfl))))
          all_goals (repeat' (first | (refine And.intro ?_ ?_) | rfl))
      · have hkd2 : decide ((k : Int) < 200) = false := decide_eq_false (by omega)
        (have zx1 := @hkd; have zx2 := @hkd2; all_goals (try ((first | (with_reducible refine wp_id ?_) | (with_reducible refine does_id ?_) | (with_reducible refine ops_id ?_)); refine walk ?_; (repeat' (first | exact trivial | with_reducible refine And.intro ?_ ?_)); all_goals (repeat (first | (with_reducible refine ImpB.mk fun hb => ?_) | (with_reducible refine ImpK.mk fun hK => ?_) | (with_reducible refine ImpF.mk fun hF => ?_) | (with_reducible refine ImpQ.mk fun hp => ?_) | (with_reducible refine AllE.mk fun p => ?_) | (with_reducible refine AllR.mk fun rest => ?_) | (with_reducible refine AllK.mk fun K => ?_))))); repeat' (with_reducible refine And.intro ?_ ?_))
        rw [hend (fun q => hk2 q.2)]
        (focus (refine ⟨_, _, Gh.refl, [], rfl, ?_⟩; (refine fitq ?_ ?_ ?_ <;> try exact trivial); (try any_goals (refine ⟨?_, ?_⟩)); (try any_goals (with_reducible rfl))))
        all_goals (repeat' (first | (refine And.intro ?_ ?_) | rfl))
    · have hkd : decide ((k : Int) < (l.length : Int)) = false := decide_eq_false (by omega)
      (have zx1 := @hkd; all_goals (try ((first | (with_reducible refine wp_id ?_) | (with_reducible refine does_id ?_) | (with_reducible refine ops_id ?_)); refine walk ?_; (repeat' (first | exact trivial | with_reducible refine And.intro ?_ ?_)); all_goals (repeat (first | (with_reducible refine ImpB.mk fun hb => ?_) | (with_reducible refine ImpK.mk fun hK => ?_) | (with_reducible refine ImpF.mk fun hF => ?_) | (with_reducible refine ImpQ.mk fun hp => ?_) | (with_reducible refine AllE.mk fun p => ?_) | (with_reducible refine AllR.mk fun rest => ?_) | (with_reducible refine AllK.mk fun K => ?_))))); repeat' (with_reducible refine And.intro ?_ ?_))
      rw [hend (fun q => hk q.1)]
      (focus (refine ⟨_, _, Gh.refl, [], rfl, ?_⟩; (refine fitq ?_ ?_ ?_ <;> try exact trivial); (try any_goals (refine ⟨?_, ?_⟩)); (try any_goals (with_reducible rfl))))
      all_goals (repeat' (first | (refine And.intro ?_ ?_) | rfl))
theorem c_few {h : List Ch} {K : KT} {l : List Itm} {a : AV} (H : K (.bool (fewB l)) h) (b1 : brA [] h (.ro .itm l) a) (s1 : l.length ≤ 9223372036854775807) : Does Try.prog 17 [a] h K :=
  frame_pure (b_few l s1) (br_cons b1 br_nil) (.inr rfl) (fun _ => rfl) H
abbrev i_few := Ctr.mk (i := 0) (g := 17) @c_few
attribute [instance] i_few
theorem few_of {l : List Itm} (h : fewB l = true) : l.length ≤ 80 ∧ ∀ i, (l.getD i Itm.zero).data.length ≤ 5000 := by
  unfold fewB at h
  rw [Bool.and_eq_true, decide_eq_true_eq, decide_eq_true_eq] at h
  refine ⟨h.2, fun i => ?_⟩
  by_cases c : i < l.length
  · exact h.1 i c (by omega)
  · rw [List.getD_eq_getElem?_getD, List.getElem?_eq_none (by omega)]
    exact Nat.zero_le _
end Go.V

set_option maxRecDepth 100000
set_option maxHeartbeats 8000000
namespace Go.V
open Go.Proofs
def srtP (ps : List Prc) : Prop := ps.Pairwise fun p q => p.apid < q.apid
theorem splitP : ∀ (ps : List Prc) (a : Int), srtP ps → ∃ A B, ps = A ++ B ∧ (∀ p ∈ A, p.apid < a) ∧ (∀ p ∈ B, a ≤ p.apid) ∧ findP ps a = A.length
  | [], a, _ => ⟨[], [], rfl, by simp, by simp, rfl⟩
  | p :: ps, a, h => by
    obtain ⟨h1, h2⟩ := List.pairwise_cons.1 h
    by_cases c : a ≤ p.apid
    · refine ⟨[], p :: ps, rfl, by simp, fun q hq => ?_, if_pos c⟩
      rcases List.mem_cons.1 hq with rfl | hq
      · exact c
      · have := h1 q hq; omega
    · obtain ⟨A, B, e, g1, g2, g3⟩ := splitP ps a h2
      refine ⟨p :: A, B, by rw [e]; rfl, fun q hq => ?_, g2, ?_⟩
      · rcases List.mem_cons.1 hq with rfl | hq
        · omega
        · exact g1 q hq
      · show (if a ≤ p.apid then 0 else findP ps a + 1) = _
        rw [if_neg c, g3]; rfl
def lookP : List Prc → Int → List Ent
  | [], _ => []
  | p :: ps, a => if p.apid = a then p.list else lookP ps a
theorem lookP_skip {a : Int} {B : List Prc} : ∀ {A : List Prc}, (∀ p ∈ A, p.apid ≠ a) → lookP (A ++ B) a = lookP B a
  | [], _ => rfl
  | p :: A, h => by
    show (if p.apid = a then _ else lookP (A ++ B) a) = _
    rw [if_neg (h p (by simp)), lookP_skip fun q hq => h q (by simp [hq])]
theorem lookP_mid {a : Int} {x : Prc} {B : List Prc} (hx : x.apid ≠ a) : ∀ {A : List Prc}, lookP (A ++ x :: B) a = lookP (A ++ B) a
  | [] => by
    show (if x.apid = a then _ else lookP B a) = _
    rw [if_neg hx]; rfl
  | p :: A => by
    show (if p.apid = a then _ else lookP (A ++ x :: B) a) = (if p.apid = a then _ else lookP (A ++ B) a)
    rw [lookP_mid hx]
theorem lookP_none {a : Int} : ∀ {B : List Prc}, (∀ p ∈ B, p.apid ≠ a) → lookP B a = []
  | [], _ => rfl
  | p :: B, h => by
    show (if p.apid = a then _ else lookP B a) = _
    rw [if_neg (h p (by simp)), lookP_none fun q hq => h q (by simp [hq])]
theorem pAt_mid {A : List Prc} {b : Prc} {B : List Prc} : pAt (A ++ b :: B) A.length = b := by
  show (A ++ b :: B).getD A.length Prc.zero = b
  rw [List.getD_eq_getElem?_getD, List.getElem?_append_right (Nat.le_refl _), Nat.sub_self]; rfl
/-- what find says of a sorted list -/
theorem find_cases (ps : List Prc) (a : Int) (h : srtP ps) : (∃ A b B, ps = A ++ b :: B ∧ b.apid = a ∧ (∀ p ∈ A, p.apid < a) ∧ (∀ p ∈ B, a < p.apid) ∧ findP ps a = A.length ∧ isP ps a = true ∧ getP ps a = b.list ∧ lookP ps a = b.list) ∨
    (∃ A B, ps = A ++ B ∧ (∀ p ∈ A, p.apid < a) ∧ (∀ p ∈ B, a < p.apid) ∧ findP ps a = A.length ∧ isP ps a = false ∧ getP ps a = [] ∧ lookP ps a = []) := by
  obtain ⟨A, B, e, h1, h2, h3⟩ := splitP ps a h
  have hA : ∀ p ∈ A, p.apid ≠ a := fun p hp => by have := h1 p hp; omega
  cases B with
  | nil =>
    right
    have hi : isP ps a = false := by
      unfold isP
      rw [h3, e, List.append_nil]; simp
    refine ⟨A, [], e, h1, by simp, h3, hi, if_neg (by rw [hi]; decide), ?_⟩
    rw [e, lookP_skip hA]; rfl
  | cons b B =>
    have hs : srtP (b :: B) := by
      rw [e] at h
      exact (List.pairwise_append.1 h).2.1
    have hB : ∀ p ∈ B, b.apid < p.apid := (List.pairwise_cons.1 hs).1
    have hb := h2 b (by simp)
    by_cases c : b.apid = a
    · left
      have hi : isP ps a = true := by
        unfold isP
        rw [h3, e, pAt_mid]; simp [c]
      refine ⟨A, b, B, e, c, h1, fun p hp => by have := hB p hp; omega, h3, hi, ?_, ?_⟩
      · unfold getP
        rw [if_pos hi, h3, e, pAt_mid]
      · rw [e, lookP_skip hA]
        show (if b.apid = a then _ else _) = _
        rw [if_pos c]
    · right
      have hi : isP ps a = false := by
        unfold isP
        rw [h3, e, pAt_mid]; simp [c]
      have hb2 : ∀ p ∈ b :: B, a < p.apid := fun p hp => by
        rcases List.mem_cons.1 hp with rfl | hp
        · omega
        · have := hB p hp; omega
      refine ⟨A, b :: B, e, h1, hb2, h3, hi, if_neg (by rw [hi]; decide), ?_⟩
      rw [e, lookP_skip hA, lookP_none fun p hp => by have := hb2 p hp; omega]
theorem get_look {ps : List Prc} (h : srtP ps) (a : Int) : getP ps a = lookP ps a := by
  rcases find_cases ps a h with ⟨_, _, _, _, _, _, _, _, _, h1, h2⟩ | ⟨_, _, _, _, _, _, _, h1, h2⟩ <;> rw [h1, h2]
/-- a list that Add made of at most n packets -/
structure okL (xs : List Ent) (n : Nat) : Prop where
  pos : 0 < xs.length
  len : xs.length ≤ n
  all : ∀ x ∈ xs, (-(16384 * ((n : Int) + 1)) ≤ x.count ∧ x.count ≤ 16384 * ((n : Int) + 1)) ∧ x.data.length ≤ 4096
structure StP (ps : List Prc) (n : Nat) : Prop where
  srt : srtP ps
  len : ps.length ≤ n
  all : ∀ p ∈ ps, okL p.list n
theorem okL.mono {xs : List Ent} {n : Nat} (h : okL xs n) : okL xs (n + 1) :=
  ⟨h.pos, by have := h.len; omega, fun x hx => by have := h.all x hx; omega⟩
theorem ext_near (g c : Int) : g - 8192 ≤ ext g c ∧ ext g c ≤ g + 8192 := by
  unfold ext
  split <;> omega
theorem eAt_mem {xs : List Ent} {k : Nat} (h : k < xs.length) : eAt xs k ∈ xs := by
  show xs.getD k Ent.zero ∈ xs
  rw [List.getD_eq_getElem?_getD, List.getElem?_eq_getElem h]
  exact List.getElem_mem h
theorem addL_ok {i : Itm} {xs : List Ent} {n : Nat} (hr : rightB i = true) (h : xs = [] ∨ okL xs n) : okL (addL i xs).1 (n + 1) := by
  obtain ⟨-, -, r1, r2, -, -, r3⟩ := rightB_of hr
  rcases h with rfl | h
  · refine ⟨by show 0 < 1; decide, by show 1 ≤ n + 1; omega, fun x hx => ?_⟩
    have hx : x ∈ [newE i i.count] := hx
    rw [List.mem_singleton.1 hx]
    refine ⟨⟨?_, ?_⟩, ?_⟩
    · show -(16384 * (((n + 1 : Nat) : Int) + 1)) ≤ i.count; omega
    · show i.count ≤ 16384 * (((n + 1 : Nat) : Int) + 1); omega
    · show i.data.length ≤ 4096; omega
  · have hp := h.pos
    unfold addL
    rw [if_neg (by omega)]
    have hl := h.all _ (eAt_mem (xs := xs) (k := xs.length - 1) (by omega))
    have he := ext_near (eAt xs (xs.length - 1)).count i.count
    generalize ext (eAt xs (xs.length - 1)).count i.count = e at he ⊢
    unfold addQ
    split
    · exact h.mono
    · refine ⟨by show 0 < (xs.take _ ++ _ :: xs.drop _).length; rw [List.length_append, List.length_cons]; omega, ?_, fun x hx => ?_⟩
      · have h1 := posE_le xs e xs.length
        have h2 := h.len
        show (xs.take _ ++ _ :: xs.drop _).length ≤ n + 1
        rw [List.length_append, List.length_cons, List.length_take, List.length_drop]; omega
      · have hx : x ∈ xs.take (posE xs e xs.length) ++ newE i e :: xs.drop (posE xs e xs.length) := hx
        rcases List.mem_append.1 hx with hx | hx
        · have := h.all x (List.mem_of_mem_take hx); omega
        · rcases List.mem_cons.1 hx with rfl | hx
          · refine ⟨⟨?_, ?_⟩, ?_⟩
            · show -(16384 * (((n + 1 : Nat) : Int) + 1)) ≤ e; omega
            · show e ≤ 16384 * (((n + 1 : Nat) : Int) + 1); omega
            · show i.data.length ≤ 4096; omega
          · have := h.all x (List.mem_of_mem_drop hx); omega
theorem addL_nil (i : Itm) : addL i [] = ([newE i i.count], 0) := rfl
/-- Add, told once for old and new processes -/
theorem addM_form {i : Itm} {ps : List Prc} (h : srtP ps) (hr : rightB i = true) : ∃ A B X, ps = A ++ X ++ B ∧ (∀ p ∈ A, p.apid < i.apid) ∧ (∀ p ∈ B, i.apid < p.apid) ∧ (X = [] ∧ getP ps i.apid = [] ∨ ∃ b, X = [b] ∧ b.apid = i.apid ∧ getP ps i.apid = b.list) ∧
    addM i ps = (A ++ ⟨i.apid, (addL i (getP ps i.apid)).1⟩ :: B, (addL i (getP ps i.apid)).2) := by
  rcases find_cases ps i.apid h with ⟨A, b, B, e, hb, h1, h2, h3, h4, h5, h6⟩ | ⟨A, B, e, h1, h2, h3, h4, h5, h6⟩
  · refine ⟨A, B, [b], by rw [e]; simp, h1, h2, .inr ⟨b, rfl, hb, h5⟩, ?_⟩
    unfold addM
    rw [if_neg (by rw [hr]; decide), if_pos h4, h3]
    have : ps.set A.length ⟨i.apid, (addL i (getP ps i.apid)).1⟩ = A ++ ⟨i.apid, (addL i (getP ps i.apid)).1⟩ :: B := by
      conv => lhs; arg 1; rw [e]
      rw [List.set_append_right _ _ (Nat.le_refl _), Nat.sub_self]; rfl
    rw [this]
  · refine ⟨A, B, [], by rw [e]; simp, h1, h2, .inl ⟨rfl, h5⟩, ?_⟩
    unfold addM
    rw [if_neg (by rw [hr]; decide), if_neg (by rw [h4]; decide), h3, h5, addL_nil]
    have t1 : ps.take A.length = A := by rw [e, List.take_left']; rfl
    have t2 : ps.drop A.length = B := by rw [e, List.drop_left']; rfl
    rw [t1, t2]
theorem StP.get {ps : List Prc} {n : Nat} (h : StP ps n) (a : Int) : getP ps a = [] ∧ isP ps a = false ∨ okL (getP ps a) n ∧ isP ps a = true := by
  rcases find_cases ps a h.srt with ⟨A, b, B, e, hb, h1, h2, h3, h4, h5, h6⟩ | ⟨A, B, e, h1, h2, h3, h4, h5, h6⟩
  · exact .inr ⟨by rw [h5]; exact h.all b (by rw [e]; simp), h4⟩
  · exact .inl ⟨h5, h4⟩
theorem addM_ok {i : Itm} {ps : List Prc} {n : Nat} (h : StP ps n) : StP (addM i ps).1 (n + 1) := by
  cases hr : rightB i with
  | false =>
    unfold addM
    rw [if_pos hr]
    exact ⟨h.srt, by have := h.len; show ps.length ≤ n + 1; omega, fun p hp => (h.all p hp).mono⟩
  | true =>
    obtain ⟨A, B, X, e, h1, h2, hX, h3⟩ := addM_form h.srt hr
    rw [h3]
    have hl : ps.length = A.length + X.length + B.length := by rw [e, List.length_append, List.length_append]
    have hs := h.srt
    rw [e] at hs
    have hs1 := List.pairwise_append.1 hs
    have hs2 := List.pairwise_append.1 hs1.1
    have hy : okL (addL i (getP ps i.apid)).1 (n + 1) := addL_ok hr (by
      rcases h.get i.apid with q | q
      · exact .inl q.1
      · exact .inr q.1)
    refine ⟨?_, ?_, fun p hp => ?_⟩
    · refine List.pairwise_append.2 ⟨hs2.1, List.pairwise_cons.2 ⟨fun p hp => h2 p hp, hs1.2.1⟩, fun p hp q hq => ?_⟩
      have hp1 := h1 p hp
      rcases List.mem_cons.1 hq with rfl | hq
      · exact hp1
      · have := h2 q hq; omega
    · have := h.len
      show (A ++ _ :: B).length ≤ n + 1
      rw [List.length_append, List.length_cons]; omega
    · rcases List.mem_append.1 hp with hp | hp
      · exact (h.all p (by rw [e]; simp [hp])).mono
      · rcases List.mem_cons.1 hp with rfl | hp
        · exact hy
        · exact (h.all p (by rw [e]; simp [hp])).mono
theorem addM_get {i : Itm} {ps : List Prc} {n : Nat} (h : StP ps n) (b : Int) : getP (addM i ps).1 b = if rightB i = true ∧ i.apid = b then (addL i (getP ps b)).1 else getP ps b := by
  have h0 := addM_ok (i := i) h
  rw [get_look h0.srt]
  cases hr : rightB i with
  | false =>
    rw [if_neg (fun q => by cases q.1), get_look h.srt]
    unfold addM
    rw [if_pos hr]
  | true =>
    obtain ⟨A, B, X, e, h1, h2, hX, h3⟩ := addM_form h.srt hr
    rw [h3]
    have hA : ∀ p ∈ A, p.apid ≠ i.apid := fun p hp => by have := h1 p hp; omega
    by_cases c : i.apid = b
    · subst c
      rw [if_pos ⟨rfl, rfl⟩]
      show lookP (A ++ _ :: B) i.apid = _
      rw [lookP_skip hA]
      show (if i.apid = i.apid then _ else _) = _
      rw [if_pos rfl]
    · rw [if_neg (fun q => c q.2), get_look h.srt b]
      show lookP (A ++ _ :: B) b = _
      rw [lookP_mid (show i.apid ≠ b from c), e]
      rcases hX with ⟨rfl, -⟩ | ⟨x, rfl, hx, -⟩
      · rw [List.append_nil]
      · rw [List.append_assoc]
        show _ = lookP (A ++ x :: B) b
        rw [lookP_mid (show x.apid ≠ b by rw [hx]; exact c)]
theorem addM_res {i : Itm} {ps : List Prc} (h : srtP ps) : (addM i ps).2 = if rightB i = true then (addL i (getP ps i.apid)).2 else 1 := by
  cases hr : rightB i with
  | false =>
    unfold addM
    rw [if_pos hr, if_neg (by decide)]
  | true =>
    obtain ⟨A, B, X, e, h1, h2, hX, h3⟩ := addM_form h hr
    rw [h3, if_pos rfl]
theorem StP.nil : StP [] 0 := ⟨.nil, Nat.le_refl 0, fun p hp => by cases hp⟩
theorem StP.add {ps : List Prc} {n : Nat} (h : StP ps n) (hn : n ≤ 10000) : okAdd ps :=
  ⟨Nat.le_trans h.len (by omega), fun a hi => by
    rcases h.get a with q | ⟨q, -⟩
    · rw [q.2] at hi; cases hi
    · have q1 := q.pos
      have q2 := q.len
      have q3 := (q.all _ (eAt_mem (k := (getP ps a).length - 1) (by omega))).1
      refine ⟨q1, by omega, by omega, by omega⟩⟩
end Go.V

set_option maxRecDepth 100000
set_option maxHeartbeats 8000000
namespace Go.V
open Go.Proofs
attribute [-go_sem] AE AO
/-- an archive that lies open at any place -/
structure ArcU (h : List Ch) (u v : Nat) (ts : List Nat) (ps : List Prc) : Prop where
  pos : 0 < ps.length
  o : hth h u = .cells [.bool true, .csl v ps.length 2]
  o1 : hth h v = .crow (flatP ts ps)
  len : ts.length = ps.length
  rows : ∀ i, i < ps.length → hth h (ts.getD i 0) = .rows .ent (pAt ps i).list
  nd : (u :: v :: ts).Nodup
theorem ArcU.shut {h : List Ch} {u v : Nat} {ts : List Nat} {ps : List Prc} (a : ArcU h u v ts ps) : Shut h u (v :: ts) (AM ps) := by
  have e : AM ps = .cells [.bool true, .csl 1 ps.length 2] :: AMr ps := if_neg (by have := a.pos; omega)
  rw [e]
  refine ⟨⟨_, _, rfl⟩, ⟨hth_lt (by rw [a.o]; simp), ?_, hth_lt (by rw [a.o1]; simp), ?_, fitRows a.len a.rows⟩, a.nd⟩
  · rw [a.o]
    exact ⟨rfl, ⟨rfl, rfl, rfl⟩, trivial⟩
  · rw [a.o1]
    refine ⟨?_, fitP (k := 2) a.len fun i hi => ?_⟩
    · rw [flatP_len a.len, flatP_len (by simp)]
    · rw [show 2 + i = i + 1 + 1 by omega]
      rw [List.getElem?_cons_succ, List.getElem?_cons_succ, List.getD_eq_getElem?_getD, List.getElem?_eq_getElem hi]
      rfl
theorem w_loopG {P : Program} {k : Nat} {tm : List AV} {h : List Ch} {q : Post} {c : Code} {A : Type} (inv : A → Prop) (mu : A → Nat) (live : A → List (Nat × AV)) (heap : A → List Ch) (x0 : A) {ws : List Nat} {tk : List AV} (hw : writes c = ws) (ht : killT tm ws = tk) (hi : inv x0)
    (h0 : At k (liveT tk (live x0)) (heap x0) tm h)
    (H : ∀ (x : A) (E : List AV → List Ch → Prop) t, inv x → (∀ tm' h', Back k inv mu (fun x => liveT tk (live x)) heap x tm' h' → E tm' h') → liveT tk (live x) = t →
      Wp P k c t (heap x) ⟨E, q.x, q.r⟩) : Wp P k (.loop c) tm h q :=
  w_loop_at inv mu (fun x => liveT tk (live x)) heap x0 hi h0 fun x E hx hE => H x E _ hx hE rfl
structure okCl (ps : List Prc) : Prop where
  max : ps.length ≤ 900000
  lst : ∀ i, i < ps.length → (pAt ps i).list.length ≤ 1000000
  dat : ∀ i k, ((pAt ps i).list.getD k Ent.zero).data.length ≤ 1099511627776
end Go.V

set_option maxRecDepth 100000
set_option maxHeartbeats 8000000
namespace Go.V
open Go.Proofs
attribute [-go_sem] AE AO
def lenP (ps : List Prc) : Nat := (ps.map fun p => p.list.length).sum
theorem flatP_two : ∀ {ts : List Nat} {ps : List Prc} {i : Nat}, ts.length = ps.length → i < ps.length → ((flatP ts ps).drop (i * 2)).take 2 = [.int .i64 (pAt ps i).apid, .sl (ts.getD i 0) .ent 0 (pAt ps i).list.length]
  | [], [], _, _, h => by simp at h
  | t :: ts, p :: ps, 0, _, _ => rfl
  | t :: ts, p :: ps, i + 1, h, h2 => by
    have := flatP_two (ts := ts) (ps := ps) (i := i) (by simpa using h) (by simpa using h2)
    rw [show (i + 1) * 2 = i * 2 + 1 + 1 by omega]
    exact this
  | [], _ :: _, _, h, _ => by simp at h
  | _ :: _, [], _, h, _ => by simp at h
end Go.V

set_option maxRecDepth 100000
set_option maxHeartbeats 8000000
namespace Go.V
open Go.Proofs
def extStep (a : Int) (o : Option Int) (r : REnt) : Option Int := if r.apid = a then (match o with | none => some r.count | some e => if e < r.count then some r.count else some e) else o
def extS (rs : List REnt) (a : Int) : Option Int := rs.foldl (extStep a) none
def extR (rs : List REnt) (a c : Int) : Int := match extS rs a with | none => c | some e => ext e c
theorem extS_next {rs : List REnt} {a : Int} {k : Nat} (h : k < rs.length) : extS (rs.take (k + 1)) a = extStep a (extS (rs.take k) a) (rs.getD k REnt.zero) := by
  unfold extS
  rw [List.take_succ_eq_append_getElem h, List.foldl_append, List.getD_eq_getElem?_getD, List.getElem?_eq_getElem h]
  rfl
structure okR (rs : List REnt) : Prop where
  len : rs.length ≤ 100000
  cnt : ∀ k, -1099511627776 ≤ (rs.getD k REnt.zero).count ∧ (rs.getD k REnt.zero).count ≤ 1099511627776
theorem extS_bnd {rs : List REnt} (a : Int) (h : okR rs) : ∀ k e, k ≤ rs.length → extS (rs.take k) a = some e → -1099511627776 ≤ e ∧ e ≤ 1099511627776
  | 0, e, _, q => by cases q
  | k + 1, e, hk, q => by
    rw [extS_next (by omega)] at q
    have hc := h.cnt k
    have ih := extS_bnd a h k
    generalize rs.getD k REnt.zero = r at *
    unfold extStep at q
    by_cases c1 : r.apid = a
    · rw [if_pos c1] at q
      cases he0 : extS (rs.take k) a with
      | none => rw [he0] at q; cases q; exact hc
      | some e0 =>
        rw [he0] at q
        have q : (if e0 < r.count then some r.count else some e0) = some e := q
        split at q
        · cases q; exact hc
        · cases q; exact ih _ (by omega) he0
    · rw [if_neg c1] at q
      exact ih e (by omega) q
theorem mod14 (x : Int) : (Int.tmod x 16384 + 16384).tmod 16384 = x % 16384 ∧ -16384 < Int.tmod x 16384 ∧ Int.tmod x 16384 < 16384 := by
  have h1 : Int.tmod x 16384 < 16384 := Int.tmod_lt_of_pos x (by decide)
  have h2 : -16384 < Int.tmod x 16384 := Int.lt_tmod_of_pos x (by decide)
  have h3 := Int.tmod_def x 16384
  refine ⟨?_, h2, h1⟩
  rw [Int.tmod_eq_emod_of_nonneg (by omega)]
  generalize Int.tdiv x 16384 = q at h3
  omega
theorem b_rext (rs : List REnt) (a c : Int) (h : okR rs) (hc : 0 ≤ c ∧ c < 16384) : DoesK Try.prog 0 41 [.ro .ren rs, .int .i64 a, .int .i64 c] [] (EndF 0 (.int .i64 (extR rs a c)) []) := by
  refine DoesK.close ?_
  have hlr := h.len
  refine w_body (rs := [.tmp 6]) (tm := [.ro .ren rs, .int .i64 a, .int .i64 c, .any, .any, .any, .any, .any, .any, .any, .any, .any, .any, .any, .any, .any, .any, .any, .any, .any, .any, .any, .any, .any, .any, .any, .any, .any, .any, .any, .any, .any, .any, .any, .any, .any, .any, .any, .any, .any, .any, .any, .any, .any, .any, .any, .any, .any, .any, .any, .any, .any, .any, .any, .any, .any, .any]) fn_41 rfl rfl rfl rfl fun R hR => ?_
  (all_goals (try ((first | (with_reducible refine wp_id ?_) | (with_reducible refine does_id ?_) | (with_reducible refine ops_id ?_)); refine walk ?_; (repeat' (first | exact trivial | with_reducible refine And.intro ?_ ?_)); all_goals (repeat (first | (with_reducible refine ImpB.mk fun hb => ?_) | (with_reducible refine ImpK.mk fun hK => ?_) | (with_reducible refine ImpF.mk fun hF => ?_) | (with_reducible refine ImpQ.mk fun hp => ?_) | (with_reducible refine AllE.mk fun p => ?_) | (with_reducible refine AllR.mk fun rest => ?_) | (with_reducible refine AllK.mk fun K => ?_))))); repeat' (with_reducible refine And.intro ?_ ?_))
  any_goals ((try (refine w_seq fun K hK => ?_)); (try (refine w_block ?_)); refine w_loop (A := Nat) (fun k => k ≤ rs.length) (fun k => rs.length - k) (fun k => [(7, .bool (extS (rs.take k) a).isNone), (8, .int .i64 ((extS (rs.take k) a).getD 0)), (9, .int .i64 k)]) (fun k => []) (0) (ws := ?ws1) (tk := ?tk1) ?hw1 ?ht1 ?hi ?h0 ?LH1; (case hw1 => simp only [go_sem, decide_true, decide_false, Int.reduceToNat, Nat.min_eq_left, Nat.min_eq_right, Int.reducePow, Nat.reducePow, Int.reduceLE, Int.reduceLT, Int.reduceMul, Int.reduceAdd, Int.reduceSub, Int.reduceNeg, Bool.not_true, Bool.not_false, Bool.not_not, ↓reduceIte, Nat.reduceAdd, Nat.reduceSub, Nat.reduceMul, Nat.reduceEqDiff, reduceCtorEq, Nat.reduceLT, Nat.reduceLeDiff, Nat.reduceGT]; exact rfl); (case ht1 => simp only [go_sem, decide_true, decide_false, Int.reduceToNat, Nat.min_eq_left, Nat.min_eq_right, Int.reducePow, Nat.reducePow, Int.reduceLE, Int.reduceLT, Int.reduceMul, Int.reduceAdd, Int.reduceSub, Int.reduceNeg, Bool.not_true, Bool.not_false, Bool.not_not, ↓reduceIte, Nat.reduceAdd, Nat.reduceSub, Nat.reduceMul, Nat.reduceEqDiff, reduceCtorEq, Nat.reduceLT, Nat.reduceLeDiff, Nat.reduceGT]; exact rfl); (case' LH1 => rintro k E t hx hE ht; simp only [go_sem] at ht; subst ht; simp only [go_sem]; try dsimp only at hx))
  case hi => exact Nat.zero_le _
  case h0 =>
    (focus (refine ⟨_, _, Gh.refl, [], rfl, ?_⟩; (refine fitq ?_ ?_ ?_ <;> try exact trivial); (try any_goals (refine ⟨?_, ?_⟩)); (try any_goals (with_reducible rfl))))
    all_goals (repeat' (first | (refine And.intro ?_ ?_) | rfl))
  case LH1 =>
    have hk0 : k ≤ rs.length := hx
    by_cases hk : k < rs.length
    · have hkd : decide ((k : Int) < (rs.length : Int)) = true := decide_eq_true (by omega)
      have hw : IntKind.i64.wrap ((k : Int) + 1) = ((k + 1 : Nat) : Int) := by rw [wrap_i64 _ (by omega) (by omega)]; omega
      have hn := extS_next (a := a) hk
      obtain ⟨r, hr⟩ : ∃ r, rs.getD k REnt.zero = r := ⟨_, rfl⟩
      rw [hr] at hn
      cases hs : extS (rs.take k) a with
      | none =>
        rw [hs] at hn
        by_cases c1 : r.apid = a
        · have d1 : decide (r.apid = a) = true := decide_eq_true c1
          have hn2 : extS (rs.take (k + 1)) a = some r.count := by rw [hn]; unfold extStep; rw [if_pos c1]
          (have zx1 := @hkd; have zx2 := @hw; have zx3 := @hr; have zx4 := @d1; all_goals (try ((first | (with_reducible refine wp_id ?_) | (with_reducible refine does_id ?_) | (with_reducible refine ops_id ?_)); refine walk ?_; (repeat' (first | exact trivial | with_reducible refine And.intro ?_ ?_)); all_goals (repeat (first | (with_reducible refine ImpB.mk fun hb => ?_) | (with_reducible refine ImpK.mk fun hK => ?_) | (with_reducible refine ImpF.mk fun hF => ?_) | (with_reducible refine ImpQ.mk fun hp => ?_) | (with_reducible refine AllE.mk fun p => ?_) | (with_reducible refine AllR.mk fun rest => ?_) | (with_reducible refine AllK.mk fun K => ?_))))); repeat' (with_reducible refine And.intro ?_ ?_))
          (all_goals first | exact Int.natCast_nonneg _ | exact Int.ofNat_lt.2 (by assumption) | assumption | omega | exact Nat.le_refl _ | (exfalso; simp at hb; done) | (simp only [go_sem, decide_true, decide_false, Int.reduceToNat, Nat.min_eq_left, Nat.min_eq_right, Int.reducePow, Nat.reducePow, Int.reduceLE, Int.reduceLT, Int.reduceMul, Int.reduceAdd, Int.reduceSub, Int.reduceNeg, Bool.not_true, Bool.not_false, Bool.not_not, ↓reduceIte, Nat.reduceAdd, Nat.reduceSub, Nat.reduceMul, Nat.reduceEqDiff, reduceCtorEq, Nat.reduceLT, Nat.reduceLeDiff, Nat.reduceGT]; done) | (unfold capM; omega) | (simp only [List.length_drop, List.length_take, List.length_append, List.length_cons, List.length_nil]; omega) | skip)
          refine ⟨k + 1, ⟨(by omega : k + 1 ≤ rs.length), (by first | omega | (dsimp only; omega))⟩, ?_⟩
          dsimp only
          rw [hn2]
          (focus (refine ⟨_, _, Gh.refl, [], rfl, ?_⟩; (refine fitq ?_ ?_ ?_ <;> try exact trivial); (try any_goals (refine ⟨?_, ?_⟩)); (try any_goals (with_reducible rfl))))
          all_goals (repeat' (first | (refine And.intro ?_ ?_) | rfl))
        · have d1 : decide (r.apid = a) = false := decide_eq_false c1
          have hn2 : extS (rs.take (k + 1)) a = none := by rw [hn]; unfold extStep; rw [if_neg c1]
          (have zx1 := @hkd; have zx2 := @hw; have zx3 := @hr; have zx4 := @d1; all_goals (try ((first | (with_reducible refine wp_id ?_) | (with_reducible refine does_id ?_) | (with_reducible refine ops_id ?_)); refine walk ?_; (repeat' (first | exact trivial | with_reducible refine And.intro ?_ ?_)); all_goals (repeat (first | (with_reducible refine ImpB.mk fun hb => ?_) | (with_reducible refine ImpK.mk fun hK => ?_) | (with_reducible refine ImpF.mk fun hF => ?_) | (with_reducible refine ImpQ.mk fun hp => ?_) | (with_reducible refine AllE.mk fun p => ?_) | (with_reducible refine AllR.mk fun rest => ?_) | (with_reducible refine AllK.mk fun K => ?_))))); repeat' (with_reducible refine And.intro ?_ ?_))
          (all_goals first | exact Int.natCast_nonneg _ | exact Int.ofNat_lt.2 (by assumption) | assumption | omega | exact Nat.le_refl _ | (exfalso; simp at hb; done) | (simp only [go_sem, decide_true, decide_false, Int.reduceToNat, Nat.min_eq_left, Nat.min_eq_right, Int.reducePow, Nat.reducePow, Int.reduceLE, Int.reduceLT, Int.reduceMul, Int.reduceAdd, Int.reduceSub, Int.reduceNeg, Bool.not_true, Bool.not_false, Bool.not_not, ↓reduceIte, Nat.reduceAdd, Nat.reduceSub, Nat.reduceMul, Nat.reduceEqDiff, reduceCtorEq, Nat.reduceLT, Nat.reduceLeDiff, Nat.reduceGT]; done) | (unfold capM; omega) | (simp only [List.length_drop, List.length_take, List.length_append, List.length_cons, List.length_nil]; omega) | skip)
          refine ⟨k + 1, ⟨(by omega : k + 1 ≤ rs.length), (by first | omega | (dsimp only; omega))⟩, ?_⟩
          dsimp only
          rw [hn2]
          (focus (refine ⟨_, _, Gh.refl, [], rfl, ?_⟩; (refine fitq ?_ ?_ ?_ <;> try exact trivial); (try any_goals (refine ⟨?_, ?_⟩)); (try any_goals (with_reducible rfl))))
          all_goals (repeat' (first | (refine And.intro ?_ ?_) | rfl))
      | some e =>
        rw [hs] at hn
        by_cases c1 : r.apid = a
        · have d1 : decide (r.apid = a) = true := decide_eq_true c1
          by_cases c2 : e < r.count
          · have d2 : decide (e < r.count) = true := decide_eq_true c2
            have hn2 : extS (rs.take (k + 1)) a = some r.count := by rw [hn]; unfold extStep; rw [if_pos c1]; exact if_pos c2
            (have zx1 := @hkd; have zx2 := @hw; have zx3 := @hr; have zx4 := @d1; have zx5 := @d2; all_goals (try ((first | (with_reducible refine wp_id ?_) | (with_reducible refine does_id ?_) | (with_reducible refine ops_id ?_)); refine walk ?_; (repeat' (first | exact trivial | with_reducible refine And.intro ?_ ?_)); all_goals (repeat (first | (with_reducible refine ImpB.mk fun hb => ?_) | (with_reducible refine ImpK.mk fun hK => ?_) | (with_reducible refine ImpF.mk fun hF => ?_) | (with_reducible refine ImpQ.mk fun hp => ?_) | (with_reducible refine AllE.mk fun p => ?_) | (with_reducible refine AllR.mk fun rest => ?_) | (with_reducible refine AllK.mk fun K => ?_))))); repeat' (with_reducible refine And.intro ?_ ?_))
            (all_goals first | exact Int.natCast_nonneg _ | exact Int.ofNat_lt.2 (by assumption) | assumption | omega | exact Nat.le_refl _ | (exfalso; simp at hb; done) | (simp only [go_sem, decide_true, decide_false, Int.reduceToNat, Nat.min_eq_left, Nat.min_eq_right, Int.reducePow, Nat.reducePow, Int.reduceLE, Int.reduceLT, Int.reduceMul, Int.reduceAdd, Int.reduceSub, Int.reduceNeg, Bool.not_true, Bool.not_false, Bool.not_not, ↓reduceIte, Nat.reduceAdd, Nat.reduceSub, Nat.reduceMul, Nat.reduceEqDiff, reduceCtorEq, Nat.reduceLT, Nat.reduceLeDiff, Nat.reduceGT]; done) | (unfold capM; omega) | (simp only [List.length_drop, List.length_take, List.length_append, List.length_cons, List.length_nil]; omega) | skip)
            refine ⟨k + 1, ⟨(by omega : k + 1 ≤ rs.length), (by first | omega | (dsimp only; omega))⟩, ?_⟩
            dsimp only
            rw [hn2]
            (focus (refine ⟨_, _, Gh.refl, [], rfl, ?_⟩; (refine fitq ?_ ?_ ?_ <;> try exact trivial); (try any_goals (refine ⟨?_, ?_⟩)); (try any_goals (with_reducible rfl))))
            all_goals (repeat' (first | (refine And.intro ?_ ?_) | rfl))
          · have d2 : decide (e < r.count) = false := decide_eq_false c2
            have hn2 : extS (rs.take (k + 1)) a = some e := by rw [hn]; unfold extStep; rw [if_pos c1]; exact if_neg c2
            (have zx1 := @hkd; have zx2 := @hw; have zx3 := @hr; have zx4 := @d1; have zx5 := @d2; all_goals (try ((first | (with_reducible refine wp_id ?_) | (with_reducible refine does_id ?_) | (with_reducible refine ops_id ?_)); refine walk ?_; (repeat' (first | exact trivial | with_reducible refine And.intro ?_ ?_)); all_goals (repeat (first | (with_reducible refine ImpB.mk fun hb => ?_) | (with_reducible refine ImpK.mk fun hK => ?_) | (with_reducible refine ImpF.mk fun hF => ?_) | (with_reducible refine ImpQ.mk fun hp => ?_) | (with_reducible refine AllE.mk fun p => ?_) | (with_reducible refine AllR.mk fun rest => ?_) | (with_reducible refine AllK.mk fun K => ?_))))); repeat' (with_reducible refine And.intro ?_ ?_))
            (all_goals first | exact Int.natCast_nonneg _ | exact Int.ofNat_lt.2 (by assumption) | assumption | omega | exact Nat.le_refl _ | (exfalso; simp at hb; done) | (simp only [go_sem, decide_true, decide_false, Int.reduceToNat, Nat.min_eq_left, Nat.min_eq_right, Int.reducePow, Nat.reducePow, Int.reduceLE, Int.reduceLT, Int.reduceMul, Int.reduceAdd, Int.reduceSub, Int.reduceNeg, Bool.not_true, Bool.not_false, Bool.not_not, ↓reduceIte, Nat.reduceAdd, Nat.reduceSub, Nat.reduceMul, Nat.reduceEqDiff, reduceCtorEq, Nat.reduceLT, Nat.reduceLeDiff, Nat.reduceGT]; done) | (unfold capM; omega) | (simp only [List.length_drop, List.length_take, List.length_append, List.length_cons, List.length_nil]; omega) | skip)
            refine ⟨k + 1, ⟨(by omega : k + 1 ≤ rs.length), (by first | omega | (dsimp only; omega))⟩, ?_⟩
            dsimp only
            rw [hn2]
            (focus (refine ⟨_, _, Gh.refl, [], rfl, ?_⟩; (refine fitq ?_ ?_ ?_ <;> try exact trivial); (try any_goals (refine ⟨?_, ?_⟩)); (try any_goals (with_reducible rfl))))
            all_goals (repeat' (first | (refine And.intro ?_ ?_) | rfl))
        · have d1 : decide (r.apid = a) = false := decide_eq_false c1
          have hn2 : extS (rs.take (k + 1)) a = some e := by rw [hn]; unfold extStep; rw [if_neg c1]
          (have zx1 := @hkd; have zx2 := @hw; have zx3 := @hr; have zx4 := @d1; all_goals (try ((first | (with_reducible refine wp_id ?_) | (with_reducible refine does_id ?_) | (with_reducible refine ops_id ?_)); refine walk ?_; (repeat' (first | exact trivial | with_reducible refine And.intro ?_ ?_)); all_goals (repeat (first | (with_reducible refine ImpB.mk fun hb => ?_) | (with_reducible refine ImpK.mk fun hK => ?_) | (with_reducible refine ImpF.mk fun hF => ?_) | (with_reducible refine ImpQ.mk fun hp => ?_) | (with_reducible refine AllE.mk fun p => ?_) | (with_reducible refine AllR.mk fun rest => ?_) | (with_reducible refine AllK.mk fun K => ?_))))); repeat' (with_reducible refine And.intro ?_ ?_))
          (all_goals first | exact Int.natCast_nonneg _ | exact Int.ofNat_lt.2 (by assumption) | assumption | omega | exact Nat.le_refl _ | (exfalso; simp at hb; done) | (simp only [go_sem, decide_true, decide_false, Int.reduceToNat, Nat.min_eq_left, Nat.min_eq_right, Int.reducePow, Nat.reducePow, Int.reduceLE, Int.reduceLT, Int.reduceMul, Int.reduceAdd, Int.reduceSub, Int.reduceNeg, Bool.not_true, Bool.not_false, Bool.not_not, ↓reduceIte, Nat.reduceAdd, Nat.reduceSub, Nat.reduceMul, Nat.reduceEqDiff, reduceCtorEq, Nat.reduceLT, Nat.reduceLeDiff, Nat.reduceGT]; done) | (unfold capM; omega) | (simp only [List.length_drop, List.length_take, List.length_append, List.length_cons, List.length_nil]; omega) | skip)
          refine ⟨k + 1, ⟨(by omega : k + 1 ≤ rs.length), (by first | omega | (dsimp only; omega))⟩, ?_⟩
          dsimp only
          rw [hn2]
          (focus (refine ⟨_, _, Gh.refl, [], rfl, ?_⟩; (refine fitq ?_ ?_ ?_ <;> try exact trivial); (try any_goals (refine ⟨?_, ?_⟩)); (try any_goals (with_reducible rfl))))
          all_goals (repeat' (first | (refine And.intro ?_ ?_) | rfl))
    · have hkd : decide ((k : Int) < (rs.length : Int)) = false := decide_eq_false (by omega)
      have hfull : rs.take k = rs := List.take_of_length_le (by omega)
      have hb2 := extS_bnd a h k
      rw [hfull] at hb2 ⊢
      cases hs : extS rs a with
      | none =>
        have hR2 : extR rs a c = c := by unfold extR; rw [hs]
        (have zx1 := @hkd; all_goals (try ((first | (with_reducible refine wp_id ?_) | (with_reducible refine does_id ?_) | (with_reducible refine ops_id ?_)); refine walk ?_; (repeat' (first | exact trivial | with_reducible refine And.intro ?_ ?_)); all_goals (repeat (first | (with_reducible refine ImpB.mk fun hb => ?_) | (with_reducible refine ImpK.mk fun hK => ?_) | (with_reducible refine ImpF.mk fun hF => ?_) | (with_reducible refine ImpQ.mk fun hp => ?_) | (with_reducible refine AllE.mk fun p => ?_) | (with_reducible refine AllR.mk fun rest => ?_) | (with_reducible refine AllK.mk fun K => ?_))))); repeat' (with_reducible refine And.intro ?_ ?_))
        rw [hR2]
        (focus (refine ⟨_, _, Gh.refl, [], rfl, ?_⟩; (refine fitq ?_ ?_ ?_ <;> try exact trivial); (try any_goals (refine ⟨?_, ?_⟩)); (try any_goals (with_reducible rfl))))
        all_goals (repeat' (first | (refine And.intro ?_ ?_) | rfl))
      | some e =>
        have hR2 : extR rs a c = ext e c := by unfold extR; rw [hs]
        have he := hb2 e hk0 hs
        obtain ⟨m1, m2, m3⟩ := mod14 (c - e)
        have w1 : IntKind.i64.wrap (c - e) = c - e := wrap_i64 _ (by omega) (by omega)
        have w2 : IntKind.i64.wrap (Int.tmod (c - e) 16384) = Int.tmod (c - e) 16384 := wrap_i64 _ (by omega) (by omega)
        have w3 : IntKind.i64.wrap (Int.tmod (c - e) 16384 + 16384) = Int.tmod (c - e) 16384 + 16384 := wrap_i64 _ (by omega) (by omega)
        have w4 : IntKind.i64.wrap ((c - e) % 16384) = (c - e) % 16384 := wrap_i64 _ (by omega) (by omega)
        by_cases c2 : 8192 < (c - e) % 16384
        · have d2 : decide (8192 < (c - e) % 16384) = true := decide_eq_true c2
          have w5 : IntKind.i64.wrap ((c - e) % 16384 - 16384) = (c - e) % 16384 - 16384 := wrap_i64 _ (by omega) (by omega)
          have w6 : IntKind.i64.wrap (e + ((c - e) % 16384 - 16384)) = ext e c := by
            unfold ext
            rw [if_neg (by omega), wrap_i64 _ (by omega) (by omega)]; omega
          (have zx1 := @hkd; have zx2 := @m1; have zx3 := @w1; have zx4 := @w2; have zx5 := @w3; have zx6 := @w4; have zx7 := @d2; have zx8 := @w5; have zx9 := @w6; all_goals (try ((first | (with_reducible refine wp_id ?_) | (with_reducible refine does_id ?_) | (with_reducible refine ops_id ?_)); refine walk ?_; (repeat' (first | exact trivial | with_reducible refine And.intro ?_ ?_)); all_goals (repeat (first | (with_reducible refine ImpB.mk fun hb => ?_) | (with_reducible refine ImpK.mk fun hK => ?_) | (with_reducible refine ImpF.mk fun hF => ?_) | (with_reducible refine ImpQ.mk fun hp => ?_) | (with_reducible refine AllE.mk fun p => ?_) | (with_reducible refine AllR.mk fun rest => ?_) | (with_reducible refine AllK.mk fun K => ?_))))); repeat' (with_reducible refine And.intro ?_ ?_))
          any_goals exact absurd hb (by decide)
          rw [hR2]
          (focus (refine ⟨_, _, Gh.refl, [], rfl, ?_⟩; (refine fitq ?_ ?_ ?_ <;> try exact trivial); (try any_goals (refine ⟨?_, ?_⟩)); (try any_goals (with_reducible rfl))))
          all_goals (repeat' (first | (refine And.intro ?_ ?_) | rfl))
        · have d2 : decide (8192 < (c - e) % 16384) = false := decide_eq_false c2
          have w6 : IntKind.i64.wrap (e + (c - e) % 16384) = ext e c := by
            unfold ext
            rw [if_pos (by omega), wrap_i64 _ (by omega) (by omega)]
          (have zx1 := @hkd; have zx2 := @m1; have zx3 := @w1; have zx4 := @w2; have zx5 := @w3; have zx6 := @w4; have zx7 := @d2; have zx8 := @w6; all_goals (try ((first | (with_reducible refine wp_id ?_) | (with_reducible refine does_id ?_) | (with_reducible refine ops_id ?_)); refine walk ?_; (repeat' (first | exact trivial | with_reducible refine And.intro ?_ ?_)); all_goals (repeat (first | (with_reducible refine ImpB.mk fun hb => ?_) | (with_reducible refine ImpK.mk fun hK => ?_) | (with_reducible refine ImpF.mk fun hF => ?_) | (with_reducible refine ImpQ.mk fun hp => ?_) | (with_reducible refine AllE.mk fun p => ?_) | (with_reducible refine AllR.mk fun rest => ?_) | (with_reducible refine AllK.mk fun K => ?_))))); repeat' (with_reducible refine And.intro ?_ ?_))
          any_goals exact absurd hb (by decide)
          rw [hR2]
          (focus (refine ⟨_, _, Gh.refl, [], rfl, ?_⟩; (refine fitq ?_ ?_ ?_ <;> try exact trivial); (try any_goals (refine ⟨?_, ?_⟩)); (try any_goals (with_reducible rfl))))
          all_goals (repeat' (first | (refine And.intro ?_ ?_) | rfl))
theorem c_rext {h : List Ch} {K : KT} {rs : List REnt} {a c : Int} {x : AV} (H : K (.int .i64 (extR rs a c)) h) (b1 : brA [] h (.ro .ren rs) x) (e1 : okR rs) (s1 : 0 ≤ c ∧ c < 16384) : Does Try.prog 41 [x, .int .i64 a, .int .i64 c] h K :=
  frame_pure (b_rext rs a c e1 s1) (br_cons b1 (br_cons br_int (br_cons br_int br_nil))) (.inr rfl) (fun _ => rfl) H
abbrev i_rext := Ctr.mk (i := 0) (g := 41) @c_rext
attribute [instance] i_rext
end Go.V
