/-
  Jobs and contacts: duration, place, fits.
  Jobs and contacts: which assignments fit.
-/
import Derived.Test.YtalpgifnkajkbaaPart13
set_option linter.unusedVariables false
set_option linter.unusedSimpArgs false
set_option maxRecDepth 100000
set_option maxHeartbeats 8000000
namespace Go.V
open Go.Proofs
def durI (j : Job) (rate : Int) : Int := Int.tdiv (j.size + rate - 1) rate
theorem dur_bd {j : Job} {rate : Int} (h1 : 1 ≤ rate ∧ rate ≤ 2147483648) (h2 : 1 ≤ j.size ∧ j.size ≤ 2147483648) : 1 ≤ durI j rate ∧ durI j rate ≤ 2147483648 := by
  unfold durI
  obtain ⟨r, rfl⟩ : ∃ r : Nat, rate = r := ⟨rate.toNat, by omega⟩
  obtain ⟨s, hs⟩ : ∃ s : Nat, j.size = s := ⟨j.size.toNat, by omega⟩
  rw [hs]
  have e : (s : Int) + r - 1 = ((s + r - 1 : Nat) : Int) := by omega
  rw [e, ← Int.ofNat_tdiv]
  have hr : 0 < r := by omega
  have h3 : 1 ≤ (s + r - 1) / r := (Nat.le_div_iff_mul_le hr).2 (by omega)
  have h4 : (s + r - 1) / r ≤ s := by
    have q : s + r - 1 < (s + 1) * r := by
      have : s * 1 ≤ s * r := Nat.mul_le_mul_left s hr
      rw [Nat.add_mul]
      omega
    have := (Nat.div_lt_iff_lt_mul hr).2 q
    omega
  omega
theorem b_dur (j : Job) (rate : Int) (h1 : 1 ≤ rate ∧ rate ≤ 2147483648) (h2 : 1 ≤ j.size ∧ j.size ≤ 2147483648) : DoesK Try.prog 0 22 [.agg (JobL j), .int .i64 rate] [] (EndF 0 (.int .i64 (durI j rate)) []) := by
  refine DoesK.close ?_
  have hd := dur_bd h1 h2
  have w1 : IntKind.i64.wrap (j.size + rate) = j.size + rate := wrap_i64 _ (by omega) (by omega)
  have w2 : IntKind.i64.wrap (j.size + rate - 1) = j.size + rate - 1 := wrap_i64 _ (by omega) (by omega)
  have w3 : IntKind.i64.wrap (Int.tdiv (j.size + rate - 1) rate) = durI j rate := wrap_i64 _ (by unfold durI at hd; omega) (by unfold durI at hd; omega)
  refine w_body (rs := [.tmp 4]) (tm := [.agg (JobL j), .int .i64 rate, .any, .any, .any, .any, .any, .any, .any, .any, .any, .any]) fn_22 rfl rfl rfl rfl fun R hR => ?_
  (have zx1 := @w1; have zx2 := @w2; have zx3 := @w3; all_goals (try ((first | (with_reducible refine wp_id ?_) | (with_reducible refine does_id ?_) | (with_reducible refine ops_id ?_)); refine walk ?_; (repeat' (first | exact trivial | with_reducible refine And.intro ?_ ?_)); all_goals (repeat (first | (with_reducible refine ImpB.mk fun hb => ?_) | (with_reducible refine ImpK.mk fun hK => ?_) | (with_reducible refine ImpF.mk fun hF => ?_) | (with_reducible refine ImpQ.mk fun hp => ?_) | (with_reducible refine AllE.mk fun p => ?_) | (with_reducible refine AllR.mk fun rest => ?_) | (with_reducible refine AllK.mk fun K => ?_))))); repeat' (with_reducible refine And.intro ?_ ?_))
  all_goals first | omega | skip
  (focus (refine ⟨_, _, Gh.refl, [], rfl, ?_⟩; (refine ⟨?_, ?_, ?_⟩ <;> simp only [go_sem, List.range, List.range.loop, List.nodup_cons, List.nodup_nil, List.mem_cons, List.not_mem_nil, or_false, or_self, decide_true, decide_false, Int.reduceToNat, Nat.min_eq_left, Nat.min_eq_right, Int.reducePow, Nat.reducePow, Int.reduceLE, Int.reduceLT, Int.reduceMul, Int.reduceAdd, Int.reduceSub, Int.reduceNeg, Bool.not_true, Bool.not_false, Bool.not_not, ↓reduceIte, Nat.reduceAdd, Nat.reduceSub, Nat.reduceMul, Nat.reduceEqDiff, reduceCtorEq, Nat.reduceLT, Nat.reduceLeDiff, Nat.reduceGT]); (try any_goals (refine ⟨?_, ?_⟩)); (try any_goals (with_reducible rfl))))
theorem b_rdur (j : Job) (rate : Int) (h1 : 1 ≤ rate ∧ rate ≤ 2147483648) (h2 : 1 ≤ j.size ∧ j.size ≤ 2147483648) : DoesK Try.prog 0 16 [.agg (JobL j), .int .i64 rate] [] (EndF 0 (.int .i64 (durI j rate)) []) := by
  refine DoesK.close ?_
  have hd := dur_bd h1 h2
  have w1 : IntKind.i64.wrap (j.size + rate) = j.size + rate := wrap_i64 _ (by omega) (by omega)
  have w2 : IntKind.i64.wrap (j.size + rate - 1) = j.size + rate - 1 := wrap_i64 _ (by omega) (by omega)
  have w3 : IntKind.i64.wrap (Int.tdiv (j.size + rate - 1) rate) = durI j rate := wrap_i64 _ (by unfold durI at hd; omega) (by unfold durI at hd; omega)
  refine w_body (rs := [.tmp 4]) (tm := [.agg (JobL j), .int .i64 rate, .any, .any, .any, .any, .any, .any, .any, .any, .any, .any]) fn_16 rfl rfl rfl rfl fun R hR => ?_
  (have zx1 := @w1; have zx2 := @w2; have zx3 := @w3; all_goals (try ((first | (with_reducible refine wp_id ?_) | (with_reducible refine does_id ?_) | (with_reducible refine ops_id ?_)); refine walk ?_; (repeat' (first | exact trivial | with_reducible refine And.intro ?_ ?_)); all_goals (repeat (first | (with_reducible refine ImpB.mk fun hb => ?_) | (with_reducible refine ImpK.mk fun hK => ?_) | (with_reducible refine ImpF.mk fun hF => ?_) | (with_reducible refine ImpQ.mk fun hp => ?_) | (with_reducible refine AllE.mk fun p => ?_) | (with_reducible refine AllR.mk fun rest => ?_) | (with_reducible refine AllK.mk fun K => ?_))))); repeat' (with_reducible refine And.intro ?_ ?_))
  all_goals first | omega | skip
  (focus (refine ⟨_, _, Gh.refl, [], rfl, ?_⟩; (refine ⟨?_, ?_, ?_⟩ <;> simp only [go_sem, List.range, List.range.loop, List.nodup_cons, List.nodup_nil, List.mem_cons, List.not_mem_nil, or_false, or_self, decide_true, decide_false, Int.reduceToNat, Nat.min_eq_left, Nat.min_eq_right, Int.reducePow, Nat.reducePow, Int.reduceLE, Int.reduceLT, Int.reduceMul, Int.reduceAdd, Int.reduceSub, Int.reduceNeg, Bool.not_true, Bool.not_false, Bool.not_not, ↓reduceIte, Nat.reduceAdd, Nat.reduceSub, Nat.reduceMul, Nat.reduceEqDiff, reduceCtorEq, Nat.reduceLT, Nat.reduceLeDiff, Nat.reduceGT]); (try any_goals (refine ⟨?_, ?_⟩)); (try any_goals (with_reducible rfl))))
theorem c_dur {h : List Ch} {K : KT} {j : Job} {rate : Int} (H : K (.int .i64 (durI j rate)) h) (s1 : 1 ≤ rate ∧ rate ≤ 2147483648) (s2 : 1 ≤ j.size ∧ j.size ≤ 2147483648) : Does Try.prog 22 [.agg [.int .i64 j.id, .int .i64 j.size, .int .i64 j.ear, .int .i64 j.dl, .int .i64 j.pri], .int .i64 rate] h K :=
  frame_pure (b_dur j rate s1 s2) (br_cons (br_Job j) (br_cons br_int br_nil)) (.inl rfl) (fun _ => rfl) H
abbrev i_dur := Ctr.mk (i := 0) (g := 22) @c_dur
attribute [instance] i_dur
theorem c_rdur {h : List Ch} {K : KT} {j : Job} {rate : Int} (H : K (.int .i64 (durI j rate)) h) (s1 : 1 ≤ rate ∧ rate ≤ 2147483648) (s2 : 1 ≤ j.size ∧ j.size ≤ 2147483648) : Does Try.prog 16 [.agg [.int .i64 j.id, .int .i64 j.size, .int .i64 j.ear, .int .i64 j.dl, .int .i64 j.pri], .int .i64 rate] h K :=
  frame_pure (b_rdur j rate s1 s2) (br_cons (br_Job j) (br_cons br_int br_nil)) (.inl rfl) (fun _ => rfl) H
abbrev i_rdur := Ctr.mk (i := 0) (g := 16) @c_rdur
attribute [instance] i_rdur
/-- one assignment pushes a start behind it -/
def plS (d t : Int) (s : Slo) : Int := if s.st < t + d ∧ t < s.en then s.en else t
def plI (w : Win) (j : Job) (d : Int) (m : List Slo) : Int := m.foldl (plS d) (max w.from_ j.ear)
def plB (w : Win) (j : Job) (d : Int) (m : List Slo) : Bool := decide (plI w j d m + d ≤ min w.to_ j.dl)
/-- bounds of assignments -/
def bdS (m : List Slo) : Prop := ∀ s ∈ m, (0 ≤ s.st ∧ s.st ≤ 1099511627776) ∧ 0 ≤ s.en ∧ s.en ≤ 1099511627776
theorem pl_next {w : Win} {j : Job} {d : Int} {m : List Slo} {k : Nat} (h : k < m.length) : plI w j d (m.take (k + 1)) = plS d (plI w j d (m.take k)) (m.getD k Slo.zero) := by
  unfold plI
  rw [getT (z := Slo.zero) h, List.foldl_append]
  rfl
theorem pl_bd {w : Win} {j : Job} {d : Int} {m : List Slo} (hw : vldW w = true) (hj : vldJ j = true) (hm : bdS m) : 0 ≤ plI w j d m ∧ plI w j d m ≤ 1099511627776 := by
  have a1 := (vldW_iff w).1 hw
  have a2 := (vldJ_iff j).1 hj
  have key : ∀ (m : List Slo) (t : Int), bdS m → (0 ≤ t ∧ t ≤ 1099511627776) → 0 ≤ m.foldl (plS d) t ∧ m.foldl (plS d) t ≤ 1099511627776 := by
    intro m
    induction m with
    | nil => intro t _ h; exact h
    | cons s m ih =>
      intro t hb0 h
      refine ih _ (fun x hx => hb0 x (by simp [hx])) ?_
      have := hb0 s (by simp)
      unfold plS
      split <;> omega
  exact key m _ hm (by omega)
theorem bdS_take {m : List Slo} (h : bdS m) (k : Nat) : bdS (m.take k) := fun s hs => h s (List.take_subset _ _ hs)
theorem b_place (w : Win) (j : Job) (d : Int) (m : List Slo) (hw : vldW w = true) (hj : vldJ j = true) (hm : bdS m) (hd : 1 ≤ d ∧ d ≤ 2147483648) (hl : m.length ≤ 1099511627776) : DoesK Try.prog 0 40 [.agg (WinL w), .agg (JobL j), .int .i64 d, .ro .slo m] [] (EndF 0 (.tup [.int .i64 (plI w j d m), .bool (plB w j d m)]) []) := by
  refine DoesK.close ?_
  have a1 := (vldW_iff w).1 hw
  have a2 := (vldJ_iff j).1 hj
  refine w_body (rs := [.tmp 8, .tmp 9]) (tm := [.agg (WinL w), .agg (JobL j), .int .i64 d, .ro .slo m, .any, .any, .any, .any, .any, .any, .any, .any, .any, .any, .any, .any, .any, .any, .any, .any, .any, .any, .any, .any, .any, .any, .any, .any, .any, .any, .any, .any, .any, .any, .any, .any, .any, .any, .any, .any, .any, .any, .any, .any, .any, .any, .any, .any, .any]) fn_40 rfl rfl rfl rfl fun R hR => ?_
  (all_goals (try ((first | (with_reducible refine wp_id ?_) | (with_reducible refine does_id ?_) | (with_reducible refine ops_id ?_)); refine walk ?_; (repeat' (first | exact trivial | with_reducible refine And.intro ?_ ?_)); all_goals (repeat (first | (with_reducible refine ImpB.mk fun hb => ?_) | (with_reducible refine ImpK.mk fun hK => ?_) | (with_reducible refine ImpF.mk fun hF => ?_) | (with_reducible refine ImpQ.mk fun hp => ?_) | (with_reducible refine AllE.mk fun p => ?_) | (with_reducible refine AllR.mk fun rest => ?_) | (with_reducible refine AllK.mk fun K => ?_))))); repeat' (with_reducible refine And.intro ?_ ?_))
  any_goals ((try (refine w_seq fun K hK => ?_)); (try (refine w_block ?_)); refine w_loop (A := Nat) (fun k => k ≤ m.length) (fun k => m.length - k) (fun k => [(20, .int .i64 k), (10, .int .i64 (plI w j d (m.take k)))]) (fun _ => []) (0) (ws := ?ws1) (tk := ?tk1) ?hw1 ?ht1 ?hi ?h0 ?LH1; (case hw1 => simp only [go_sem, decide_true, decide_false, Int.reduceToNat, Nat.min_eq_left, Nat.min_eq_right, Int.reducePow, Nat.reducePow, Int.reduceLE, Int.reduceLT, Int.reduceMul, Int.reduceAdd, Int.reduceSub, Int.reduceNeg, Bool.not_true, Bool.not_false, Bool.not_not, ↓reduceIte, Nat.reduceAdd, Nat.reduceSub, Nat.reduceMul, Nat.reduceEqDiff, reduceCtorEq, Nat.reduceLT, Nat.reduceLeDiff, Nat.reduceGT]; exact rfl); (case ht1 => simp only [go_sem, decide_true, decide_false, Int.reduceToNat, Nat.min_eq_left, Nat.min_eq_right, Int.reducePow, Nat.reducePow, Int.reduceLE, Int.reduceLT, Int.reduceMul, Int.reduceAdd, Int.reduceSub, Int.reduceNeg, Bool.not_true, Bool.not_false, Bool.not_not, ↓reduceIte, Nat.reduceAdd, Nat.reduceSub, Nat.reduceMul, Nat.reduceEqDiff, reduceCtorEq, Nat.reduceLT, Nat.reduceLeDiff, Nat.reduceGT]; exact rfl); (case' LH1 => rintro k E t hx hE ht; simp only [go_sem] at ht; subst ht; simp only [go_sem]; try dsimp only at hx))
  case hi => exact Nat.zero_le _
  case h0 =>
    (focus (refine ⟨_, _, Gh.refl, [0, 1], rfl, ?_⟩; (refine ⟨?_, ?_, ?_⟩ <;> simp only [go_sem, List.range, List.range.loop, List.nodup_cons, List.nodup_nil, List.mem_cons, List.not_mem_nil, or_false, or_self, decide_true, decide_false, Int.reduceToNat, Nat.min_eq_left, Nat.min_eq_right, Int.reducePow, Nat.reducePow, Int.reduceLE, Int.reduceLT, Int.reduceMul, Int.reduceAdd, Int.reduceSub, Int.reduceNeg, Bool.not_true, Bool.not_false, Bool.not_not, ↓reduceIte, Nat.reduceAdd, Nat.reduceSub, Nat.reduceMul, Nat.reduceEqDiff, reduceCtorEq, Nat.reduceLT, Nat.reduceLeDiff, Nat.reduceGT]); (try any_goals (refine ⟨?_, ?_⟩)); (try any_goals (with_reducible rfl))))
    all_goals rfl
  case LH1 =>
    have hk0 : k ≤ m.length := hx
    have hw1 : IntKind.i64.wrap ((k : Int) + 1) = ((k + 1 : Nat) : Int) := by rw [wrap_i64 _ (by omega) (by omega)]; omega
    have hp := pl_bd (d := d) hw hj (bdS_take hm k)
    have hw2 : IntKind.i64.wrap (plI w j d (m.take k) + d) = plI w j d (m.take k) + d := wrap_i64 _ (by omega) (by omega)
    by_cases hk : k < m.length
    · have hkd : decide ((k : Int) < (m.length : Int)) = true := decide_eq_true (by omega)
      have hn := pl_next (w := w) (j := j) (d := d) hk
      by_cases c1 : (m.getD k Slo.zero).st < plI w j d (m.take k) + d
      · have d1 : decide ((m.getD k Slo.zero).st < plI w j d (m.take k) + d) = true := decide_eq_true c1
        by_cases c2 : plI w j d (m.take k) < (m.getD k Slo.zero).en
        · have d2 : decide (plI w j d (m.take k) < (m.getD k Slo.zero).en) = true := decide_eq_true c2
          have hs : plS d (plI w j d (m.take k)) (m.getD k Slo.zero) = (m.getD k Slo.zero).en := if_pos ⟨c1, c2⟩
          (have zx1 := @hkd; have zx2 := @hw1; have zx3 := @hw2; have zx4 := @d1; have zx5 := @d2; all_goals (try ((first | (with_reducible refine wp_id ?_) | (with_reducible refine does_id ?_) | (with_reducible refine ops_id ?_)); refine walk ?_; (repeat' (first | exact trivial | with_reducible refine And.intro ?_ ?_)); all_goals (repeat (first | (with_reducible refine ImpB.mk fun hb => ?_) | (with_reducible refine ImpK.mk fun hK => ?_) | (with_reducible refine ImpF.mk fun hF => ?_) | (with_reducible refine ImpQ.mk fun hp => ?_) | (with_reducible refine AllE.mk fun p => ?_) | (with_reducible refine AllR.mk fun rest => ?_) | (with_reducible refine AllK.mk fun K => ?_))))); repeat' (with_reducible refine And.intro ?_ ?_))
          (all_goals first | exact Int.natCast_nonneg _ | exact Int.ofNat_lt.2 (by assumption) | assumption | omega | exact Nat.le_refl _ | (exfalso; simp at hb; done) | (simp only [go_sem, decide_true, decide_false, Int.reduceToNat, Nat.min_eq_left, Nat.min_eq_right, Int.reducePow, Nat.reducePow, Int.reduceLE, Int.reduceLT, Int.reduceMul, Int.reduceAdd, Int.reduceSub, Int.reduceNeg, Bool.not_true, Bool.not_false, Bool.not_not, ↓reduceIte, Nat.reduceAdd, Nat.reduceSub, Nat.reduceMul, Nat.reduceEqDiff, reduceCtorEq, Nat.reduceLT, Nat.reduceLeDiff, Nat.reduceGT]; done) | (unfold capM; omega) | (simp only [List.length_drop, List.length_take, List.length_append, List.length_cons, List.length_nil]; omega) | skip)
          refine ⟨k + 1, ⟨by first | omega | (dsimp only; omega), by first | omega | (dsimp only; omega)⟩, ?_⟩
          (focus (refine ⟨_, _, Gh.refl, [0, 1], rfl, ?_⟩; (refine ⟨?_, ?_, ?_⟩ <;> simp only [go_sem, List.range, List.range.loop, List.nodup_cons, List.nodup_nil, List.mem_cons, List.not_mem_nil, or_false, or_self, decide_true, decide_false, Int.reduceToNat, Nat.min_eq_left, Nat.min_eq_right, Int.reducePow, Nat.reducePow, Int.reduceLE, Int.reduceLT, Int.reduceMul, Int.reduceAdd, Int.reduceSub, Int.reduceNeg, Bool.not_true, Bool.not_false, Bool.not_not, ↓reduceIte, Nat.reduceAdd, Nat.reduceSub, Nat.reduceMul, Nat.reduceEqDiff, reduceCtorEq, Nat.reduceLT, Nat.reduceLeDiff, Nat.reduceGT]); (try any_goals (refine ⟨?_, ?_⟩)); (try any_goals (with_reducible rfl))))
          all_goals first | rfl | exact hn.trans hs | exact (hn.trans hs).symm
        · have d2 : decide (plI w j d (m.take k) < (m.getD k Slo.zero).en) = false := decide_eq_false c2
          have hs : plS d (plI w j d (m.take k)) (m.getD k Slo.zero) = plI w j d (m.take k) := if_neg (fun q => c2 q.2)
          (have zx1 := @hkd; have zx2 := @hw1; have zx3 := @hw2; have zx4 := @d1; have zx5 := @d2; all_goals (try ((first | (with_reducible refine wp_id ?_) | (with_reducible refine does_id ?_) | (with_reducible refine ops_id ?_)); refine walk ?_; (repeat' (first | exact trivial | with_reducible refine And.intro ?_ ?_)); all_goals (repeat (first | (with_reducible refine ImpB.mk fun hb => ?_) | (with_reducible refine ImpK.mk fun hK => ?_) | (with_reducible refine ImpF.mk fun hF => ?_) | (with_reducible refine ImpQ.mk fun hp => ?_) | (with_reducible refine AllE.mk fun p => ?_) | (with_reducible refine AllR.mk fun rest => ?_) | (with_reducible refine AllK.mk fun K => ?_))))); repeat' (with_reducible refine And.intro ?_ ?_))
          (all_goals first | exact Int.natCast_nonneg _ | exact Int.ofNat_lt.2 (by assumption) | assumption | omega | exact Nat.le_refl _ | (exfalso; simp at hb; done) | (simp only [go_sem, decide_true, decide_false, Int.reduceToNat, Nat.min_eq_left, Nat.min_eq_right, Int.reducePow, Nat.reducePow, Int.reduceLE, Int.reduceLT, Int.reduceMul, Int.reduceAdd, Int.reduceSub, Int.reduceNeg, Bool.not_true, Bool.not_false, Bool.not_not, ↓reduceIte, Nat.reduceAdd, Nat.reduceSub, Nat.reduceMul, Nat.reduceEqDiff, reduceCtorEq, Nat.reduceLT, Nat.reduceLeDiff, Nat.reduceGT]; done) | (unfold capM; omega) | (simp only [List.length_drop, List.length_take, List.length_append, List.length_cons, List.length_nil]; omega) | skip)
          refine ⟨k + 1, ⟨by first | omega | (dsimp only; omega), by first | omega | (dsimp only; omega)⟩, ?_⟩
          (focus (refine ⟨_, _, Gh.refl, [0, 1], rfl, ?_⟩; (refine ⟨?_, ?_, ?_⟩ <;> simp only [go_sem, List.range, List.range.loop, List.nodup_cons, List.nodup_nil, List.mem_cons, List.not_mem_nil, or_false, or_self, decide_true, decide_false, Int.reduceToNat, Nat.min_eq_left, Nat.min_eq_right, Int.reducePow, Nat.reducePow, Int.reduceLE, Int.reduceLT, Int.reduceMul, Int.reduceAdd, Int.reduceSub, Int.reduceNeg, Bool.not_true, Bool.not_false, Bool.not_not, ↓reduceIte, Nat.reduceAdd, Nat.reduceSub, Nat.reduceMul, Nat.reduceEqDiff, reduceCtorEq, Nat.reduceLT, Nat.reduceLeDiff, Nat.reduceGT]); (try any_goals (refine ⟨?_, ?_⟩)); (try any_goals (with_reducible rfl))))
          all_goals first | rfl | exact hn.trans hs | exact (hn.trans hs).symm
      · have d1 : decide ((m.getD k Slo.zero).st < plI w j d (m.take k) + d) = false := decide_eq_false c1
        have hs : plS d (plI w j d (m.take k)) (m.getD k Slo.zero) = plI w j d (m.take k) := if_neg (fun q => c1 q.1)
        (have zx1 := @hkd; have zx2 := @hw1; have zx3 := @hw2; have zx4 := @d1; all_goals (try ((first | (with_reducible refine wp_id ?_) | (with_reducible refine does_id ?_) | (with_reducible refine ops_id ?_)); refine walk ?_; (repeat' (first | exact trivial | with_reducible refine And.intro ?_ ?_)); all_goals (repeat (first | (with_reducible refine ImpB.mk fun hb => ?_) | (with_reducible refine ImpK.mk fun hK => ?_) | (with_reducible refine ImpF.mk fun hF => ?_) | (with_reducible refine ImpQ.mk fun hp => ?_) | (with_reducible refine AllE.mk fun p => ?_) | (with_reducible refine AllR.mk fun rest => ?_) | (with_reducible refine AllK.mk fun K => ?_))))); repeat' (with_reducible refine And.intro ?_ ?_))
        (all_goals first | exact Int.natCast_nonneg _ | exact Int.ofNat_lt.2 (by assumption) | assumption | omega | exact Nat.le_refl _ | (exfalso; simp at hb; done) | (simp only [go_sem, decide_true, decide_false, Int.reduceToNat, Nat.min_eq_left, Nat.min_eq_right, Int.reducePow, Nat.reducePow, Int.reduceLE, Int.reduceLT, Int.reduceMul, Int.reduceAdd, Int.reduceSub, Int.reduceNeg, Bool.not_true, Bool.not_false, Bool.not_not, ↓reduceIte, Nat.reduceAdd, Nat.reduceSub, Nat.reduceMul, Nat.reduceEqDiff, reduceCtorEq, Nat.reduceLT, Nat.reduceLeDiff, Nat.reduceGT]; done) | (unfold capM; omega) | (simp only [List.length_drop, List.length_take, List.length_append, List.length_cons, List.length_nil]; omega) | skip)
        all_goals (refine ⟨k + 1, ⟨by first | omega | (dsimp only; omega), by first | omega | (dsimp only; omega)⟩, ?_⟩)
        all_goals (focus (refine ⟨_, _, Gh.refl, [0, 1], rfl, ?_⟩; (refine ⟨?_, ?_, ?_⟩ <;> simp only [go_sem, List.range, List.range.loop, List.nodup_cons, List.nodup_nil, List.mem_cons, List.not_mem_nil, or_false, or_self, decide_true, decide_false, Int.reduceToNat, Nat.min_eq_left, Nat.min_eq_right, Int.reducePow, Nat.reducePow, Int.reduceLE, Int.reduceLT, Int.reduceMul, Int.reduceAdd, Int.reduceSub, Int.reduceNeg, Bool.not_true, Bool.not_false, Bool.not_not, ↓reduceIte, Nat.reduceAdd, Nat.reduceSub, Nat.reduceMul, Nat.reduceEqDiff, reduceCtorEq, Nat.reduceLT, Nat.reduceLeDiff, Nat.reduceGT]); (try any_goals (refine ⟨?_, ?_⟩)); (try any_goals (with_reducible rfl))))
        all_goals first | rfl | exact hn.trans hs | exact (hn.trans hs).symm
    · have hkd : decide ((k : Int) < (m.length : Int)) = false := decide_eq_false (by omega)
      rw [List.take_of_length_le (by omega)] at hw2 hp ⊢
      (have zx1 := @hkd; have zx2 := @hw2; all_goals (try ((first | (with_reducible refine wp_id ?_) | (with_reducible refine does_id ?_) | (with_reducible refine ops_id ?_)); refine walk ?_; (repeat' (first | exact trivial | with_reducible refine And.intro ?_ ?_)); all_goals (repeat (first | (with_reducible refine ImpB.mk fun hb => ?_) | (with_reducible refine ImpK.mk fun hK => ?_) | (with_reducible refine ImpF.mk fun hF => ?_) | (with_reducible refine ImpQ.mk fun hp => ?_) | (with_reducible refine AllE.mk fun p => ?_) | (with_reducible refine AllR.mk fun rest => ?_) | (with_reducible refine AllK.mk fun K => ?_))))); repeat' (with_reducible refine And.intro ?_ ?_))
      all_goals ((focus (refine ⟨_, _, Gh.refl, [], rfl, ?_⟩; (refine ⟨?_, ?_, ?_⟩ <;> simp only [go_sem, List.range, List.range.loop, List.nodup_cons, List.nodup_nil, List.mem_cons, List.not_mem_nil, or_false, or_self, decide_true, decide_false, Int.reduceToNat, Nat.min_eq_left, Nat.min_eq_right, Int.reducePow, Nat.reducePow, Int.reduceLE, Int.reduceLT, Int.reduceMul, Int.reduceAdd, Int.reduceSub, Int.reduceNeg, Bool.not_true, Bool.not_false, Bool.not_not, ↓reduceIte, Nat.reduceAdd, Nat.reduceSub, Nat.reduceMul, Nat.reduceEqDiff, reduceCtorEq, Nat.reduceLT, Nat.reduceLeDiff, Nat.reduceGT]); (try any_goals (refine ⟨?_, ?_⟩)); (try any_goals (with_reducible rfl)))))
      all_goals first | rfl | (unfold plB; rw [decide_eq_true_eq] at hb; exact decide_eq_decide.2 (by omega)) | (unfold plB; (try simp only [decide_eq_true_eq, decide_eq_false_iff_not, Bool.not_eq_true', Bool.not_eq_false', Bool.not_eq_true, Bool.not_eq_false, decide_not, decide_true, decide_false, Bool.decide_and, Bool.and_eq_true, Bool.or_eq_true, Bool.and_eq_false_imp, Decidable.not_not] at *); first | omega | (symm; rw [decide_eq_true_eq]; omega) | (symm; rw [decide_eq_false_iff_not]; omega)) | skip
theorem c_place {h : List Ch} {K : KT} {w : Win} {j : Job} {d : Int} {m : List Slo} {x : AV} (H : K (.tup [.int .i64 (plI w j d m), .bool (plB w j d m)]) h) (b1 : brA [] h (.ro .slo m) x) (s1 : vldW w = true) (s2 : vldJ j = true) (s3 : bdS m) (s4 : 1 ≤ d ∧ d ≤ 2147483648) (s5 : m.length ≤ 1099511627776) : Does Try.prog 40 [.agg [.int .i64 w.st, .int .i64 w.from_, .int .i64 w.to_, .int .i64 w.va], .agg [.int .i64 j.id, .int .i64 j.size, .int .i64 j.ear, .int .i64 j.dl, .int .i64 j.pri], .int .i64 d, x] h K :=
  frame_pure (b_place w j d m s1 s2 s3 s4 s5) (br_cons (br_Win w) (br_cons (br_Job j) (br_cons br_int (br_cons b1 br_nil)))) (.inr rfl) (fun _ => rfl) H
abbrev i_place := Ctr.mk (i := 0) (g := 40) @c_place
attribute [instance] i_place
theorem b_rplace (w : Win) (j : Job) (d : Int) (m : List Slo) (hw : vldW w = true) (hj : vldJ j = true) (hm : bdS m) (hd : 1 ≤ d ∧ d ≤ 2147483648) (hl : m.length ≤ 1099511627776) : DoesK Try.prog 0 29 [.agg (WinL w), .agg (JobL j), .int .i64 d, .ro .slo m] [] (EndF 0 (.tup [.int .i64 (plI w j d m), .bool (plB w j d m)]) []) := by
  refine DoesK.close ?_
  have a1 := (vldW_iff w).1 hw
  have a2 := (vldJ_iff j).1 hj
  refine w_body (rs := [.tmp 8, .tmp 9]) (tm := [.agg (WinL w), .agg (JobL j), .int .i64 d, .ro .slo m, .any, .any, .any, .any, .any, .any, .any, .any, .any, .any, .any, .any, .any, .any, .any, .any, .any, .any, .any, .any, .any, .any, .any, .any, .any, .any, .any, .any, .any, .any, .any, .any, .any, .any, .any, .any, .any, .any, .any, .any, .any, .any, .any, .any, .any, .any, .any, .any, .any, .any, .any, .any, .any, .any, .any, .any, .any]) fn_29 rfl rfl rfl rfl fun R hR => ?_
  (all_goals (try ((first | (with_reducible refine wp_id ?_) | (with_reducible refine does_id ?_) | (with_reducible refine ops_id ?_)); refine walk ?_; (repeat' (first | exact trivial | with_reducible refine And.intro ?_ ?_)); all_goals (repeat (first | (with_reducible refine ImpB.mk fun hb => ?_) | (with_reducible refine ImpK.mk fun hK => ?_) | (with_reducible refine ImpF.mk fun hF => ?_) | (with_reducible refine ImpQ.mk fun hp => ?_) | (with_reducible refine AllE.mk fun p => ?_) | (with_reducible refine AllR.mk fun rest => ?_) | (with_reducible refine AllK.mk fun K => ?_))))); repeat' (with_reducible refine And.intro ?_ ?_))
  any_goals ((try (refine w_seq fun K hK => ?_)); (try (refine w_block ?_)); refine w_loop (A := Nat) (fun k => k ≤ m.length) (fun k => m.length - k) (fun k => [(11, .int .i64 k), (10, .int .i64 (plI w j d (m.take k)))]) (fun _ => []) (0) (ws := ?ws2) (tk := ?tk2) ?hw2 ?ht2 ?hi ?h0 ?LH2; (case hw2 => simp only [go_sem, decide_true, decide_false, Int.reduceToNat, Nat.min_eq_left, Nat.min_eq_right, Int.reducePow, Nat.reducePow, Int.reduceLE, Int.reduceLT, Int.reduceMul, Int.reduceAdd, Int.reduceSub, Int.reduceNeg, Bool.not_true, Bool.not_false, Bool.not_not, ↓reduceIte, Nat.reduceAdd, Nat.reduceSub, Nat.reduceMul, Nat.reduceEqDiff, reduceCtorEq, Nat.reduceLT, Nat.reduceLeDiff, Nat.reduceGT]; exact rfl); (case ht2 => simp only [go_sem, decide_true, decide_false, Int.reduceToNat, Nat.min_eq_left, Nat.min_eq_right, Int.reducePow, Nat.reducePow, Int.reduceLE, Int.reduceLT, Int.reduceMul, Int.reduceAdd, Int.reduceSub, Int.reduceNeg, Bool.not_true, Bool.not_false, Bool.not_not, ↓reduceIte, Nat.reduceAdd, Nat.reduceSub, Nat.reduceMul, Nat.reduceEqDiff, reduceCtorEq, Nat.reduceLT, Nat.reduceLeDiff, Nat.reduceGT]; exact rfl); (case' LH2 => rintro k E t hx hE ht; simp only [go_sem] at ht; subst ht; simp only [go_sem]; try dsimp only at hx))
  case hi => exact Nat.zero_le _
  case h0 =>
    (focus (refine ⟨_, _, Gh.refl, [0, 1], rfl, ?_⟩; (refine ⟨?_, ?_, ?_⟩ <;> simp only [go_sem, List.range, List.range.loop, List.nodup_cons, List.nodup_nil, List.mem_cons, List.not_mem_nil, or_false, or_self, decide_true, decide_false, Int.reduceToNat, Nat.min_eq_left, Nat.min_eq_right, Int.reducePow, Nat.reducePow, Int.reduceLE, Int.reduceLT, Int.reduceMul, Int.reduceAdd, Int.reduceSub, Int.reduceNeg, Bool.not_true, Bool.not_false, Bool.not_not, ↓reduceIte, Nat.reduceAdd, Nat.reduceSub, Nat.reduceMul, Nat.reduceEqDiff, reduceCtorEq, Nat.reduceLT, Nat.reduceLeDiff, Nat.reduceGT]); (try any_goals (refine ⟨?_, ?_⟩)); (try any_goals (with_reducible rfl))))
    all_goals rfl
  case LH2 =>
    have hk0 : k ≤ m.length := hx
    have hw1 : IntKind.i64.wrap ((k : Int) + 1) = ((k + 1 : Nat) : Int) := by rw [wrap_i64 _ (by omega) (by omega)]; omega
    have hp := pl_bd (d := d) hw hj (bdS_take hm k)
    have hw2 : IntKind.i64.wrap (plI w j d (m.take k) + d) = plI w j d (m.take k) + d := wrap_i64 _ (by omega) (by omega)
    by_cases hk : k < m.length
    · have hkd : decide ((k : Int) < (m.length : Int)) = true := decide_eq_true (by omega)
      have hn := pl_next (w := w) (j := j) (d := d) hk
      by_cases c1 : (m.getD k Slo.zero).st < plI w j d (m.take k) + d
      · have d1 : decide ((m.getD k Slo.zero).st < plI w j d (m.take k) + d) = true := decide_eq_true c1
        by_cases c2 : plI w j d (m.take k) < (m.getD k Slo.zero).en
        · have d2 : decide (plI w j d (m.take k) < (m.getD k Slo.zero).en) = true := decide_eq_true c2
          have hs : plS d (plI w j d (m.take k)) (m.getD k Slo.zero) = (m.getD k Slo.zero).en := if_pos ⟨c1, c2⟩
          (have zx1 := @hkd; have zx2 := @hw1; have zx3 := @hw2; have zx4 := @d1; have zx5 := @d2; all_goals (try ((first | (with_reducible refine wp_id ?_) | (with_reducible refine does_id ?_) | (with_reducible refine ops_id ?_)); refine walk ?_; (repeat' (first | exact trivial | with_reducible refine And.intro ?_ ?_)); all_goals (repeat (first | (with_reducible refine ImpB.mk fun hb => ?_) | (with_reducible refine ImpK.mk fun hK => ?_) | (with_reducible refine ImpF.mk fun hF => ?_) | (with_reducible refine ImpQ.mk fun hp => ?_) | (with_reducible refine AllE.mk fun p => ?_) | (with_reducible refine AllR.mk fun rest => ?_) | (with_reducible refine AllK.mk fun K => ?_))))); repeat' (with_reducible refine And.intro ?_ ?_))
          (all_goals first | exact Int.natCast_nonneg _ | exact Int.ofNat_lt.2 (by assumption) | assumption | omega | exact Nat.le_refl _ | (exfalso; simp at hb; done) | (simp only [go_sem, decide_true, decide_false, Int.reduceToNat, Nat.min_eq_left, Nat.min_eq_right, Int.reducePow, Nat.reducePow, Int.reduceLE, Int.reduceLT, Int.reduceMul, Int.reduceAdd, Int.reduceSub, Int.reduceNeg, Bool.not_true, Bool.not_false, Bool.not_not, ↓reduceIte, Nat.reduceAdd, Nat.reduceSub, Nat.reduceMul, Nat.reduceEqDiff, reduceCtorEq, Nat.reduceLT, Nat.reduceLeDiff, Nat.reduceGT]; done) | (unfold capM; omega) | (simp only [List.length_drop, List.length_take, List.length_append, List.length_cons, List.length_nil]; omega) | skip)
          refine ⟨k + 1, ⟨by first | omega | (dsimp only; omega), by first | omega | (dsimp only; omega)⟩, ?_⟩
          (focus (refine ⟨_, _, Gh.refl, [0, 1], rfl, ?_⟩; (refine ⟨?_, ?_, ?_⟩ <;> simp only [go_sem, List.range, List.range.loop, List.nodup_cons, List.nodup_nil, List.mem_cons, List.not_mem_nil, or_false, or_self, decide_true, decide_false, Int.reduceToNat, Nat.min_eq_left, Nat.min_eq_right, Int.reducePow, Nat.reducePow, Int.reduceLE, Int.reduceLT, Int.reduceMul, Int.reduceAdd, Int.reduceSub, Int.reduceNeg, Bool.not_true, Bool.not_false, Bool.not_not, ↓reduceIte, Nat.reduceAdd, Nat.reduceSub, Nat.reduceMul, Nat.reduceEqDiff, reduceCtorEq, Nat.reduceLT, Nat.reduceLeDiff, Nat.reduceGT]); (try any_goals (refine ⟨?_, ?_⟩)); (try any_goals (with_reducible rfl))))
          all_goals first | rfl | exact hn.trans hs | exact (hn.trans hs).symm
        · have d2 : decide (plI w j d (m.take k) < (m.getD k Slo.zero).en) = false := decide_eq_false c2
          have hs : plS d (plI w j d (m.take k)) (m.getD k Slo.zero) = plI w j d (m.take k) := if_neg (fun q => c2 q.2)
          (have zx1 := @hkd; have zx2 := @hw1; have zx3 := @hw2; have zx4 := @d1; have zx5 := @d2; all_goals (try ((first | (with_reducible refine wp_id ?_) | (with_reducible refine does_id ?_) | (with_reducible refine ops_id ?_)); refine walk ?_; (repeat' (first | exact trivial | with_reducible refine And.intro ?_ ?_)); all_goals (repeat (first | (with_reducible refine ImpB.mk fun hb => ?_) | (with_reducible refine ImpK.mk fun hK => ?_) | (with_reducible refine ImpF.mk fun hF => ?_) | (with_reducible refine ImpQ.mk fun hp => ?_) | (with_reducible refine AllE.mk fun p => ?_) | (with_reducible refine AllR.mk fun rest => ?_) | (with_reducible refine AllK.mk fun K => ?_))))); repeat' (with_reducible refine And.intro ?_ ?_))
          (all_goals first | exact Int.natCast_nonneg _ | exact Int.ofNat_lt.2 (by assumption) | assumption | omega | exact Nat.le_refl _ | (exfalso; simp at hb; done) | (simp only [go_sem, decide_true, decide_false, Int.reduceToNat, Nat.min_eq_left, Nat.min_eq_right, Int.reducePow, Nat.reducePow, Int.reduceLE, Int.reduceLT, Int.reduceMul, Int.reduceAdd, Int.reduceSub, Int.reduceNeg, Bool.not_true, Bool.not_false, Bool.not_not, ↓reduceIte, Nat.reduceAdd, Nat.reduceSub, Nat.reduceMul, Nat.reduceEqDiff, reduceCtorEq, Nat.reduceLT, Nat.reduceLeDiff, Nat.reduceGT]; done) | (unfold capM; omega) | (simp only [List.length_drop, List.length_take, List.length_append, List.length_cons, List.length_nil]; omega) | skip)
          refine ⟨k + 1, ⟨by first | omega | (dsimp only; omega), by first | omega | (dsimp only; omega)⟩, ?_⟩
          (focus (refine ⟨_, _, Gh.refl, [0, 1], rfl, ?_⟩; (refine ⟨?_, ?_, ?_⟩ <;> simp only [go_sem, List.range, List.range.loop, List.nodup_cons, List.nodup_nil, List.mem_cons, List.not_mem_nil, or_false, or_self, decide_true, decide_false, Int.reduceToNat, Nat.min_eq_left, Nat.min_eq_right, Int.reducePow, Nat.reducePow, Int.reduceLE, Int.reduceLT, Int.reduceMul, Int.reduceAdd, Int.reduceSub, Int.reduceNeg, Bool.not_true, Bool.not_false, Bool.not_not, ↓reduceIte, Nat.reduceAdd, Nat.reduceSub, Nat.reduceMul, Nat.reduceEqDiff, reduceCtorEq, Nat.reduceLT, Nat.reduceLeDiff, Nat.reduceGT]); (try any_goals (refine ⟨?_, ?_⟩)); (try any_goals (with_reducible rfl))))
          all_goals first | rfl | exact hn.trans hs | exact (hn.trans hs).symm
      · have d1 : decide ((m.getD k Slo.zero).st < plI w j d (m.take k) + d) = false := decide_eq_false c1
        have hs : plS d (plI w j d (m.take k)) (m.getD k Slo.zero) = plI w j d (m.take k) := if_neg (fun q => c1 q.1)
        (have zx1 := @hkd; have zx2 := @hw1; have zx3 := @hw2; have zx4 := @d1; all_goals (try ((first | (with_reducible refine wp_id ?_) | (with_reducible refine does_id ?_) | (with_reducible refine ops_id ?_)); refine walk ?_; (repeat' (first | exact trivial | with_reducible refine And.intro ?_ ?_)); all_goals (repeat (first | (with_reducible refine ImpB.mk fun hb => ?_) | (with_reducible refine ImpK.mk fun hK => ?_) | (with_reducible refine ImpF.mk fun hF => ?_) | (with_reducible refine ImpQ.mk fun hp => ?_) | (with_reducible refine AllE.mk fun p => ?_) | (with_reducible refine AllR.mk fun rest => ?_) | (with_reducible refine AllK.mk fun K => ?_))))); repeat' (with_reducible refine And.intro ?_ ?_))
        (all_goals first | exact Int.natCast_nonneg _ | exact Int.ofNat_lt.2 (by assumption) | assumption | omega | exact Nat.le_refl _ | (exfalso; simp at hb; done) | (simp only [go_sem, decide_true, decide_false, Int.reduceToNat, Nat.min_eq_left, Nat.min_eq_right, Int.reducePow, Nat.reducePow, Int.reduceLE, Int.reduceLT, Int.reduceMul, Int.reduceAdd, Int.reduceSub, Int.reduceNeg, Bool.not_true, Bool.not_false, Bool.not_not, ↓reduceIte, Nat.reduceAdd, Nat.reduceSub, Nat.reduceMul, Nat.reduceEqDiff, reduceCtorEq, Nat.reduceLT, Nat.reduceLeDiff, Nat.reduceGT]; done) | (unfold capM; omega) | (simp only [List.length_drop, List.length_take, List.length_append, List.length_cons, List.length_nil]; omega) | skip)
        all_goals (refine ⟨k + 1, ⟨by first | omega | (dsimp only; omega), by first | omega | (dsimp only; omega)⟩, ?_⟩)
        all_goals (focus (refine ⟨_, _, Gh.refl, [0, 1], rfl, ?_⟩; (refine ⟨?_, ?_, ?_⟩ <;> simp only [go_sem, List.range, List.range.loop, List.nodup_cons, List.nodup_nil, List.mem_cons, List.not_mem_nil, or_false, or_self, decide_true, decide_false, Int.reduceToNat, Nat.min_eq_left, Nat.min_eq_right, Int.reducePow, Nat.reducePow, Int.reduceLE, Int.reduceLT, Int.reduceMul, Int.reduceAdd, Int.reduceSub, Int.reduceNeg, Bool.not_true, Bool.not_false, Bool.not_not, ↓reduceIte, Nat.reduceAdd, Nat.reduceSub, Nat.reduceMul, Nat.reduceEqDiff, reduceCtorEq, Nat.reduceLT, Nat.reduceLeDiff, Nat.reduceGT]); (try any_goals (refine ⟨?_, ?_⟩)); (try any_goals (with_reducible rfl))))
        all_goals first | rfl | exact hn.trans hs | exact (hn.trans hs).symm
    · have hkd : decide ((k : Int) < (m.length : Int)) = false := decide_eq_false (by omega)
      rw [List.take_of_length_le (by omega)] at hw2 hp ⊢
      (have zx1 := @hkd; have zx2 := @hw2; all_goals (try ((first | (with_reducible refine wp_id ?_) | (with_reducible refine does_id ?_) | (with_reducible refine ops_id ?_)); refine walk ?_; (repeat' (first | exact trivial | with_reducible refine And.intro ?_ ?_)); all_goals (repeat (first | (with_reducible refine ImpB.mk fun hb => ?_) | (with_reducible refine ImpK.mk fun hK => ?_) | (with_reducible refine ImpF.mk fun hF => ?_) | (with_reducible refine ImpQ.mk fun hp => ?_) | (with_reducible refine AllE.mk fun p => ?_) | (with_reducible refine AllR.mk fun rest => ?_) | (with_reducible refine AllK.mk fun K => ?_))))); repeat' (with_reducible refine And.intro ?_ ?_))
      all_goals ((focus (refine ⟨_, _, Gh.refl, [], rfl, ?_⟩; (refine ⟨?_, ?_, ?_⟩ <;> simp only [go_sem, List.range, List.range.loop, List.nodup_cons, List.nodup_nil, List.mem_cons, List.not_mem_nil, or_false, or_self, decide_true, decide_false, Int.reduceToNat, Nat.min_eq_left, Nat.min_eq_right, Int.reducePow, Nat.reducePow, Int.reduceLE, Int.reduceLT, Int.reduceMul, Int.reduceAdd, Int.reduceSub, Int.reduceNeg, Bool.not_true, Bool.not_false, Bool.not_not, ↓reduceIte, Nat.reduceAdd, Nat.reduceSub, Nat.reduceMul, Nat.reduceEqDiff, reduceCtorEq, Nat.reduceLT, Nat.reduceLeDiff, Nat.reduceGT]); (try any_goals (refine ⟨?_, ?_⟩)); (try any_goals (with_reducible rfl)))))
      all_goals first | rfl | (unfold plB; rw [decide_eq_true_eq] at hb; exact decide_eq_decide.2 (by omega)) | (unfold plB; (try simp only [decide_eq_true_eq, decide_eq_false_iff_not, Bool.not_eq_true', Bool.not_eq_false', Bool.not_eq_true, Bool.not_eq_false, decide_not, decide_true, decide_false, Bool.decide_and, Bool.and_eq_true, Bool.or_eq_true, Bool.and_eq_false_imp, Decidable.not_not] at *); first | omega | (symm; rw [decide_eq_true_eq]; omega) | (symm; rw [decide_eq_false_iff_not]; omega)) | skip
theorem c_rplace {h : List Ch} {K : KT} {w : Win} {j : Job} {d : Int} {m : List Slo} {x : AV} (H : K (.tup [.int .i64 (plI w j d m), .bool (plB w j d m)]) h) (b1 : brA [] h (.ro .slo m) x) (s1 : vldW w = true) (s2 : vldJ j = true) (s3 : bdS m) (s4 : 1 ≤ d ∧ d ≤ 2147483648) (s5 : m.length ≤ 1099511627776) : Does Try.prog 29 [.agg [.int .i64 w.st, .int .i64 w.from_, .int .i64 w.to_, .int .i64 w.va], .agg [.int .i64 j.id, .int .i64 j.size, .int .i64 j.ear, .int .i64 j.dl, .int .i64 j.pri], .int .i64 d, x] h K :=
  frame_pure (b_rplace w j d m s1 s2 s3 s4 s5) (br_cons (br_Win w) (br_cons (br_Job j) (br_cons br_int (br_cons b1 br_nil)))) (.inr rfl) (fun _ => rfl) H
abbrev i_rplace := Ctr.mk (i := 0) (g := 29) @c_rplace
attribute [instance] i_rplace
end Go.V

set_option maxRecDepth 100000
set_option maxHeartbeats 8000000
namespace Go.V
open Go.Proofs
def inB (w : List Win) (l : List Job) (x : Slo) : Prop := (0 ≤ x.job ∧ x.job < l.length) ∧ 0 ≤ x.win ∧ x.win < w.length
instance (w : List Win) (l : List Job) (x : Slo) : Decidable (inB w l x) := by unfold inB; exact inferInstance
def jAt (l : List Job) (x : Slo) : Job := l.getD x.job.toNat Job.zero
def cAt (w : List Win) (x : Slo) : Win := w.getD x.win.toNat Win.zero
def tmB (c : Win) (j : Job) (rate : Int) (x : Slo) : Prop := (c.from_ ≤ x.st ∧ j.ear ≤ x.st) ∧ (x.en ≤ c.to_ ∧ x.en ≤ j.dl) ∧ x.en - x.st = durI j rate
instance (c : Win) (j : Job) (rate : Int) (x : Slo) : Decidable (tmB c j rate x) := by unfold tmB; exact inferInstance
/-- an assignment fits its job and its contact -/
def fitB (w : List Win) (l : List Job) (rate : Int) (x : Slo) : Bool := decide (inB w l x ∧ tmB (cAt w x) (jAt l x) rate x)
theorem us_all {w : List Win} {l : List Job} {rate : Int} {x : Slo} (h : usB w l rate = true) (hi : inB w l x) : (1 ≤ rate ∧ rate ≤ 2147483648) ∧ vldW (cAt w x) = true ∧ vldJ (jAt l x) = true := by
  obtain ⟨h1, h2, h3, h4, h5⟩ := (usB_iff w l rate).1 h
  obtain ⟨⟨a, b⟩, c, d⟩ := hi
  exact ⟨h1, List.all_eq_true.1 h4 _ (getM (by omega)), List.all_eq_true.1 h5 _ (getM (by omega))⟩
theorem b_fits (w : List Win) (l : List Job) (rate : Int) (x : Slo) (hu : usB w l rate = true) (hx1 : IntKind.i64.has x.st) (hx2 : IntKind.i64.has x.en) : DoesK Try.prog 0 31 [.ro .win w, .ro .job l, .int .i64 rate, .agg (SloL x)] [] (EndF 0 (.bool (fitB w l rate x)) []) := by
  refine DoesK.close ?_
  have hsw : SwapAt 3 10 := ⟨⟩
  by_cases hin : inB w l x
  · obtain ⟨hr, hc, hj⟩ := us_all hu hin
    obtain ⟨⟨i1, i2⟩, i3, i4⟩ := id hin
    have d1 : decide (x.job < 0) = false := decide_eq_false (by omega)
    have d2 : decide ((l.length : Int) ≤ x.job) = false := decide_eq_false (by omega)
    have d3 : decide (x.win < 0) = false := decide_eq_false (by omega)
    have d4 : decide ((w.length : Int) ≤ x.win) = false := decide_eq_false (by omega)
    have dd := And.intro d1 (And.intro d2 (And.intro d3 d4))
    have hfe : fitB w l rate x = decide (tmB (cAt w x) (jAt l x) rate x) := decide_eq_decide.2 ⟨fun q => q.2, fun q => ⟨hin, q⟩⟩
    obtain ⟨j, hje⟩ : ∃ j, l.getD x.job.toNat Job.zero = j := ⟨_, rfl⟩
    obtain ⟨c, hce⟩ : ∃ c, w.getD x.win.toNat Win.zero = c := ⟨_, rfl⟩
    have hj' : jAt l x = j := hje
    have hc' : cAt w x = c := hce
    rw [hj'] at hj
    rw [hc'] at hc
    rw [hfe, hj', hc']
    have a1 := (vldW_iff c).1 hc
    have a2 := (vldJ_iff j).1 hj
    have hdb := dur_bd hr a2.1
    refine w_body (rs := [.tmp 8]) (tm := [.ro .win w, .ro .job l, .int .i64 rate, .agg (SloL x), .any, .any, .any, .any, .any, .any, .any, .any, .any, .any, .any, .any, .any, .any, .any, .any, .any, .any, .any, .any, .any, .any, .any, .any, .any, .any, .any, .any, .any, .any, .any, .any, .any, .any, .any, .any, .any, .any, .any, .any, .any, .any, .any, .any, .any, .any, .any, .any, .any, .any, .any, .any, .any, .any, .any, .any, .any, .any, .any, .any, .any, .any, .any, .any, .any, .any, .any, .any, .any, .any, .any, .any, .any, .any, .any]) fn_31 rfl rfl rfl rfl fun R hR => ?_
    (have zx1 := @dd; have zx2 := @hje; have zx3 := @hce; all_goals (try ((first | (with_reducible refine wp_id ?_) | (with_reducible refine does_id ?_) | (with_reducible refine ops_id ?_)); refine walk ?_; (repeat' (first | exact trivial | with_reducible refine And.intro ?_ ?_)); all_goals (repeat (first | (with_reducible refine ImpB.mk fun hb => ?_) | (with_reducible refine ImpK.mk fun hK => ?_) | (with_reducible refine ImpF.mk fun hF => ?_) | (with_reducible refine ImpQ.mk fun hp => ?_) | (with_reducible refine AllE.mk fun p => ?_) | (with_reducible refine AllR.mk fun rest => ?_) | (with_reducible refine AllK.mk fun K => ?_))))); repeat' (with_reducible refine And.intro ?_ ?_))
    all_goals first | exact i1 | exact i2 | exact i3 | exact i4 | skip
    all_goals (try simp only [decide_eq_true_eq, decide_eq_false_iff_not, Bool.not_eq_true', Bool.not_eq_false', Bool.not_eq_true, Bool.not_eq_false, decide_not, decide_true, decide_false, Bool.decide_and, Bool.and_eq_true, Bool.or_eq_true, Bool.and_eq_false_imp, Decidable.not_not] at *)
    all_goals (focus (refine ⟨_, _, Gh.refl, [], rfl, ?_⟩; (refine ⟨?_, ?_, ?_⟩ <;> simp only [go_sem, List.range, List.range.loop, List.nodup_cons, List.nodup_nil, List.mem_cons, List.not_mem_nil, or_false, or_self, decide_true, decide_false, Int.reduceToNat, Nat.min_eq_left, Nat.min_eq_right, Int.reducePow, Nat.reducePow, Int.reduceLE, Int.reduceLT, Int.reduceMul, Int.reduceAdd, Int.reduceSub, Int.reduceNeg, Bool.not_true, Bool.not_false, Bool.not_not, ↓reduceIte, Nat.reduceAdd, Nat.reduceSub, Nat.reduceMul, Nat.reduceEqDiff, reduceCtorEq, Nat.reduceLT, Nat.reduceLeDiff, Nat.reduceGT]); (try any_goals (refine ⟨?_, ?_⟩)); (try any_goals (with_reducible rfl))))
    all_goals first | (refine decide_eq_false ?_; unfold tmB; omega) | (rw [wrap_i64 _ (by omega) (by omega)]; refine decide_eq_decide.2 ?_; unfold tmB; omega) | skip
  · have hf : fitB w l rate x = false := decide_eq_false (fun q => hin q.1)
    rw [hf]
    refine w_body (rs := [.tmp 8]) (tm := [.ro .win w, .ro .job l, .int .i64 rate, .agg (SloL x), .any, .any, .any, .any, .any, .any, .any, .any, .any, .any, .any, .any, .any, .any, .any, .any, .any, .any, .any, .any, .any, .any, .any, .any, .any, .any, .any, .any, .any, .any, .any, .any, .any, .any, .any, .any, .any, .any, .any, .any, .any, .any, .any, .any, .any, .any, .any, .any, .any, .any, .any, .any, .any, .any, .any, .any, .any, .any, .any, .any, .any, .any, .any, .any, .any, .any, .any, .any, .any, .any, .any, .any, .any, .any, .any]) fn_31 rfl rfl rfl rfl fun R hR => ?_
    (all_goals (try ((first | (with_reducible refine wp_id ?_) | (with_reducible refine does_id ?_) | (with_reducible refine ops_id ?_)); refine walk ?_; (repeat' (first | exact trivial | with_reducible refine And.intro ?_ ?_)); all_goals (repeat (first | (with_reducible refine ImpB.mk fun hb => ?_) | (with_reducible refine ImpK.mk fun hK => ?_) | (with_reducible refine ImpF.mk fun hF => ?_) | (with_reducible refine ImpQ.mk fun hp => ?_) | (with_reducible refine AllE.mk fun p => ?_) | (with_reducible refine AllR.mk fun rest => ?_) | (with_reducible refine AllK.mk fun K => ?_))))); repeat' (with_reducible refine And.intro ?_ ?_))
    all_goals first | ((focus (refine ⟨_, _, Gh.refl, [], rfl, ?_⟩; (refine ⟨?_, ?_, ?_⟩ <;> simp only [go_sem, List.range, List.range.loop, List.nodup_cons, List.nodup_nil, List.mem_cons, List.not_mem_nil, or_false, or_self, decide_true, decide_false, Int.reduceToNat, Nat.min_eq_left, Nat.min_eq_right, Int.reducePow, Nat.reducePow, Int.reduceLE, Int.reduceLT, Int.reduceMul, Int.reduceAdd, Int.reduceSub, Int.reduceNeg, Bool.not_true, Bool.not_false, Bool.not_not, ↓reduceIte, Nat.reduceAdd, Nat.reduceSub, Nat.reduceMul, Nat.reduceEqDiff, reduceCtorEq, Nat.reduceLT, Nat.reduceLeDiff, Nat.reduceGT]); (try any_goals (refine ⟨?_, ?_⟩)); (try any_goals (with_reducible rfl)))); done) | (exfalso; unfold inB at hin; (try simp only [decide_eq_true_eq, decide_eq_false_iff_not, Bool.not_eq_true', Bool.not_eq_false', Bool.not_eq_true, Bool.not_eq_false, decide_not, decide_true, decide_false, Bool.decide_and, Bool.and_eq_true, Bool.or_eq_true, Bool.and_eq_false_imp, Decidable.not_not] at *); omega) | skip
theorem c_fits {h : List Ch} {K : KT} {w : List Win} {l : List Job} {rate : Int} {x : Slo} {a b : AV} (H : K (.bool (fitB w l rate x)) h) (b1 : brA [] h (.ro .win w) a) (b2 : brA [] h (.ro .job l) b) (s1 : usB w l rate = true) (s2 : IntKind.i64.has x.st) (s3 : IntKind.i64.has x.en) : Does Try.prog 31 [a, b, .int .i64 rate, .agg [.int .i64 x.job, .int .i64 x.win, .int .i64 x.st, .int .i64 x.en]] h K :=
  frame_pure (b_fits w l rate x s1 s2 s3) (br_cons b1 (br_cons b2 (br_cons br_int (br_cons (br_Slo x) br_nil)))) (.inr rfl) (fun _ => rfl) H
abbrev i_fits := Ctr.mk (i := 0) (g := 31) @c_fits
attribute [instance] i_fits
/-- two assignments get in each other's way -/
def ovB (a b : Slo) : Prop := a.job = b.job ∨ (a.st < b.en ∧ b.st < a.en)
instance (a b : Slo) : Decidable (ovB a b) := by unfold ovB; exact inferInstance
/-- assignments respect contacts, jobs and rate: those ahead of k -/
def chkU (w : List Win) (l : List Job) (rate : Int) (s : List Slo) (k : Nat) : Prop := ∀ i, i < k → fitB w l rate (s.getD i Slo.zero) = true ∧ ∀ j, j < i → ¬ ovB (s.getD i Slo.zero) (s.getD j Slo.zero)
instance (w : List Win) (l : List Job) (rate : Int) (s : List Slo) (k : Nat) : Decidable (chkU w l rate s k) := by unfold chkU; exact inferInstance
def chkB (w : List Win) (l : List Job) (rate : Int) (s : List Slo) : Bool := usB w l rate && decide (chkU w l rate s s.length)
end Go.V
