/-
  Assignments: the program's Assign.
  Assignments: the reference's insert and order.
-/
import Derived.Test.YtalpgifnkajkbaaPart18
set_option linter.unusedVariables false
set_option linter.unusedSimpArgs false
set_option maxRecDepth 100000
set_option maxHeartbeats 16000000
namespace Go.V
open Go.Proofs
def iotaI (n : Nat) : List Int := (List.range n).map fun k : Nat => (k : Int)
theorem iota_len (n : Nat) : (iotaI n).length = n := by unfold iotaI; simp
theorem iota_next (n : Nat) : iotaI (n + 1) = iotaI n ++ [(n : Int)] := by unfold iotaI; rw [List.range_succ, List.map_append]; rfl
theorem iota_in {l : List Job} : ∀ x ∈ iotaI l.length, inJ l x := fun x hx => by
  unfold iotaI at hx
  obtain ⟨k, hk, rfl⟩ := List.mem_map.1 hx
  have := List.mem_range.1 hk
  exact ⟨by omega, by omega⟩
/-- one job more -/
def insS (m : List Slo) (s : Slo) : List Slo := m.take (bsS m s.st) ++ s :: m.drop (bsS m s.st)
def jbI (l : List Job) (i : Int) : Job := l.getD i.toNat Job.zero
def stJ (w : List Win) (l : List Job) (rate : Int) (p : List Slo × List Int) (i : Int) : List Slo × List Int :=
  if asB w (jbI l i) (durI (jbI l i) rate) p.1 then (insS p.1 { asS w (jbI l i) (durI (jbI l i) rate) p.1 with job := i }, p.2) else (p.1, p.2 ++ [i])
def ordJ (l : List Job) : List Int := srt (keyJ l) (iotaI l.length)
def runJ (w : List Win) (l : List Job) (rate : Int) (o : List Int) : List Slo × List Int := o.foldl (stJ w l rate) ([], [])
theorem run_next {w : List Win} {l : List Job} {rate : Int} {o : List Int} {k : Nat} (h : k < o.length) : runJ w l rate (o.take (k + 1)) = stJ w l rate (runJ w l rate (o.take k)) (o.getD k 0) := by
  unfold runJ
  rw [getT (z := (0 : Int)) h, List.foldl_append]
  rfl
/-- what holds of the assignments made -/
def okM (m : List Slo) : Prop := bdS m ∧ srtS m
theorem bsS_lt {m : List Slo} {t : Int} {x : Slo} (h : x ∈ m.take (bsS m t)) : x.st < t := by
  unfold bsS at h
  have e : m.take (m.takeWhile fun x => decide (x.st < t)).length = m.takeWhile fun x => decide (x.st < t) := (List.prefix_iff_eq_take.1 (List.takeWhile_prefix _)).symm
  rw [e] at h
  have := List.all_takeWhile (p := fun x : Slo => decide (x.st < t)) (l := m)
  exact of_decide_eq_true (List.all_eq_true.1 this _ h)
theorem bsS_ge {t : Int} {x : Slo} : ∀ {m : List Slo}, srtS m → x ∈ m.drop (bsS m t) → t ≤ x.st
  | [], _, h => by simp [bsS] at h
  | y :: ys, hs, h => by
    have hs' := List.pairwise_cons.1 hs
    unfold bsS at h
    rw [List.takeWhile_cons] at h
    by_cases q : y.st < t
    · rw [decide_eq_true q, if_pos rfl, List.length_cons, List.drop_succ_cons] at h
      exact bsS_ge hs'.2 h
    · rw [decide_eq_false q] at h
      have h' : x ∈ y :: ys := h
      rcases List.mem_cons.1 h' with rfl | h'
      · omega
      · have := hs'.1 x h'; omega
theorem okM_ins {m : List Slo} {s : Slo} (h : okM m) (h1 : 0 ≤ s.st ∧ s.st ≤ 1099511627776) (h2 : 0 ≤ s.en ∧ s.en ≤ 1099511627776) : okM (insS m s) := by
  obtain ⟨hb, hs⟩ := h
  unfold insS
  refine ⟨fun x hx => ?_, ?_⟩
  · rcases List.mem_append.1 hx with hx | hx
    · exact hb x (List.take_subset _ _ hx)
    · rcases List.mem_cons.1 hx with rfl | hx
      · exact ⟨h1, h2⟩
      · exact hb x (List.drop_subset _ _ hx)
  · refine List.pairwise_append.2 ⟨hs.sublist (List.take_sublist _ _), List.pairwise_cons.2 ⟨fun x hx => bsS_ge hs hx, hs.sublist (List.drop_sublist _ _)⟩, fun x hx y hy => ?_⟩
    have := bsS_lt hx
    rcases List.mem_cons.1 hy with rfl | hy
    · omega
    · have := bsS_ge hs hy; omega
theorem insS_len {m : List Slo} {s : Slo} : (insS m s).length = m.length + 1 := by
  have := bsS_le m s.st
  unfold insS
  rw [List.length_append, List.length_cons, List.length_take, List.length_drop]
  omega
theorem us_good {w : List Win} {l : List Job} {rate : Int} (hu : usB w l rate = true) : (1 ≤ rate ∧ rate ≤ 2147483648) ∧ w.length ≤ 256 ∧ l.length ≤ 256 ∧ goodW w ∧ ∀ j ∈ l, vldJ j = true := by
  obtain ⟨h1, h2, h3, h4, h5⟩ := (usB_iff w l rate).1 hu
  exact ⟨h1, h2, h3, fun c hc => List.all_eq_true.1 h4 c hc, fun j hj => List.all_eq_true.1 h5 j hj⟩
theorem as_bd {w : List Win} {j : Job} {d : Int} {m : List Slo} (hw : goodW w) (hj : vldJ j = true) (hm : bdS m) (hd : 1 ≤ d ∧ d ≤ 2147483648) (hb : asB w j d m = true) : (0 ≤ (asS w j d m).st ∧ (asS w j d m).st ≤ 1099511627776) ∧ 0 ≤ (asS w j d m).en ∧ (asS w j d m).en ≤ 1099511627776 := by
  have hf : fsI w j d m < w.length := of_decide_eq_true hb
  have hp : plB (w[fsI w j d m]) j d m = true := List.findIdx_getElem (w := hf)
  have hv := hw _ (List.getElem_mem hf)
  have b := pl_bd (d := d) hv hj hm
  have a1 := (vldW_iff _).1 hv
  have e := getEq (z := Win.zero) hf
  unfold asS
  rw [if_pos hb, e]
  dsimp only
  have q := of_decide_eq_true hp
  omega
theorem b_passign (w : List Win) (l : List Job) (rate : Int) (hw : w.length ≤ 9223372036854775807) (hl : l.length ≤ 9223372036854775807) (hs : l.length ≤ 256 ∨ usB w l rate = false) : DoesK Try.prog 0 9 [.ro .win w, .ro .job l, .int .i64 rate] []
    (EndF 0 (if usB w l rate then .tup [.ro .slo (runJ w l rate (ordJ l)).1, .ro .int (sortZ (runJ w l rate (ordJ l)).2), .int .i64 0] else .tup [.ro .slo [], .ro .int [], .int .i64 1]) []) := by
  refine DoesK.close ?_
  cases hu : usB w l rate
  · refine w_body (rs := [.tmp 6, .tmp 7, .tmp 8]) (tm := [.ro .win w, .ro .job l, .int .i64 rate, .any, .any, .any, .any, .any, .any, .any, .any, .any, .any, .any, .any, .any, .any, .any, .any, .any, .any, .any, .any, .any, .any, .any, .any, .any, .any, .any, .any, .any, .any, .any, .any, .any, .any, .any, .any, .any, .any, .any, .any, .any, .any, .any, .any, .any, .any, .any, .any, .any, .any, .any, .any, .any, .any, .any, .any, .any, .any, .any, .any, .any, .any, .any, .any, .any, .any, .any, .any, .any, .any, .any, .any, .any, .any, .any, .any, .any, .any, .any, .any, .any]) fn_9 rfl rfl rfl rfl fun R hR => ?_
    (have zx1 := @hu; all_goals (try ((first | (with_reducible refine wp_id ?_) | (with_reducible refine does_id ?_) | (with_reducible refine ops_id ?_)); refine walk ?_; (repeat' (first | exact trivial | with_reducible refine And.intro ?_ ?_)); all_goals (repeat (first | (with_reducible refine ImpB.mk fun hb => ?_) | (with_reducible refine ImpK.mk fun hK => ?_) | (with_reducible refine ImpF.mk fun hF => ?_) | (with_reducible refine ImpQ.mk fun hp => ?_) | (with_reducible refine AllE.mk fun p => ?_) | (with_reducible refine AllR.mk fun rest => ?_) | (with_reducible refine AllK.mk fun K => ?_))))); repeat' (with_reducible refine And.intro ?_ ?_))
    (focus (refine ⟨_, _, Gh.refl, [], rfl, ?_⟩; (refine ⟨?_, ?_, ?_⟩ <;> simp only [go_sem, List.range, List.range.loop, List.nodup_cons, List.nodup_nil, List.mem_cons, List.not_mem_nil, or_false, or_self, decide_true, decide_false, Int.reduceToNat, Nat.min_eq_left, Nat.min_eq_right, Int.reducePow, Nat.reducePow, Int.reduceLE, Int.reduceLT, Int.reduceMul, Int.reduceAdd, Int.reduceSub, Int.reduceNeg, Bool.not_true, Bool.not_false, Bool.not_not, ↓reduceIte, Nat.reduceAdd, Nat.reduceSub, Nat.reduceMul, Nat.reduceEqDiff, reduceCtorEq, Nat.reduceLT, Nat.reduceLeDiff, Nat.reduceGT]); (try any_goals (refine ⟨?_, ?_⟩)); (try any_goals (with_reducible rfl))))
    trace_state
  · have h20 : l.length ≤ 256 := hs.elim id (fun q => by rw [hu] at q; cases q)
    refine w_body (rs := [.tmp 6, .tmp 7, .tmp 8]) (tm := [.ro .win w, .ro .job l, .int .i64 rate, .any, .any, .any, .any, .any, .any, .any, .any, .any, .any, .any, .any, .any, .any, .any, .any, .any, .any, .any, .any, .any, .any, .any, .any, .any, .any, .any, .any, .any, .any, .any, .any, .any, .any, .any, .any, .any, .any, .any, .any, .any, .any, .any, .any, .any, .any, .any, .any, .any, .any, .any, .any, .any, .any, .any, .any, .any, .any, .any, .any, .any, .any, .any, .any, .any, .any, .any, .any, .any, .any, .any, .any, .any, .any, .any, .any, .any, .any, .any, .any, .any]) fn_9 rfl rfl rfl rfl fun R hR => ?_
    (have zx1 := @hu; all_goals (try ((first | (with_reducible refine wp_id ?_) | (with_reducible refine does_id ?_) | (with_reducible refine ops_id ?_)); refine walk ?_; (repeat' (first | exact trivial | with_reducible refine And.intro ?_ ?_)); all_goals (repeat (first | (with_reducible refine ImpB.mk fun hb => ?_) | (with_reducible refine ImpK.mk fun hK => ?_) | (with_reducible refine ImpF.mk fun hF => ?_) | (with_reducible refine ImpQ.mk fun hp => ?_) | (with_reducible refine AllE.mk fun p => ?_) | (with_reducible refine AllR.mk fun rest => ?_) | (with_reducible refine AllK.mk fun K => ?_))))); repeat' (with_reducible refine And.intro ?_ ?_))
    refine Wp.ghost (gh_adopt (s := 9) .int trivial) ?_
    simp only [go_sem, decide_true, decide_false, Int.reduceToNat, Nat.min_eq_left, Nat.min_eq_right, Int.reducePow, Nat.reducePow, Int.reduceLE, Int.reduceLT, Int.reduceMul, Int.reduceAdd, Int.reduceSub, Int.reduceNeg, Bool.not_true, Bool.not_false, Bool.not_not, ↓reduceIte, Nat.reduceAdd, Nat.reduceSub, Nat.reduceMul, Nat.reduceEqDiff, reduceCtorEq, Nat.reduceLT, Nat.reduceLeDiff, Nat.reduceGT]
    any_goals ((try (refine w_seq fun K hK => ?_)); (try (refine w_block ?_)); refine w_loop (A := Nat) (fun k => k ≤ l.length) (fun k => l.length - k) (fun k => [(26, .int .i64 k), (9, .sl 1 .int 0 k)]) (fun k => [(1, .rows .int (iotaI k))]) (0) (ws := ?ws1) (tk := ?tk1) ?hw1 ?ht1 ?hi ?h0 ?LH1; (case hw1 => simp only [go_sem, decide_true, decide_false, Int.reduceToNat, Nat.min_eq_left, Nat.min_eq_right, Int.reducePow, Nat.reducePow, Int.reduceLE, Int.reduceLT, Int.reduceMul, Int.reduceAdd, Int.reduceSub, Int.reduceNeg, Bool.not_true, Bool.not_false, Bool.not_not, ↓reduceIte, Nat.reduceAdd, Nat.reduceSub, Nat.reduceMul, Nat.reduceEqDiff, reduceCtorEq, Nat.reduceLT, Nat.reduceLeDiff, Nat.reduceGT]; exact rfl); (case ht1 => simp only [go_sem, decide_true, decide_false, Int.reduceToNat, Nat.min_eq_left, Nat.min_eq_right, Int.reducePow, Nat.reducePow, Int.reduceLE, Int.reduceLT, Int.reduceMul, Int.reduceAdd, Int.reduceSub, Int.reduceNeg, Bool.not_true, Bool.not_false, Bool.not_not, ↓reduceIte, Nat.reduceAdd, Nat.reduceSub, Nat.reduceMul, Nat.reduceEqDiff, reduceCtorEq, Nat.reduceLT, Nat.reduceLeDiff, Nat.reduceGT]; exact rfl); (case' LH1 => rintro k E t hx hE ht; simp only [go_sem] at ht; subst ht; simp only [go_sem]; try dsimp only at hx))
    case hi => exact Nat.zero_le _
    case h0 =>
      (focus (refine ⟨_, _, Gh.refl, [0, 1], rfl, ?_⟩; (refine ⟨?_, ?_, ?_⟩ <;> simp only [go_sem, List.range, List.range.loop, List.nodup_cons, List.nodup_nil, List.mem_cons, List.not_mem_nil, or_false, or_self, decide_true, decide_false, Int.reduceToNat, Nat.min_eq_left, Nat.min_eq_right, Int.reducePow, Nat.reducePow, Int.reduceLE, Int.reduceLT, Int.reduceMul, Int.reduceAdd, Int.reduceSub, Int.reduceNeg, Bool.not_true, Bool.not_false, Bool.not_not, ↓reduceIte, Nat.reduceAdd, Nat.reduceSub, Nat.reduceMul, Nat.reduceEqDiff, reduceCtorEq, Nat.reduceLT, Nat.reduceLeDiff, Nat.reduceGT]); (try any_goals (refine ⟨?_, ?_⟩)); (try any_goals (with_reducible rfl))))
      all_goals exact rfl
    case LH1 =>
      have hk0 : k ≤ l.length := hx
      have hil := iota_len k
      have hw1 : IntKind.i64.wrap ((k : Int) + 1) = ((k + 1 : Nat) : Int) := by rw [wrap_i64 _ (by omega) (by omega)]; omega
      by_cases hk : k < l.length
      · have hkd : decide ((k : Int) < (l.length : Int)) = true := decide_eq_true (by omega)
        (have zx1 := @hkd; have zx2 := @hw1; have zx3 := @hil; all_goals (try ((first | (with_reducible refine wp_id ?_) | (with_reducible refine does_id ?_) | (with_reducible refine ops_id ?_)); refine walk ?_; (repeat' (first | exact trivial | with_reducible refine And.intro ?_ ?_)); all_goals (repeat (first | (with_reducible refine ImpB.mk fun hb => ?_) | (with_reducible refine ImpK.mk fun hK => ?_) | (with_reducible refine ImpF.mk fun hF => ?_) | (with_reducible refine ImpQ.mk fun hp => ?_) | (with_reducible refine AllE.mk fun p => ?_) | (with_reducible refine AllR.mk fun rest => ?_) | (with_reducible refine AllK.mk fun K => ?_))))); repeat' (with_reducible refine And.intro ?_ ?_))
        (all_goals first | exact Int.natCast_nonneg _ | exact Int.ofNat_lt.2 (by assumption) | assumption | omega | exact Nat.le_refl _ | (exfalso; simp at hb; done) | (simp only [go_sem, decide_true, decide_false, Int.reduceToNat, Nat.min_eq_left, Nat.min_eq_right, Int.reducePow, Nat.reducePow, Int.reduceLE, Int.reduceLT, Int.reduceMul, Int.reduceAdd, Int.reduceSub, Int.reduceNeg, Bool.not_true, Bool.not_false, Bool.not_not, ↓reduceIte, Nat.reduceAdd, Nat.reduceSub, Nat.reduceMul, Nat.reduceEqDiff, reduceCtorEq, Nat.reduceLT, Nat.reduceLeDiff, Nat.reduceGT]; done) | (unfold capM; omega) | (simp only [List.length_drop, List.length_take, List.length_append, List.length_cons, List.length_nil]; omega) | skip)
        refine ⟨k + 1, ⟨by first | omega | (dsimp only; omega), by first | omega | (dsimp only; omega)⟩, ?_⟩
        (focus (refine ⟨_, _, Gh.refl, [0, 3], rfl, ?_⟩; (refine ⟨?_, ?_, ?_⟩ <;> simp only [go_sem, List.range, List.range.loop, List.nodup_cons, List.nodup_nil, List.mem_cons, List.not_mem_nil, or_false, or_self, decide_true, decide_false, Int.reduceToNat, Nat.min_eq_left, Nat.min_eq_right, Int.reducePow, Nat.reducePow, Int.reduceLE, Int.reduceLT, Int.reduceMul, Int.reduceAdd, Int.reduceSub, Int.reduceNeg, Bool.not_true, Bool.not_false, Bool.not_not, ↓reduceIte, Nat.reduceAdd, Nat.reduceSub, Nat.reduceMul, Nat.reduceEqDiff, reduceCtorEq, Nat.reduceLT, Nat.reduceLeDiff, Nat.reduceGT]); (try any_goals (refine ⟨?_, ?_⟩)); (try any_goals (with_reducible rfl))))
        all_goals first | exact rfl | exact (iota_next k) | exact (iota_next k).symm | trace_state
      · have hkd : decide ((k : Int) < (l.length : Int)) = false := decide_eq_false (by omega)
        obtain rfl : k = l.length := by omega
        (have zx1 := @hkd; have zx2 := @hil; all_goals (try ((first | (with_reducible refine wp_id ?_) | (with_reducible refine does_id ?_) | (with_reducible refine ops_id ?_)); refine walk ?_; (repeat' (first | exact trivial | with_reducible refine And.intro ?_ ?_)); all_goals (repeat (first | (with_reducible refine ImpB.mk fun hb => ?_) | (with_reducible refine ImpK.mk fun hK => ?_) | (with_reducible refine ImpF.mk fun hF => ?_) | (with_reducible refine ImpQ.mk fun hp => ?_) | (with_reducible refine AllE.mk fun p => ?_) | (with_reducible refine AllR.mk fun rest => ?_) | (with_reducible refine AllK.mk fun K => ?_))))); repeat' (with_reducible refine And.intro ?_ ?_))
        all_goals first | exact iota_in | omega | skip
        refine Wp.ghost (gh_adopt (s := 11) .slo trivial) ?_
        simp only [go_sem, decide_true, decide_false, Int.reduceToNat, Nat.min_eq_left, Nat.min_eq_right, Int.reducePow, Nat.reducePow, Int.reduceLE, Int.reduceLT, Int.reduceMul, Int.reduceAdd, Int.reduceSub, Int.reduceNeg, Bool.not_true, Bool.not_false, Bool.not_not, ↓reduceIte, Nat.reduceAdd, Nat.reduceSub, Nat.reduceMul, Nat.reduceEqDiff, reduceCtorEq, Nat.reduceLT, Nat.reduceLeDiff, Nat.reduceGT]
        refine Wp.ghost (gh_adopt (s := 12) .int trivial) ?_
        simp only [go_sem, decide_true, decide_false, Int.reduceToNat, Nat.min_eq_left, Nat.min_eq_right, Int.reducePow, Nat.reducePow, Int.reduceLE, Int.reduceLT, Int.reduceMul, Int.reduceAdd, Int.reduceSub, Int.reduceNeg, Bool.not_true, Bool.not_false, Bool.not_not, ↓reduceIte, Nat.reduceAdd, Nat.reduceSub, Nat.reduceMul, Nat.reduceEqDiff, reduceCtorEq, Nat.reduceLT, Nat.reduceLeDiff, Nat.reduceGT]
        obtain ⟨o, ho⟩ : ∃ o, srt (keyJ l) (iotaI l.length) = o := ⟨_, rfl⟩
        have hol : o.length = l.length := by rw [← ho, srt_len, iota_len]
        have hoi : ∀ x ∈ o, inJ l x := by rw [← ho]; exact KE.all srt_KE.symm iota_in
        rw [ho]
        obtain ⟨F, hF⟩ : ∃ F, runJ w l rate = F := ⟨_, rfl⟩
        have hr0 : F (o.take 0) = ([], []) := by rw [← hF]; rfl
        any_goals ((try (refine w_seq fun K hK => ?_)); (try (refine w_block ?_)); refine w_loop (A := Nat) (fun k => k ≤ l.length ∧ okM (F (o.take k)).1 ∧ (F (o.take k)).1.length ≤ k ∧ (F (o.take k)).2.length ≤ k) (fun k => l.length - k) (fun k => [(39, .int .i64 k), (11, .sl 2 .slo 0 (F (o.take k)).1.length), (12, .sl 3 .int 0 (F (o.take k)).2.length)]) (fun k => [(2, .rows .slo (F (o.take k)).1), (3, .rows .int (F (o.take k)).2)]) (0) (ws := ?ws2) (tk := ?tk2) ?hw2 ?ht2 ?hi_1 ?h0_1 ?LH2; (case hw2 => simp only [go_sem, decide_true, decide_false, Int.reduceToNat, Nat.min_eq_left, Nat.min_eq_right, Int.reducePow, Nat.reducePow, Int.reduceLE, Int.reduceLT, Int.reduceMul, Int.reduceAdd, Int.reduceSub, Int.reduceNeg, Bool.not_true, Bool.not_false, Bool.not_not, ↓reduceIte, Nat.reduceAdd, Nat.reduceSub, Nat.reduceMul, Nat.reduceEqDiff, reduceCtorEq, Nat.reduceLT, Nat.reduceLeDiff, Nat.reduceGT]; exact rfl); (case ht2 => simp only [go_sem, decide_true, decide_false, Int.reduceToNat, Nat.min_eq_left, Nat.min_eq_right, Int.reducePow, Nat.reducePow, Int.reduceLE, Int.reduceLT, Int.reduceMul, Int.reduceAdd, Int.reduceSub, Int.reduceNeg, Bool.not_true, Bool.not_false, Bool.not_not, ↓reduceIte, Nat.reduceAdd, Nat.reduceSub, Nat.reduceMul, Nat.reduceEqDiff, reduceCtorEq, Nat.reduceLT, Nat.reduceLeDiff, Nat.reduceGT]; exact rfl); (case' LH2 => rintro k E t hx hE ht; simp only [go_sem] at ht; subst ht; simp only [go_sem]; try dsimp only at hx))
        case hi_1 => exact ⟨Nat.zero_le _, by rw [hr0]; exact ⟨⟨fun s hs => absurd hs List.not_mem_nil, List.Pairwise.nil⟩, Nat.le_refl _, Nat.le_refl _⟩⟩
        case h0_1 =>
          (focus (refine ⟨_, _, Gh.refl, [0, 1, 2, 3], rfl, ?_⟩; (refine ⟨?_, ?_, ?_⟩ <;> simp only [go_sem, List.range, List.range.loop, List.nodup_cons, List.nodup_nil, List.mem_cons, List.not_mem_nil, or_false, or_self, decide_true, decide_false, Int.reduceToNat, Nat.min_eq_left, Nat.min_eq_right, Int.reducePow, Nat.reducePow, Int.reduceLE, Int.reduceLT, Int.reduceMul, Int.reduceAdd, Int.reduceSub, Int.reduceNeg, Bool.not_true, Bool.not_false, Bool.not_not, ↓reduceIte, Nat.reduceAdd, Nat.reduceSub, Nat.reduceMul, Nat.reduceEqDiff, reduceCtorEq, Nat.reduceLT, Nat.reduceLeDiff, Nat.reduceGT]); (try any_goals (refine ⟨?_, ?_⟩)); (try any_goals (with_reducible rfl))))
          all_goals first | (rw [show F [] = ([], []) from hr0]; done) | (rw [show F [] = ([], []) from hr0]; rfl) | trace_state
        case LH2 =>
          obtain ⟨hk0, hok, hml, hll⟩ := hx
          have hw1 : IntKind.i64.wrap ((k : Int) + 1) = ((k + 1 : Nat) : Int) := by rw [wrap_i64 _ (by omega) (by omega)]; omega
          by_cases hk : k < l.length
          · have hkd : decide ((k : Int) < (l.length : Int)) = true := decide_eq_true (by omega)
            have hnx : F (o.take (k + 1)) = stJ w l rate (F (o.take k)) (o.getD k 0) := by rw [← hF]; exact run_next (by omega)
            obtain ⟨i, hie⟩ : ∃ i, o.getD k 0 = i := ⟨_, rfl⟩
            have hij : inJ l i := by rw [← hie]; exact hoi _ (getM (by omega))
            obtain ⟨hi1, hi2⟩ := id hij
            obtain ⟨⟨m, lf⟩, hm⟩ : ∃ p, F (o.take k) = p := ⟨_, rfl⟩
            rw [hm] at hok hml hll hnx ⊢
            rw [hie] at hnx
            dsimp only at hok hml hll ⊢
            obtain ⟨j, hje⟩ : ∃ j, l.getD i.toNat Job.zero = j := ⟨_, rfl⟩
            obtain ⟨hr, hwl, _, hgw, hgj⟩ := us_good hu
            have hjv : vldJ j = true := by rw [← hje]; exact hgj _ (getM (by omega))
            have hdb := dur_bd hr ((vldJ_iff j).1 hjv).1
            obtain ⟨hbm, hsm⟩ := id hok
            have hja := (vldJ_iff j).1 hjv
            have hje' : jbI l i = j := hje
            unfold stJ at hnx
            rw [hje'] at hnx
            dsimp only at hnx
            cases hb1 : asB w j (durI j rate) m
            · (have zx1 := @hkd; have zx2 := @hw1; have zx3 := @hie; have zx4 := @hje; have zx5 := @hb1; all_goals (try ((first | (with_reducible refine wp_id ?_) | (with_reducible refine does_id ?_) | (with_reducible refine ops_id ?_)); refine walk ?_; (repeat' (first | exact trivial | with_reducible refine And.intro ?_ ?_)); all_goals (repeat (first | (with_reducible refine ImpB.mk fun hb => ?_) | (with_reducible refine ImpK.mk fun hK => ?_) | (with_reducible refine ImpF.mk fun hF => ?_) | (with_reducible refine ImpQ.mk fun hp => ?_) | (with_reducible refine AllE.mk fun p => ?_) | (with_reducible refine AllR.mk fun rest => ?_) | (with_reducible refine AllK.mk fun K => ?_))))); repeat' (with_reducible refine And.intro ?_ ?_))
              all_goals first | assumption | exact bsS_le _ _ | omega | skip
              rw [hb1, if_neg (by decide)] at hnx
              refine ⟨k + 1, ⟨⟨by first | omega | (dsimp only; omega), by rw [hnx]; exact hok, by rw [hnx]; dsimp only; omega, by rw [hnx, List.length_append]; dsimp only [List.length_cons, List.length_nil]; omega⟩, by first | omega | (dsimp only; omega)⟩, ?_⟩
              dsimp only
              rw [hnx]
              (focus (refine ⟨_, _, Gh.refl, [0, 1, 2, 6], rfl, ?_⟩; (refine ⟨?_, ?_, ?_⟩ <;> simp only [go_sem, List.range, List.range.loop, List.nodup_cons, List.nodup_nil, List.mem_cons, List.not_mem_nil, or_false, or_self, decide_true, decide_false, Int.reduceToNat, Nat.min_eq_left, Nat.min_eq_right, Int.reducePow, Nat.reducePow, Int.reduceLE, Int.reduceLT, Int.reduceMul, Int.reduceAdd, Int.reduceSub, Int.reduceNeg, Bool.not_true, Bool.not_false, Bool.not_not, ↓reduceIte, Nat.reduceAdd, Nat.reduceSub, Nat.reduceMul, Nat.reduceEqDiff, reduceCtorEq, Nat.reduceLT, Nat.reduceLeDiff, Nat.reduceGT]); (try any_goals (refine ⟨?_, ?_⟩)); (try any_goals (with_reducible rfl))))
              all_goals trace_state
            · obtain ⟨s, hse⟩ : ∃ s, asS w j (durI j rate) m = s := ⟨_, rfl⟩
              (have zx1 := @hkd; have zx2 := @hw1; have zx3 := @hie; have zx4 := @hje; have zx5 := @hb1; have zx6 := @hse; all_goals (try ((first | (with_reducible refine wp_id ?_) | (with_reducible refine does_id ?_) | (with_reducible refine ops_id ?_)); refine walk ?_; (repeat' (first | exact trivial | with_reducible refine And.intro ?_ ?_)); all_goals (repeat (first | (with_reducible refine ImpB.mk fun hb => ?_) | (with_reducible refine ImpK.mk fun hK => ?_) | (with_reducible refine ImpF.mk fun hF => ?_) | (with_reducible refine ImpQ.mk fun hp => ?_) | (with_reducible refine AllE.mk fun p => ?_) | (with_reducible refine AllR.mk fun rest => ?_) | (with_reducible refine AllK.mk fun K => ?_))))); repeat' (with_reducible refine And.intro ?_ ?_))
              all_goals first | assumption | exact bsS_le _ _ | omega | skip
              rw [hb1, if_pos rfl, hse] at hnx
              have hbd := as_bd hgw hjv hbm hdb hb1
              rw [hse] at hbd
              refine ⟨k + 1, ⟨⟨by first | omega | (dsimp only; omega), by rw [hnx]; exact okM_ins hok hbd.1 hbd.2, by rw [hnx]; dsimp only; rw [insS_len]; omega, by rw [hnx]; dsimp only; omega⟩, by first | omega | (dsimp only; omega)⟩, ?_⟩
              dsimp only
              rw [hnx]
              (focus (refine ⟨_, _, Gh.refl, [0, 1, 6, 3], rfl, ?_⟩; (refine ⟨?_, ?_, ?_⟩ <;> simp only [go_sem, List.range, List.range.loop, List.nodup_cons, List.nodup_nil, List.mem_cons, List.not_mem_nil, or_false, or_self, decide_true, decide_false, Int.reduceToNat, Nat.min_eq_left, Nat.min_eq_right, Int.reducePow, Nat.reducePow, Int.reduceLE, Int.reduceLT, Int.reduceMul, Int.reduceAdd, Int.reduceSub, Int.reduceNeg, Bool.not_true, Bool.not_false, Bool.not_not, ↓reduceIte, Nat.reduceAdd, Nat.reduceSub, Nat.reduceMul, Nat.reduceEqDiff, reduceCtorEq, Nat.reduceLT, Nat.reduceLeDiff, Nat.reduceGT]); (try any_goals (refine ⟨?_, ?_⟩)); (try any_goals (with_reducible rfl))))
              all_goals first | exact insS_len | exact rfl | trace_state
          · have hkd : decide ((k : Int) < (l.length : Int)) = false := decide_eq_false (by omega)
            obtain rfl : k = l.length := by omega
            (have zx1 := @hkd; all_goals (try ((first | (with_reducible refine wp_id ?_) | (with_reducible refine does_id ?_) | (with_reducible refine ops_id ?_)); refine walk ?_; (repeat' (first | exact trivial | with_reducible refine And.intro ?_ ?_)); all_goals (repeat (first | (with_reducible refine ImpB.mk fun hb => ?_) | (with_reducible refine ImpK.mk fun hK => ?_) | (with_reducible refine ImpF.mk fun hF => ?_) | (with_reducible refine ImpQ.mk fun hp => ?_) | (with_reducible refine AllE.mk fun p => ?_) | (with_reducible refine AllR.mk fun rest => ?_) | (with_reducible refine AllK.mk fun K => ?_))))); repeat' (with_reducible refine And.intro ?_ ?_))
            have hto : o.take l.length = o := List.take_of_length_le (by omega)
            have hru : runJ w l rate (ordJ l) = F o := by unfold ordJ; rw [ho, hF]
            rw [hru, hto, ← sortZ_len (F o).2]
            refine ⟨_, _, (gh_frz (t := 2) (e := .slo) (xs := (F o).1) rfl ?f1 ?f2).trans (gh_frz (t := 3) (e := .int) (xs := sortZ (F o).2) rfl ?f3 ?f4), [], rfl, ?ft⟩
            case' ft => (refine ⟨?_, ?_, ?_⟩ <;> simp only [go_sem, List.range, List.range.loop, List.nodup_cons, List.nodup_nil, List.mem_cons, List.not_mem_nil, or_false, or_self, decide_true, decide_false, Int.reduceToNat, Nat.min_eq_left, Nat.min_eq_right, Int.reducePow, Nat.reducePow, Int.reduceLE, Int.reduceLT, Int.reduceMul, Int.reduceAdd, Int.reduceSub, Int.reduceNeg, Bool.not_true, Bool.not_false, Bool.not_not, ↓reduceIte, Nat.reduceAdd, Nat.reduceSub, Nat.reduceMul, Nat.reduceEqDiff, reduceCtorEq, Nat.reduceLT, Nat.reduceLeDiff, Nat.reduceGT])
            case' f1 => simp only [go_sem, decide_true, decide_false, Int.reduceToNat, Nat.min_eq_left, Nat.min_eq_right, Int.reducePow, Nat.reducePow, Int.reduceLE, Int.reduceLT, Int.reduceMul, Int.reduceAdd, Int.reduceSub, Int.reduceNeg, Bool.not_true, Bool.not_false, Bool.not_not, ↓reduceIte, Nat.reduceAdd, Nat.reduceSub, Nat.reduceMul, Nat.reduceEqDiff, reduceCtorEq, Nat.reduceLT, Nat.reduceLeDiff, Nat.reduceGT]
            case' f2 => simp only [go_sem, decide_true, decide_false, Int.reduceToNat, Nat.min_eq_left, Nat.min_eq_right, Int.reducePow, Nat.reducePow, Int.reduceLE, Int.reduceLT, Int.reduceMul, Int.reduceAdd, Int.reduceSub, Int.reduceNeg, Bool.not_true, Bool.not_false, Bool.not_not, ↓reduceIte, Nat.reduceAdd, Nat.reduceSub, Nat.reduceMul, Nat.reduceEqDiff, reduceCtorEq, Nat.reduceLT, Nat.reduceLeDiff, Nat.reduceGT]
            case' f3 => simp only [go_sem, decide_true, decide_false, Int.reduceToNat, Nat.min_eq_left, Nat.min_eq_right, Int.reducePow, Nat.reducePow, Int.reduceLE, Int.reduceLT, Int.reduceMul, Int.reduceAdd, Int.reduceSub, Int.reduceNeg, Bool.not_true, Bool.not_false, Bool.not_not, ↓reduceIte, Nat.reduceAdd, Nat.reduceSub, Nat.reduceMul, Nat.reduceEqDiff, reduceCtorEq, Nat.reduceLT, Nat.reduceLeDiff, Nat.reduceGT]
            case' f4 => simp only [go_sem, decide_true, decide_false, Int.reduceToNat, Nat.min_eq_left, Nat.min_eq_right, Int.reducePow, Nat.reducePow, Int.reduceLE, Int.reduceLT, Int.reduceMul, Int.reduceAdd, Int.reduceSub, Int.reduceNeg, Bool.not_true, Bool.not_false, Bool.not_not, ↓reduceIte, Nat.reduceAdd, Nat.reduceSub, Nat.reduceMul, Nat.reduceEqDiff, reduceCtorEq, Nat.reduceLT, Nat.reduceLeDiff, Nat.reduceGT]
            all_goals first | exact Nat.le_refl _ | exact ⟨Nat.le_refl _, False.elim⟩ | trace_state
abbrev pAns (w : List Win) (l : List Job) (rate : Int) : AV := if usB w l rate then .tup [.ro .slo (runJ w l rate (ordJ l)).1, .ro .int (sortZ (runJ w l rate (ordJ l)).2), .int .i64 0] else .tup [.ro .slo [], .ro .int [], .int .i64 1]
theorem c_passign {h : List Ch} {K : KT} {w : List Win} {l : List Job} {rate : Int} {a b : AV} (H : K (pAns w l rate) h) (q1 : isRO .win w a) (q2 : isRO .job l b) (s1 : w.length ≤ 9223372036854775807) (s2 : l.length ≤ 9223372036854775807) (s3 : l.length ≤ 256 ∨ usB w l rate = false) : Does Try.prog 9 [a, b, .int .i64 rate] h K :=
  frame_pure (b_passign w l rate s1 s2 s3) (br_cons q1.br (br_cons q2.br (br_cons br_int br_nil))) (.inl (by rw [brTL, q1.brT, brTL, q2.brT]; rfl)) (fun _ => by split <;> rfl) H
abbrev i_passign := Ctr.mk (i := 0) (g := 9) @c_passign
attribute [instance] i_passign
end Go.V

set_option maxRecDepth 100000
set_option maxHeartbeats 16000000
namespace Go.V
open Go.Proofs
theorem bsS_at2 {m : List Slo} {t : Int} {k : Nat} (hk : k ≤ m.length) (h : ∀ i, i < k → (m.getD i Slo.zero).st < t) (h1 : k < m.length → ¬ (m.getD k Slo.zero).st < t) : bsS m t = k :=
  tw_at hk (fun i hi => decide_eq_true (h i hi)) (fun q => decide_eq_false (h1 q))
theorem b_rinsert (m : List Slo) (x : Slo) (hl : m.length ≤ 1000000) : DoesK Try.prog 0 30 [.ro .slo m, .agg (SloL x)] [] (EndF 0 (.ro .slo (insS m x)) []) := by
  refine DoesK.close ?_
  refine w_body (rs := [.tmp 4]) (tm := [.ro .slo m, .agg (SloL x), .any, .any, .any, .any, .any, .any, .any, .any, .any, .any, .any, .any, .any, .any, .any, .any, .any, .any, .any, .any, .any, .any, .any, .any, .any, .any, .any, .any, .any, .any, .any, .any, .any, .any, .any, .any, .any]) fn_30 rfl rfl rfl rfl fun R hR => ?_
  (all_goals (try ((first | (with_reducible refine wp_id ?_) | (with_reducible refine does_id ?_) | (with_reducible refine ops_id ?_)); refine walk ?_; (repeat' (first | exact trivial | with_reducible refine And.intro ?_ ?_)); all_goals (repeat (first | (with_reducible refine ImpB.mk fun hb => ?_) | (with_reducible refine ImpK.mk fun hK => ?_) | (with_reducible refine ImpF.mk fun hF => ?_) | (with_reducible refine ImpQ.mk fun hp => ?_) | (with_reducible refine AllE.mk fun p => ?_) | (with_reducible refine AllR.mk fun rest => ?_) | (with_reducible refine AllK.mk fun K => ?_))))); repeat' (with_reducible refine And.intro ?_ ?_))
  refine Wp.ghost (gh_adopt (s := 5) .slo trivial) ?_
  simp only [go_sem, decide_true, decide_false, Int.reduceToNat, Nat.min_eq_left, Nat.min_eq_right, Int.reducePow, Nat.reducePow, Int.reduceLE, Int.reduceLT, Int.reduceMul, Int.reduceAdd, Int.reduceSub, Int.reduceNeg, Bool.not_true, Bool.not_false, Bool.not_not, ↓reduceIte, Nat.reduceAdd, Nat.reduceSub, Nat.reduceMul, Nat.reduceEqDiff, reduceCtorEq, Nat.reduceLT, Nat.reduceLeDiff, Nat.reduceGT]
  any_goals ((try (refine w_seq fun K hK => ?_)); (try (refine w_block ?_)); refine w_loop (A := Nat) (fun k => k ≤ m.length ∧ ∀ i, i < k → (m.getD i Slo.zero).st < x.st) (fun k => m.length - k) (fun k => [(6, .int .i64 k), (5, .sl 1 .slo 0 k)]) (fun k => [(1, .rows .slo (m.take k))]) (0) (ws := ?ws1) (tk := ?tk1) ?hw1 ?ht1 ?hi ?h0 ?LH1; (case hw1 => simp only [go_sem, decide_true, decide_false, Int.reduceToNat, Nat.min_eq_left, Nat.min_eq_right, Int.reducePow, Nat.reducePow, Int.reduceLE, Int.reduceLT, Int.reduceMul, Int.reduceAdd, Int.reduceSub, Int.reduceNeg, Bool.not_true, Bool.not_false, Bool.not_not, ↓reduceIte, Nat.reduceAdd, Nat.reduceSub, Nat.reduceMul, Nat.reduceEqDiff, reduceCtorEq, Nat.reduceLT, Nat.reduceLeDiff, Nat.reduceGT]; exact rfl); (case ht1 => simp only [go_sem, decide_true, decide_false, Int.reduceToNat, Nat.min_eq_left, Nat.min_eq_right, Int.reducePow, Nat.reducePow, Int.reduceLE, Int.reduceLT, Int.reduceMul, Int.reduceAdd, Int.reduceSub, Int.reduceNeg, Bool.not_true, Bool.not_false, Bool.not_not, ↓reduceIte, Nat.reduceAdd, Nat.reduceSub, Nat.reduceMul, Nat.reduceEqDiff, reduceCtorEq, Nat.reduceLT, Nat.reduceLeDiff, Nat.reduceGT]; exact rfl); (case' LH1 => rintro k E t hx hE ht; simp only [go_sem] at ht; subst ht; simp only [go_sem]; try dsimp only at hx))
  case hi => exact ⟨Nat.zero_le _, fun i hi => absurd hi (by omega)⟩
  case h0 =>
    (focus (refine ⟨_, _, Gh.refl, [0, 1], rfl, ?_⟩; (refine ⟨?_, ?_, ?_⟩ <;> simp only [go_sem, List.range, List.range.loop, List.nodup_cons, List.nodup_nil, List.mem_cons, List.not_mem_nil, or_false, or_self, decide_true, decide_false, Int.reduceToNat, Nat.min_eq_left, Nat.min_eq_right, Int.reducePow, Nat.reducePow, Int.reduceLE, Int.reduceLT, Int.reduceMul, Int.reduceAdd, Int.reduceSub, Int.reduceNeg, Bool.not_true, Bool.not_false, Bool.not_not, ↓reduceIte, Nat.reduceAdd, Nat.reduceSub, Nat.reduceMul, Nat.reduceEqDiff, reduceCtorEq, Nat.reduceLT, Nat.reduceLeDiff, Nat.reduceGT]); (try any_goals (refine ⟨?_, ?_⟩)); (try any_goals (with_reducible rfl))))
  case LH1 =>
    obtain ⟨hk0, hc⟩ := hx
    have hw1 : IntKind.i64.wrap ((k : Int) + 1) = ((k + 1 : Nat) : Int) := by rw [wrap_i64 _ (by omega) (by omega)]; omega
    have htl : (m.take k).length = k := by rw [List.length_take]; omega
    have htm : min k m.length = k := by omega
    have hfin : (k < m.length → ¬ (m.getD k Slo.zero).st < x.st) → insS m x = m.take k ++ [x] ++ m.drop k := fun q => by
      unfold insS
      rw [bsS_at2 hk0 hc q, List.append_assoc]; rfl
    by_cases hk : k < m.length
    · have hkd : decide ((k : Int) < (m.length : Int)) = true := decide_eq_true (by omega)
      by_cases c : (m.getD k Slo.zero).st < x.st
      · have hcd : decide ((m.getD k Slo.zero).st < x.st) = true := decide_eq_true c
        (have zx1 := @hkd; have zx2 := @hw1; have zx3 := @hcd; have zx4 := @htl; have zx5 := @htm; all_goals (try ((first | (with_reducible refine wp_id ?_) | (with_reducible refine does_id ?_) | (with_reducible refine ops_id ?_)); refine walk ?_; (repeat' (first | exact trivial | with_reducible refine And.intro ?_ ?_)); all_goals (repeat (first | (with_reducible refine ImpB.mk fun hb => ?_) | (with_reducible refine ImpK.mk fun hK => ?_) | (with_reducible refine ImpF.mk fun hF => ?_) | (with_reducible refine ImpQ.mk fun hp => ?_) | (with_reducible refine AllE.mk fun p => ?_) | (with_reducible refine AllR.mk fun rest => ?_) | (with_reducible refine AllK.mk fun K => ?_))))); repeat' (with_reducible refine And.intro ?_ ?_))
        (all_goals first | exact Int.natCast_nonneg _ | exact Int.ofNat_lt.2 (by assumption) | assumption | omega | exact Nat.le_refl _ | (exfalso; simp at hb; done) | (simp only [go_sem, decide_true, decide_false, Int.reduceToNat, Nat.min_eq_left, Nat.min_eq_right, Int.reducePow, Nat.reducePow, Int.reduceLE, Int.reduceLT, Int.reduceMul, Int.reduceAdd, Int.reduceSub, Int.reduceNeg, Bool.not_true, Bool.not_false, Bool.not_not, ↓reduceIte, Nat.reduceAdd, Nat.reduceSub, Nat.reduceMul, Nat.reduceEqDiff, reduceCtorEq, Nat.reduceLT, Nat.reduceLeDiff, Nat.reduceGT]; done) | (unfold capM; omega) | (simp only [List.length_drop, List.length_take, List.length_append, List.length_cons, List.length_nil]; omega) | skip)
        refine ⟨k + 1, ⟨⟨by first | omega | (dsimp only; omega), fun i hi => ?_⟩, by first | omega | (dsimp only; omega)⟩, ?_⟩
        · by_cases e : i = k
          · rw [e]; exact c
          · exact hc i (by omega)
        (focus (refine ⟨_, _, Gh.refl, [0, 3], rfl, ?_⟩; (refine ⟨?_, ?_, ?_⟩ <;> simp only [go_sem, List.range, List.range.loop, List.nodup_cons, List.nodup_nil, List.mem_cons, List.not_mem_nil, or_false, or_self, decide_true, decide_false, Int.reduceToNat, Nat.min_eq_left, Nat.min_eq_right, Int.reducePow, Nat.reducePow, Int.reduceLE, Int.reduceLT, Int.reduceMul, Int.reduceAdd, Int.reduceSub, Int.reduceNeg, Bool.not_true, Bool.not_false, Bool.not_not, ↓reduceIte, Nat.reduceAdd, Nat.reduceSub, Nat.reduceMul, Nat.reduceEqDiff, reduceCtorEq, Nat.reduceLT, Nat.reduceLeDiff, Nat.reduceGT]); (try any_goals (refine ⟨?_, ?_⟩)); (try any_goals (with_reducible rfl))))
        all_goals first | exact rfl | exact (getT hk) | exact (getT hk).symm | trace_state
      · have hcd : decide ((m.getD k Slo.zero).st < x.st) = false := decide_eq_false c
        (have zx1 := @hkd; have zx2 := @hcd; have zx3 := @htl; have zx4 := @htm; all_goals (try ((first | (with_reducible refine wp_id ?_) | (with_reducible refine does_id ?_) | (with_reducible refine ops_id ?_)); refine walk ?_; (repeat' (first | exact trivial | with_reducible refine And.intro ?_ ?_)); all_goals (repeat (first | (with_reducible refine ImpB.mk fun hb => ?_) | (with_reducible refine ImpK.mk fun hK => ?_) | (with_reducible refine ImpF.mk fun hF => ?_) | (with_reducible refine ImpQ.mk fun hp => ?_) | (with_reducible refine AllE.mk fun p => ?_) | (with_reducible refine AllR.mk fun rest => ?_) | (with_reducible refine AllK.mk fun K => ?_))))); repeat' (with_reducible refine And.intro ?_ ?_))
        (all_goals first | exact Int.natCast_nonneg _ | exact Int.ofNat_lt.2 (by assumption) | assumption | omega | exact Nat.le_refl _ | (exfalso; simp at hb; done) | (simp only [go_sem, decide_true, decide_false, Int.reduceToNat, Nat.min_eq_left, Nat.min_eq_right, Int.reducePow, Nat.reducePow, Int.reduceLE, Int.reduceLT, Int.reduceMul, Int.reduceAdd, Int.reduceSub, Int.reduceNeg, Bool.not_true, Bool.not_false, Bool.not_not, ↓reduceIte, Nat.reduceAdd, Nat.reduceSub, Nat.reduceMul, Nat.reduceEqDiff, reduceCtorEq, Nat.reduceLT, Nat.reduceLeDiff, Nat.reduceGT]; done) | (unfold capM; omega) | (simp only [List.length_drop, List.length_take, List.length_append, List.length_cons, List.length_nil]; omega) | skip)
        refine end_ro rfl ?_ (hfin fun _ => c) ?_
        · simp only [List.length_append, List.length_cons, List.length_nil, List.length_drop, htl]
        · simp [frObH, frObC, frOb, frObL]
    · have hkd : decide ((k : Int) < (m.length : Int)) = false := decide_eq_false (by omega)
      (have zx1 := @hkd; have zx2 := @htl; have zx3 := @htm; all_goals (try ((first | (with_reducible refine wp_id ?_) | (with_reducible refine does_id ?_) | (with_reducible refine ops_id ?_)); refine walk ?_; (repeat' (first | exact trivial | with_reducible refine And.intro ?_ ?_)); all_goals (repeat (first | (with_reducible refine ImpB.mk fun hb => ?_) | (with_reducible refine ImpK.mk fun hK => ?_) | (with_reducible refine ImpF.mk fun hF => ?_) | (with_reducible refine ImpQ.mk fun hp => ?_) | (with_reducible refine AllE.mk fun p => ?_) | (with_reducible refine AllR.mk fun rest => ?_) | (with_reducible refine AllK.mk fun K => ?_))))); repeat' (with_reducible refine And.intro ?_ ?_))
      (all_goals first | exact Int.natCast_nonneg _ | exact Int.ofNat_lt.2 (by assumption) | assumption | omega | exact Nat.le_refl _ | (exfalso; simp at hb; done) | (simp only [go_sem, decide_true, decide_false, Int.reduceToNat, Nat.min_eq_left, Nat.min_eq_right, Int.reducePow, Nat.reducePow, Int.reduceLE, Int.reduceLT, Int.reduceMul, Int.reduceAdd, Int.reduceSub, Int.reduceNeg, Bool.not_true, Bool.not_false, Bool.not_not, ↓reduceIte, Nat.reduceAdd, Nat.reduceSub, Nat.reduceMul, Nat.reduceEqDiff, reduceCtorEq, Nat.reduceLT, Nat.reduceLeDiff, Nat.reduceGT]; done) | (unfold capM; omega) | (simp only [List.length_drop, List.length_take, List.length_append, List.length_cons, List.length_nil]; omega) | skip)
      refine end_ro rfl ?_ (hfin fun q => absurd q hk) ?_
      · simp only [List.length_append, List.length_cons, List.length_nil, List.length_drop, htl]
      · simp [frObH, frObC, frOb, frObL]
theorem c_rinsert {h : List Ch} {K : KT} {m : List Slo} {a b c d : Int} {x : AV} (H : K (.ro .slo (insS m ⟨a, b, c, d⟩)) h) (q1 : isRO .slo m x) (s1 : m.length ≤ 1000000) : Does Try.prog 30 [x, .agg [.int .i64 a, .int .i64 b, .int .i64 c, .int .i64 d]] h K :=
  frame_pure (b_rinsert m ⟨a, b, c, d⟩ s1) (br_cons q1.br (br_cons (br_Slo ⟨a, b, c, d⟩) br_nil)) (.inl (by rw [brTL, q1.brT]; rfl)) (fun _ => rfl) H
abbrev i_rinsert := Ctr.mk (i := 0) (g := 30) @c_rinsert
attribute [instance] i_rinsert
/-- the jobs of one priority -/
def rO (l : List Job) (p : Int) (k : Nat) : List Int := (iotaI k).filter fun a => decide (keyJ l a = p)
def rOs (l : List Job) : Nat → List Int
  | 0 => []
  | P + 1 => rOs l P ++ rO l P l.length
theorem rO_next {l : List Job} {p : Int} {k : Nat} : rO l p (k + 1) = if keyJ l k = p then rO l p k ++ [(k : Int)] else rO l p k := by
  unfold rO
  rw [iota_next, List.filter_append]
  by_cases c : keyJ l k = p
  · rw [if_pos c, List.filter_cons, if_pos (decide_eq_true c)]; rfl
  · rw [if_neg c, List.filter_cons, if_neg (by simp [c])]; exact List.append_nil _
theorem rOs_fil {l : List Job} {k : Int} : ∀ {P : Nat}, (rOs l P).filter (fun a => decide (keyJ l a = k)) = if 0 ≤ k ∧ k < P then rO l k l.length else []
  | 0 => by rw [if_neg (by omega)]; rfl
  | P + 1 => by
    rw [rOs, List.filter_append, rOs_fil (P := P)]
    unfold rO
    rw [List.filter_filter]
    by_cases e : k = P
    · subst e
      rw [if_neg (by omega), if_pos (by omega), List.nil_append]
      congr 1
      funext a
      exact Bool.and_self _
    · have e0 : ((iotaI l.length).filter fun a => decide (keyJ l a = k) && decide (keyJ l a = P)) = [] := by
        refine List.filter_eq_nil_iff.2 fun a _ => ?_
        simp only [Bool.and_eq_true, decide_eq_true_eq]
        omega
      rw [e0, List.append_nil]
      by_cases c : 0 ≤ k ∧ k < P
      · rw [if_pos c, if_pos (by omega)]
      · rw [if_neg c, if_neg (by omega)]
theorem rOs_mem {l : List Job} {P : Nat} {a : Int} (h : a ∈ rOs l P) : 0 ≤ keyJ l a ∧ keyJ l a < P := by
  have h1 : a ∈ (rOs l P).filter fun b => decide (keyJ l b = keyJ l a) := List.mem_filter.2 ⟨h, by simp⟩
  rw [rOs_fil] at h1
  by_cases c : 0 ≤ keyJ l a ∧ keyJ l a < P
  · exact c
  · rw [if_neg c] at h1; cases h1
theorem rOs_srt {l : List Job} : ∀ {P : Nat}, Srt (keyJ l) (rOs l P)
  | 0 => List.Pairwise.nil
  | P + 1 => by
    have hq : ∀ a ∈ rO l P l.length, keyJ l a = P := fun a ha => of_decide_eq_true (List.mem_filter.1 ha).2
    refine List.pairwise_append.2 ⟨rOs_srt, List.pairwise_of_forall_mem_list fun a ha b hb => ?_, fun a ha b hb => ?_⟩
    · have := hq a ha; have := hq b hb; omega
    · have := rOs_mem ha; have := hq b hb; omega
theorem rOs_ord {l : List Job} (h : ∀ j ∈ l, vldJ j = true) : rOs l 256 = ordJ l := by
  refine srt_uniq rOs_srt srt_Srt (KE.trans (fun k => ?_) srt_KE.symm)
  rw [rOs_fil]
  by_cases c : 0 ≤ k ∧ k < (256 : Nat)
  · rw [if_pos c]; rfl
  · rw [if_neg c]
    refine (List.filter_eq_nil_iff.2 fun a ha => ?_).symm
    have hi := iota_in a ha
    have := (vldJ_iff _).1 (h _ (getM (l := l) (k := a.toNat) (z := Job.zero) (by unfold inJ at hi; omega)))
    simp only [decide_eq_true_eq]
    unfold keyJ
    omega
theorem rO_le {l : List Job} {p : Int} {k : Nat} : (rO l p k).length ≤ k := by
  have := List.length_filter_le (fun a => decide (keyJ l a = p)) (iotaI k)
  rw [iota_len] at this
  exact this
theorem rOs_le {l : List Job} : ∀ {P : Nat}, (rOs l P).length ≤ P * l.length
  | 0 => Nat.zero_le _
  | P + 1 => by
    rw [rOs, List.length_append, Nat.succ_mul]
    have := rOs_le (l := l) (P := P)
    have := rO_le (l := l) (p := P) (k := l.length)
    omega
theorem rOs_0 {l : List Job} : rOs l 0 = [] := rfl
theorem rOs_s {l : List Job} {P : Nat} : rOs l (P + 1) = rOs l P ++ rO l P l.length := rfl
theorem rO_0 {l : List Job} {p : Int} : rO l p 0 = [] := rfl
attribute [irreducible] rOs rO
theorem b_rorder (l : List Job) (hj : ∀ j ∈ l, vldJ j = true) (hl : l.length ≤ 256) : DoesK Try.prog 0 28 [.ro .job l] [] (EndF 0 (.ro .int (ordJ l)) []) := by
  refine DoesK.close ?_
  rw [← rOs_ord hj]
  refine w_body (rs := [.tmp 2]) (tm := [.ro .job l, .any, .any, .any, .any, .any, .any, .any, .any, .any, .any, .any, .any, .any, .any, .any, .any, .any, .any, .any, .any, .any, .any, .any, .any, .any, .any, .any]) fn_28 rfl rfl rfl rfl fun R hR => ?_
  (all_goals (try ((first | (with_reducible refine wp_id ?_) | (with_reducible refine does_id ?_) | (with_reducible refine ops_id ?_)); refine walk ?_; (repeat' (first | exact trivial | with_reducible refine And.intro ?_ ?_)); all_goals (repeat (first | (with_reducible refine ImpB.mk fun hb => ?_) | (with_reducible refine ImpK.mk fun hK => ?_) | (with_reducible refine ImpF.mk fun hF => ?_) | (with_reducible refine ImpQ.mk fun hp => ?_) | (with_reducible refine AllE.mk fun p => ?_) | (with_reducible refine AllR.mk fun rest => ?_) | (with_reducible refine AllK.mk fun K => ?_))))); repeat' (with_reducible refine And.intro ?_ ?_))
  refine Wp.ghost (gh_adopt (s := 3) .int trivial) ?_
  simp only [go_sem, decide_true, decide_false, Int.reduceToNat, Nat.min_eq_left, Nat.min_eq_right, Int.reducePow, Nat.reducePow, Int.reduceLE, Int.reduceLT, Int.reduceMul, Int.reduceAdd, Int.reduceSub, Int.reduceNeg, Bool.not_true, Bool.not_false, Bool.not_not, ↓reduceIte, Nat.reduceAdd, Nat.reduceSub, Nat.reduceMul, Nat.reduceEqDiff, reduceCtorEq, Nat.reduceLT, Nat.reduceLeDiff, Nat.reduceGT]
  any_goals ((try (refine w_seq fun K hK => ?_)); (try (refine w_block ?_)); refine w_loop (A := Nat) (fun P => P ≤ 256) (fun P => 256 - P) (fun P => [(4, .int .i64 P), (3, .sl 0 .int 0 (rOs l P).length)]) (fun P => [(0, .rows .int (rOs l P))]) (0) (ws := ?ws2) (tk := ?tk2) ?hw2 ?ht2 ?hi ?h0 ?LH2; (case hw2 => simp only [go_sem, decide_true, decide_false, Int.reduceToNat, Nat.min_eq_left, Nat.min_eq_right, Int.reducePow, Nat.reducePow, Int.reduceLE, Int.reduceLT, Int.reduceMul, Int.reduceAdd, Int.reduceSub, Int.reduceNeg, Bool.not_true, Bool.not_false, Bool.not_not, ↓reduceIte, Nat.reduceAdd, Nat.reduceSub, Nat.reduceMul, Nat.reduceEqDiff, reduceCtorEq, Nat.reduceLT, Nat.reduceLeDiff, Nat.reduceGT]; exact rfl); (case ht2 => simp only [go_sem, decide_true, decide_false, Int.reduceToNat, Nat.min_eq_left, Nat.min_eq_right, Int.reducePow, Nat.reducePow, Int.reduceLE, Int.reduceLT, Int.reduceMul, Int.reduceAdd, Int.reduceSub, Int.reduceNeg, Bool.not_true, Bool.not_false, Bool.not_not, ↓reduceIte, Nat.reduceAdd, Nat.reduceSub, Nat.reduceMul, Nat.reduceEqDiff, reduceCtorEq, Nat.reduceLT, Nat.reduceLeDiff, Nat.reduceGT]; exact rfl); (case' LH2 => rintro P E t hx hE ht; simp only [go_sem] at ht; subst ht; simp only [go_sem]; try dsimp only at hx))
  case hi => exact Nat.zero_le _
  case h0 =>
    (focus (refine ⟨_, _, Gh.refl, [0], rfl, ?_⟩; (refine ⟨?_, ?_, ?_⟩ <;> simp only [go_sem, List.range, List.range.loop, List.nodup_cons, List.nodup_nil, List.mem_cons, List.not_mem_nil, or_false, or_self, decide_true, decide_false, Int.reduceToNat, Nat.min_eq_left, Nat.min_eq_right, Int.reducePow, Nat.reducePow, Int.reduceLE, Int.reduceLT, Int.reduceMul, Int.reduceAdd, Int.reduceSub, Int.reduceNeg, Bool.not_true, Bool.not_false, Bool.not_not, ↓reduceIte, Nat.reduceAdd, Nat.reduceSub, Nat.reduceMul, Nat.reduceEqDiff, reduceCtorEq, Nat.reduceLT, Nat.reduceLeDiff, Nat.reduceGT]); (try any_goals (refine ⟨?_, ?_⟩)); (try any_goals (with_reducible rfl))))
    all_goals (rw [rOs_0]; try rfl)
  case LH2 =>
    have hP0 : P ≤ 256 := hx
    have hle := rOs_le (l := l) (P := P)
    have hle2 : P * l.length ≤ 256 * 256 := Nat.mul_le_mul hP0 hl
    by_cases hP : P ≤ 255
    · have hPd : decide ((P : Int) ≤ 255) = true := decide_eq_true (by omega)
      (have zx1 := @hPd; all_goals (try ((first | (with_reducible refine wp_id ?_) | (with_reducible refine does_id ?_) | (with_reducible refine ops_id ?_)); refine walk ?_; (repeat' (first | exact trivial | with_reducible refine And.intro ?_ ?_)); all_goals (repeat (first | (with_reducible refine ImpB.mk fun hb => ?_) | (with_reducible refine ImpK.mk fun hK => ?_) | (with_reducible refine ImpF.mk fun hF => ?_) | (with_reducible refine ImpQ.mk fun hp => ?_) | (with_reducible refine AllE.mk fun p => ?_) | (with_reducible refine AllR.mk fun rest => ?_) | (with_reducible refine AllK.mk fun K => ?_))))); repeat' (with_reducible refine And.intro ?_ ?_))
      (all_goals first | exact Int.natCast_nonneg _ | exact Int.ofNat_lt.2 (by assumption) | assumption | omega | exact Nat.le_refl _ | (exfalso; simp at hb; done) | (simp only [go_sem, decide_true, decide_false, Int.reduceToNat, Nat.min_eq_left, Nat.min_eq_right, Int.reducePow, Nat.reducePow, Int.reduceLE, Int.reduceLT, Int.reduceMul, Int.reduceAdd, Int.reduceSub, Int.reduceNeg, Bool.not_true, Bool.not_false, Bool.not_not, ↓reduceIte, Nat.reduceAdd, Nat.reduceSub, Nat.reduceMul, Nat.reduceEqDiff, reduceCtorEq, Nat.reduceLT, Nat.reduceLeDiff, Nat.reduceGT]; done) | (unfold capM; omega) | (simp only [List.length_drop, List.length_take, List.length_append, List.length_cons, List.length_nil]; omega) | skip)
      any_goals ((try (refine w_seq fun K hK => ?_)); (try (refine w_block ?_)); refine w_loop (A := Nat) (fun k => k ≤ l.length) (fun k => l.length - k) (fun k => [(4, .int .i64 P), (5, .int .i64 k), (3, .sl 0 .int 0 (rOs l P ++ rO l P k).length)]) (fun k => [(0, .rows .int (rOs l P ++ rO l P k))]) (0) (ws := ?ws3) (tk := ?tk3) ?hw3 ?ht3 ?hi_1 ?h0_1 ?LH3; (case hw3 => simp only [go_sem, decide_true, decide_false, Int.reduceToNat, Nat.min_eq_left, Nat.min_eq_right, Int.reducePow, Nat.reducePow, Int.reduceLE, Int.reduceLT, Int.reduceMul, Int.reduceAdd, Int.reduceSub, Int.reduceNeg, Bool.not_true, Bool.not_false, Bool.not_not, ↓reduceIte, Nat.reduceAdd, Nat.reduceSub, Nat.reduceMul, Nat.reduceEqDiff, reduceCtorEq, Nat.reduceLT, Nat.reduceLeDiff, Nat.reduceGT]; exact rfl); (case ht3 => simp only [go_sem, decide_true, decide_false, Int.reduceToNat, Nat.min_eq_left, Nat.min_eq_right, Int.reducePow, Nat.reducePow, Int.reduceLE, Int.reduceLT, Int.reduceMul, Int.reduceAdd, Int.reduceSub, Int.reduceNeg, Bool.not_true, Bool.not_false, Bool.not_not, ↓reduceIte, Nat.reduceAdd, Nat.reduceSub, Nat.reduceMul, Nat.reduceEqDiff, reduceCtorEq, Nat.reduceLT, Nat.reduceLeDiff, Nat.reduceGT]; exact rfl); (case' LH3 => rintro k E t hx hE ht; simp only [go_sem] at ht; subst ht; simp only [go_sem]; try dsimp only at hx))
      case hi_1 => exact Nat.zero_le _
      case h0_1 =>
        (focus (refine ⟨_, _, Gh.refl, [0], rfl, ?_⟩; (refine ⟨?_, ?_, ?_⟩ <;> simp only [go_sem, List.range, List.range.loop, List.nodup_cons, List.nodup_nil, List.mem_cons, List.not_mem_nil, or_false, or_self, decide_true, decide_false, Int.reduceToNat, Nat.min_eq_left, Nat.min_eq_right, Int.reducePow, Nat.reducePow, Int.reduceLE, Int.reduceLT, Int.reduceMul, Int.reduceAdd, Int.reduceSub, Int.reduceNeg, Bool.not_true, Bool.not_false, Bool.not_not, ↓reduceIte, Nat.reduceAdd, Nat.reduceSub, Nat.reduceMul, Nat.reduceEqDiff, reduceCtorEq, Nat.reduceLT, Nat.reduceLeDiff, Nat.reduceGT]); (try any_goals (refine ⟨?_, ?_⟩)); (try any_goals (with_reducible rfl))))
        all_goals (rw [rO_0]; first | rfl | (rw [List.append_nil]))
      case LH3 =>
        have hk0 : k ≤ l.length := hx
        have hrl := rO_le (l := l) (p := P) (k := k)
        have hnx := rO_next (l := l) (p := P) (k := k)
        have hal : (rOs l P ++ rO l P k).length = (rOs l P).length + (rO l P k).length := List.length_append
        have hw1 : IntKind.i64.wrap ((k : Int) + 1) = ((k + 1 : Nat) : Int) := by rw [wrap_i64 _ (by omega) (by omega)]; omega
        have hw2 : IntKind.i64.wrap ((P : Int) + 1) = ((P + 1 : Nat) : Int) := by rw [wrap_i64 _ (by omega) (by omega)]; omega
        by_cases hk : k < l.length
        · have hkd : decide ((k : Int) < (l.length : Int)) = true := decide_eq_true (by omega)
          by_cases c : keyJ l k = P
          · have hcd : decide ((l.getD k Job.zero).pri = (P : Int)) = true := decide_eq_true c
            rw [if_pos c] at hnx
            (have zx1 := @hkd; have zx2 := @hw1; have zx3 := @hcd; all_goals (try ((first | (with_reducible refine wp_id ?_) | (with_reducible refine does_id ?_) | (with_reducible refine ops_id ?_)); refine walk ?_; (repeat' (first | exact trivial | with_reducible refine And.intro ?_ ?_)); all_goals (repeat (first | (with_reducible refine ImpB.mk fun hb => ?_) | (with_reducible refine ImpK.mk fun hK => ?_) | (with_reducible refine ImpF.mk fun hF => ?_) | (with_reducible refine ImpQ.mk fun hp => ?_) | (with_reducible refine AllE.mk fun p => ?_) | (with_reducible refine AllR.mk fun rest => ?_) | (with_reducible refine AllK.mk fun K => ?_))))); repeat' (with_reducible refine And.intro ?_ ?_))
            (all_goals first | exact Int.natCast_nonneg _ | exact Int.ofNat_lt.2 (by assumption) | assumption | omega | exact Nat.le_refl _ | (exfalso; simp at hb; done) | (simp only [go_sem, decide_true, decide_false, Int.reduceToNat, Nat.min_eq_left, Nat.min_eq_right, Int.reducePow, Nat.reducePow, Int.reduceLE, Int.reduceLT, Int.reduceMul, Int.reduceAdd, Int.reduceSub, Int.reduceNeg, Bool.not_true, Bool.not_false, Bool.not_not, ↓reduceIte, Nat.reduceAdd, Nat.reduceSub, Nat.reduceMul, Nat.reduceEqDiff, reduceCtorEq, Nat.reduceLT, Nat.reduceLeDiff, Nat.reduceGT]; done) | (unfold capM; omega) | (simp only [List.length_drop, List.length_take, List.length_append, List.length_cons, List.length_nil]; omega) | skip)
            refine ⟨k + 1, ⟨by first | omega | (dsimp only; omega), by first | omega | (dsimp only; omega)⟩, ?_⟩
            dsimp only
            rw [hnx, ← List.append_assoc]
            (focus (refine ⟨_, _, Gh.refl, [2], rfl, ?_⟩; (refine ⟨?_, ?_, ?_⟩ <;> simp only [go_sem, List.range, List.range.loop, List.nodup_cons, List.nodup_nil, List.mem_cons, List.not_mem_nil, or_false, or_self, decide_true, decide_false, Int.reduceToNat, Nat.min_eq_left, Nat.min_eq_right, Int.reducePow, Nat.reducePow, Int.reduceLE, Int.reduceLT, Int.reduceMul, Int.reduceAdd, Int.reduceSub, Int.reduceNeg, Bool.not_true, Bool.not_false, Bool.not_not, ↓reduceIte, Nat.reduceAdd, Nat.reduceSub, Nat.reduceMul, Nat.reduceEqDiff, reduceCtorEq, Nat.reduceLT, Nat.reduceLeDiff, Nat.reduceGT]); (try any_goals (refine ⟨?_, ?_⟩)); (try any_goals (with_reducible rfl))))
            all_goals first | exact rfl | (simp only [List.length_append, List.length_cons, List.length_nil]; done) | (simp only [List.length_append, List.length_cons, List.length_nil]; omega) | trace_state
          · have hcd : decide ((l.getD k Job.zero).pri = (P : Int)) = false := decide_eq_false c
            rw [if_neg c] at hnx
            (have zx1 := @hkd; have zx2 := @hw1; have zx3 := @hcd; all_goals (try ((first | (with_reducible refine wp_id ?_) | (with_reducible refine does_id ?_) | (with_reducible refine ops_id ?_)); refine walk ?_; (repeat' (first | exact trivial | with_reducible refine And.intro ?_ ?_)); all_goals (repeat (first | (with_reducible refine ImpB.mk fun hb => ?_) | (with_reducible refine ImpK.mk fun hK => ?_) | (with_reducible refine ImpF.mk fun hF => ?_) | (with_reducible refine ImpQ.mk fun hp => ?_) | (with_reducible refine AllE.mk fun p => ?_) | (with_reducible refine AllR.mk fun rest => ?_) | (with_reducible refine AllK.mk fun K => ?_))))); repeat' (with_reducible refine And.intro ?_ ?_))
            (all_goals first | exact Int.natCast_nonneg _ | exact Int.ofNat_lt.2 (by assumption) | assumption | omega | exact Nat.le_refl _ | (exfalso; simp at hb; done) | (simp only [go_sem, decide_true, decide_false, Int.reduceToNat, Nat.min_eq_left, Nat.min_eq_right, Int.reducePow, Nat.reducePow, Int.reduceLE, Int.reduceLT, Int.reduceMul, Int.reduceAdd, Int.reduceSub, Int.reduceNeg, Bool.not_true, Bool.not_false, Bool.not_not, ↓reduceIte, Nat.reduceAdd, Nat.reduceSub, Nat.reduceMul, Nat.reduceEqDiff, reduceCtorEq, Nat.reduceLT, Nat.reduceLeDiff, Nat.reduceGT]; done) | (unfold capM; omega) | (simp only [List.length_drop, List.length_take, List.length_append, List.length_cons, List.length_nil]; omega) | skip)
            refine ⟨k + 1, ⟨by first | omega | (dsimp only; omega), by first | omega | (dsimp only; omega)⟩, ?_⟩
            dsimp only
            rw [hnx]
            (focus (refine ⟨_, _, Gh.refl, [0], rfl, ?_⟩; (refine ⟨?_, ?_, ?_⟩ <;> simp only [go_sem, List.range, List.range.loop, List.nodup_cons, List.nodup_nil, List.mem_cons, List.not_mem_nil, or_false, or_self, decide_true, decide_false, Int.reduceToNat, Nat.min_eq_left, Nat.min_eq_right, Int.reducePow, Nat.reducePow, Int.reduceLE, Int.reduceLT, Int.reduceMul, Int.reduceAdd, Int.reduceSub, Int.reduceNeg, Bool.not_true, Bool.not_false, Bool.not_not, ↓reduceIte, Nat.reduceAdd, Nat.reduceSub, Nat.reduceMul, Nat.reduceEqDiff, reduceCtorEq, Nat.reduceLT, Nat.reduceLeDiff, Nat.reduceGT]); (try any_goals (refine ⟨?_, ?_⟩)); (try any_goals (with_reducible rfl))))
            all_goals first | exact rfl | exact hal | exact hal.symm | trace_state
        · have hkd : decide ((k : Int) < (l.length : Int)) = false := decide_eq_false (by omega)
          obtain rfl : k = l.length := by omega
          (have zx1 := @hkd; have zx2 := @hw2; all_goals (try ((first | (with_reducible refine wp_id ?_) | (with_reducible refine does_id ?_) | (with_reducible refine ops_id ?_)); refine walk ?_; (repeat' (first | exact trivial | with_reducible refine And.intro ?_ ?_)); all_goals (repeat (first | (with_reducible refine ImpB.mk fun hb => ?_) | (with_reducible refine ImpK.mk fun hK => ?_) | (with_reducible refine ImpF.mk fun hF => ?_) | (with_reducible refine ImpQ.mk fun hp => ?_) | (with_reducible refine AllE.mk fun p => ?_) | (with_reducible refine AllR.mk fun rest => ?_) | (with_reducible refine AllK.mk fun K => ?_))))); repeat' (with_reducible refine And.intro ?_ ?_))
          (all_goals first | exact Int.natCast_nonneg _ | exact Int.ofNat_lt.2 (by assumption) | assumption | omega | exact Nat.le_refl _ | (exfalso; simp at hb; done) | (simp only [go_sem, decide_true, decide_false, Int.reduceToNat, Nat.min_eq_left, Nat.min_eq_right, Int.reducePow, Nat.reducePow, Int.reduceLE, Int.reduceLT, Int.reduceMul, Int.reduceAdd, Int.reduceSub, Int.reduceNeg, Bool.not_true, Bool.not_false, Bool.not_not, ↓reduceIte, Nat.reduceAdd, Nat.reduceSub, Nat.reduceMul, Nat.reduceEqDiff, reduceCtorEq, Nat.reduceLT, Nat.reduceLeDiff, Nat.reduceGT]; done) | (unfold capM; omega) | (simp only [List.length_drop, List.length_take, List.length_append, List.length_cons, List.length_nil]; omega) | skip)
          refine ⟨P + 1, ⟨by first | omega | (dsimp only; omega), by first | omega | (dsimp only; omega)⟩, ?_⟩
          dsimp only
          rw [rOs_s]
          (focus (refine ⟨_, _, Gh.refl, [0], rfl, ?_⟩; (refine ⟨?_, ?_, ?_⟩ <;> simp only [go_sem, List.range, List.range.loop, List.nodup_cons, List.nodup_nil, List.mem_cons, List.not_mem_nil, or_false, or_self, decide_true, decide_false, Int.reduceToNat, Nat.min_eq_left, Nat.min_eq_right, Int.reducePow, Nat.reducePow, Int.reduceLE, Int.reduceLT, Int.reduceMul, Int.reduceAdd, Int.reduceSub, Int.reduceNeg, Bool.not_true, Bool.not_false, Bool.not_not, ↓reduceIte, Nat.reduceAdd, Nat.reduceSub, Nat.reduceMul, Nat.reduceEqDiff, reduceCtorEq, Nat.reduceLT, Nat.reduceLeDiff, Nat.reduceGT]); (try any_goals (refine ⟨?_, ?_⟩)); (try any_goals (with_reducible rfl))))
          all_goals first | exact rfl | exact hal | exact hal.symm | trace_state
    · have hPd : decide ((P : Int) ≤ 255) = false := decide_eq_false (by omega)
      obtain rfl : P = 256 := by omega
      (have zx1 := @hPd; all_goals (try ((first | (with_reducible refine wp_id ?_) | (with_reducible refine does_id ?_) | (with_reducible refine ops_id ?_)); refine walk ?_; (repeat' (first | exact trivial | with_reducible refine And.intro ?_ ?_)); all_goals (repeat (first | (with_reducible refine ImpB.mk fun hb => ?_) | (with_reducible refine ImpK.mk fun hK => ?_) | (with_reducible refine ImpF.mk fun hF => ?_) | (with_reducible refine ImpQ.mk fun hp => ?_) | (with_reducible refine AllE.mk fun p => ?_) | (with_reducible refine AllR.mk fun rest => ?_) | (with_reducible refine AllK.mk fun K => ?_))))); repeat' (with_reducible refine And.intro ?_ ?_))
      (all_goals first | exact Int.natCast_nonneg _ | exact Int.ofNat_lt.2 (by assumption) | assumption | omega | exact Nat.le_refl _ | (exfalso; simp at hb; done) | (simp only [go_sem, decide_true, decide_false, Int.reduceToNat, Nat.min_eq_left, Nat.min_eq_right, Int.reducePow, Nat.reducePow, Int.reduceLE, Int.reduceLT, Int.reduceMul, Int.reduceAdd, Int.reduceSub, Int.reduceNeg, Bool.not_true, Bool.not_false, Bool.not_not, ↓reduceIte, Nat.reduceAdd, Nat.reduceSub, Nat.reduceMul, Nat.reduceEqDiff, reduceCtorEq, Nat.reduceLT, Nat.reduceLeDiff, Nat.reduceGT]; done) | (unfold capM; omega) | (simp only [List.length_drop, List.length_take, List.length_append, List.length_cons, List.length_nil]; omega) | skip)
      refine end_ro rfl ?_ rfl ?_
      · rfl
      · simp only [go_sem, decide_true, decide_false, Int.reduceToNat, Nat.min_eq_left, Nat.min_eq_right, Int.reducePow, Nat.reducePow, Int.reduceLE, Int.reduceLT, Int.reduceMul, Int.reduceAdd, Int.reduceSub, Int.reduceNeg, Bool.not_true, Bool.not_false, Bool.not_not, ↓reduceIte, Nat.reduceAdd, Nat.reduceSub, Nat.reduceMul, Nat.reduceEqDiff, reduceCtorEq, Nat.reduceLT, Nat.reduceLeDiff, Nat.reduceGT]
theorem c_rorder {h : List Ch} {K : KT} {l : List Job} {a : AV} (H : K (.ro .int (ordJ l)) h) (q1 : isRO .job l a) (s1 : ∀ j ∈ l, vldJ j = true) (s2 : l.length ≤ 256) : Does Try.prog 28 [a] h K :=
  frame_pure (b_rorder l s1 s2) (br_cons q1.br br_nil) (.inl (by rw [brTL, q1.brT]; rfl)) (fun _ => rfl) H
abbrev i_rorder := Ctr.mk (i := 0) (g := 28) @c_rorder
attribute [instance] i_rorder
end Go.V
