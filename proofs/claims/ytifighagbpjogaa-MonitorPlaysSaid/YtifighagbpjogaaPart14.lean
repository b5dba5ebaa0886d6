/-
  The pool of four parameters: the program's and the reference's.
  monitor.New of one limit.
  monitor: Check of a service with one limit.
-/
import Derived.Test.YtifighagbpjogaaPart13
set_option linter.unusedVariables false
set_option linter.unusedSimpArgs false
set_option maxRecDepth 100000
set_option maxHeartbeats 8000000
namespace Go.V
open Go.Proofs
/-- what the pool is made of -/
def dsP : List Pdf := [⟨0, 32, true, 0⟩, ⟨1, 32, true, 0⟩, ⟨2, 32, false, 0⟩, ⟨3, 8, false, 0⟩]
theorem b_tapp (ids : List Int) (vs : List Pdf) (i : Int) (v : Pdf) (h1 : ids.length ≤ 1000) (h2 : vs.length ≤ 1000) : DoesK Try.prog 1 39 [.ptr 0 1, .int .i64 i, .agg (pdL v)] [.pack (PL ids vs)] (EndF 1 (.tup []) ([.pack (PL (ids ++ [i]) (vs ++ [v]))] ++ [])) := by
  refine DoesK.close ?_
  have hro : RoLit := .mk
  refine w_body (rs := []) (tm := [.ptr 0 1, .int .i64 i, .agg (pdL v), .any, .any, .any, .any, .any, .any, .any, .any, .any, .any, .any, .any, .any, .any, .any, .any, .any, .any, .any, .any, .any, .any, .any]) fn_39 rfl rfl rfl rfl fun R hR => ?_
  refine w_seq fun K2 hk2 => ?_; have hq2 := Slot.mk hk2; clear hk2
  (all_goals (try ((with_reducible first | refine wp_id ?_ | refine does_id ?_ | refine ops_id ?_); refine walk ?_; (repeat' (first | exact trivial | with_reducible refine And.intro ?_ ?_)); all_goals (repeat with_reducible first | refine ImpB.mk fun hb => ?_ | refine ImpK.mk fun hK => ?_ | refine ImpF.mk fun hF => ?_ | refine ImpQ.mk fun hp => ?_ | refine AllE.mk fun p => ?_ | refine AllR.mk fun rest => ?_ | refine AllK.mk fun K => ?_))); repeat' (with_reducible refine And.intro ?_ ?_))
  refine hq2.un _ _ ?_
  refine w_open 0 rfl rfl ?_
  simp only [go_sem, decide_true, decide_false, Int.reduceToNat, Nat.min_eq_left, Nat.min_eq_right, Int.reducePow, Nat.reducePow, Int.reduceLE, Int.reduceLT, Int.reduceMul, Int.reduceAdd, Int.reduceSub, Int.reduceNeg, Bool.not_true, Bool.not_false, Bool.not_not, ↓reduceIte, Nat.reduceAdd, Nat.reduceSub, Nat.reduceMul, Nat.reduceEqDiff, reduceCtorEq, Nat.reduceLT, Nat.reduceLeDiff, Nat.reduceGT]
  (all_goals (try ((with_reducible first | refine wp_id ?_ | refine does_id ?_ | refine ops_id ?_); refine walk ?_; (repeat' (first | exact trivial | with_reducible refine And.intro ?_ ?_)); all_goals (repeat with_reducible first | refine ImpB.mk fun hb => ?_ | refine ImpK.mk fun hK => ?_ | refine ImpF.mk fun hF => ?_ | refine ImpQ.mk fun hp => ?_ | refine AllE.mk fun p => ?_ | refine AllR.mk fun rest => ?_ | refine AllK.mk fun K => ?_))); repeat' (with_reducible refine And.intro ?_ ?_))
  all_goals first | (show _ ≤ (_ : Nat); omega) | skip
  (focus (refine ⟨_, _, gh_close (t := 0) (ts := [5, 6]) (l := PL (ids ++ [i]) (vs ++ [v])) ⟨⟨_, _, rfl⟩, ?_, by simp⟩, [0], rfl, ?_⟩; all_goals (refine fitq ?_ ?_ ?_ <;> try exact trivial); (try any_goals (refine ⟨?_, ?_⟩)); (try any_goals (with_reducible rfl))))
  all_goals (repeat' (first | (refine And.intro ?_ ?_) | rfl | (simp only [List.length_append, List.length_cons, List.length_nil]; done)))
/-- the pool after k parameters -/
def PLF (k : Nat) : List Ch := PL ((dsP.take k).map (·.id)) (dsP.take k)
theorem c_tappF {h : List Ch} {K : KT} {u k : Nat} {i w v : Int} {s : Bool} (H : K (.tup []) (h.set u (.pack (PLF (k + 1))))) (o : hth h u = .pack (PLF k)) (e : dsP[k]? = some ⟨i, w, s, v⟩) : Does Try.prog 39 [.ptr u 1, .int .i64 i, .agg [.int .i64 i, .int .i64 w, .bool s, .int .i64 v]] h K := by
  have hl : (dsP.take k).length ≤ 1000 := by rw [List.length_take]; exact Nat.le_trans (Nat.min_le_right _ _) (by decide)
  have et : dsP.take (k + 1) = dsP.take k ++ [⟨i, w, s, v⟩] := by rw [List.take_add_one, e]; rfl
  have hb := b_tapp ((dsP.take k).map (·.id)) (dsP.take k) i ⟨i, w, s, v⟩ (by rw [List.length_map]; exact hl) hl
  have e2 : PLF (k + 1) = PL ((dsP.take k).map (·.id) ++ [i]) (dsP.take k ++ [⟨i, w, s, v⟩]) := by
    unfold PLF
    rw [et, List.map_append]
    rfl
  rw [e2] at H
  exact frame_obj0 hb o (by simp) (fitC_pack _) (br_cons (br_ptr rfl) (br_cons br_int (br_cons (br_agg (br_cons br_int (br_cons br_int (br_cons br_bool (br_cons br_int br_nil))))) br_nil))) (.inl rfl) (fun _ => rfl) rfl H
abbrev i_tappF := Ctr.mk (i := 0) (g := 39) @c_tappF
attribute [instance] i_tappF
theorem b_pnew : DoesK Try.prog 0 25 [.ro .pdf dsP] [] (EndF 0 (.tup [.ptr 0 0, .int .i64 0]) [.pack (PO 0 0)]) := by
  refine DoesK.close ?_
  have hl : ((dsP.length : Nat) : Int) = 4 := rfl
  have hi0 : inS 0 = true := by decide
  refine w_body (rs := [.tmp 2, .tmp 3]) (tm := [.ro .pdf dsP, .any, .any, .any, .any, .any, .any, .any, .any, .any, .any, .any, .any, .any, .any, .any, .any, .any, .any, .any, .any, .any, .any, .any, .any, .any, .any, .any, .any, .any, .any, .any, .any, .any, .any, .any, .any, .any, .any, .any, .any, .any, .any, .any, .any, .any, .any, .any, .any, .any, .any, .any, .any, .any, .any, .any, .any, .any, .any, .any, .any, .any, .any, .any, .any, .any, .any, .any]) fn_25 rfl rfl rfl rfl fun R hR => ?_
  (have zx1 := @hl; all_goals (try ((with_reducible first | refine wp_id ?_ | refine does_id ?_ | refine ops_id ?_); refine walk ?_; (repeat' (first | exact trivial | with_reducible refine And.intro ?_ ?_)); all_goals (repeat with_reducible first | refine ImpB.mk fun hb => ?_ | refine ImpK.mk fun hK => ?_ | refine ImpF.mk fun hF => ?_ | refine ImpQ.mk fun hp => ?_ | refine AllE.mk fun p => ?_ | refine AllR.mk fun rest => ?_ | refine AllK.mk fun K => ?_))); repeat' (with_reducible refine And.intro ?_ ?_))
  any_goals ((try (refine w_seq fun K hK => ?_)); (try (refine w_block ?_)); refine w_loop (A := Nat) (fun k => k ≤ 4) (fun k => 4 - k) (fun k => [(14, .int .i64 k), (4, .ptr 0 0)]) (fun k => [(0, .pack (PLF k))]) (0) (ws := ?ws1) (tk := ?tk1) ?hw1 ?ht1 ?hi ?h0 ?LH1; (case hw1 => simp only [go_sem, decide_true, decide_false, Int.reduceToNat, Nat.min_eq_left, Nat.min_eq_right, Int.reducePow, Nat.reducePow, Int.reduceLE, Int.reduceLT, Int.reduceMul, Int.reduceAdd, Int.reduceSub, Int.reduceNeg, Bool.not_true, Bool.not_false, Bool.not_not, ↓reduceIte, Nat.reduceAdd, Nat.reduceSub, Nat.reduceMul, Nat.reduceEqDiff, reduceCtorEq, Nat.reduceLT, Nat.reduceLeDiff, Nat.reduceGT]; exact rfl); (case ht1 => simp only [go_sem, decide_true, decide_false, Int.reduceToNat, Nat.min_eq_left, Nat.min_eq_right, Int.reducePow, Nat.reducePow, Int.reduceLE, Int.reduceLT, Int.reduceMul, Int.reduceAdd, Int.reduceSub, Int.reduceNeg, Bool.not_true, Bool.not_false, Bool.not_not, ↓reduceIte, Nat.reduceAdd, Nat.reduceSub, Nat.reduceMul, Nat.reduceEqDiff, reduceCtorEq, Nat.reduceLT, Nat.reduceLeDiff, Nat.reduceGT]; exact rfl); (case' LH1 => rintro k E t hx hE ht; simp only [go_sem] at ht; subst ht; simp only [go_sem]; try dsimp only at hx))
  case hi => exact Nat.zero_le _
  case h0 =>
    simp only [go_sem]
    refine ⟨_, _, Gh.trans (gh_adoptC (t := 0) (i := 1) .int rfl trivial) (Gh.trans (gh_adoptC (t := 0) (i := 2) .pdf rfl trivial) (gh_close (t := 0) (ts := [1, 2]) (l := PL [] []) ⟨⟨_, _, rfl⟩, ?fc, by simp⟩)), [0], rfl, ?ft⟩
    case' ft => (refine fitq ?_ ?_ ?_ <;> try exact trivial)
    case' fc => simp only [go_sem, decide_true, decide_false, Int.reduceToNat, Nat.min_eq_left, Nat.min_eq_right, Int.reducePow, Nat.reducePow, Int.reduceLE, Int.reduceLT, Int.reduceMul, Int.reduceAdd, Int.reduceSub, Int.reduceNeg, Bool.not_true, Bool.not_false, Bool.not_not, ↓reduceIte, Nat.reduceAdd, Nat.reduceSub, Nat.reduceMul, Nat.reduceEqDiff, reduceCtorEq, Nat.reduceLT, Nat.reduceLeDiff, Nat.reduceGT]
    all_goals (repeat' (first | (refine And.intro ?_ ?_) | rfl))
  case LH1 =>
    have hk0 : k ≤ 4 := hx
    by_cases hk : k < 4
    · have hkd : decide ((k : Int) < 4) = true := decide_eq_true (by omega)
      have hw : IntKind.i64.wrap ((k : Int) + 1) = ((k + 1 : Nat) : Int) := by rw [wrap_i64 _ (by omega) (by omega)]; omega
      by_cases hz0 : k = 0
      · have hxe : dsP.getD k Pdf.zero = ⟨0, 32, true, 0⟩ := by rw [hz0]; rfl
        have hxs : dsP[k]? = some ⟨0, 32, true, 0⟩ := by rw [hz0]; rfl
        have d3 : decide ((0 : Int) < k) = false := decide_eq_false (by omega)
        (have zx1 := @hl; have zx2 := @hkd; have zx3 := @hw; have zx4 := @hxe; have zx5 := @d3; have zx6 := @hi0; all_goals (try ((with_reducible first | refine wp_id ?_ | refine does_id ?_ | refine ops_id ?_); refine walk ?_; (repeat' (first | exact trivial | with_reducible refine And.intro ?_ ?_)); all_goals (repeat with_reducible first | refine ImpB.mk fun hb => ?_ | refine ImpK.mk fun hK => ?_ | refine ImpF.mk fun hF => ?_ | refine ImpQ.mk fun hp => ?_ | refine AllE.mk fun p => ?_ | refine AllR.mk fun rest => ?_ | refine AllK.mk fun K => ?_))); repeat' (with_reducible refine And.intro ?_ ?_))
        all_goals first | (show _ ≤ (_ : Nat); omega) | (show _ < (_ : Int); omega) | (show _ ≤ (_ : Int); omega) | skip
        refine ⟨k + 1, ⟨by first | omega | (dsimp only; omega), by first | omega | (dsimp only; omega)⟩, ?_⟩
        dsimp only
        (focus (refine ⟨_, _, Gh.refl, [0], rfl, ?_⟩; (refine fitq ?_ ?_ ?_ <;> try exact trivial); (try any_goals (refine ⟨?_, ?_⟩)); (try any_goals (with_reducible rfl))))
        all_goals (repeat' (first | (refine And.intro ?_ ?_) | rfl))
      by_cases hz1 : k = 1
      · have hxe : dsP.getD k Pdf.zero = ⟨1, 32, true, 0⟩ := by rw [hz1]; rfl
        have hxs : dsP[k]? = some ⟨1, 32, true, 0⟩ := by rw [hz1]; rfl
        have d3 : decide ((0 : Int) < k) = true := decide_eq_true (by omega)
        have hw1 : IntKind.i64.wrap ((k : Int) - 1) = ((k - 1 : Nat) : Int) := by rw [wrap_i64 _ (by omega) (by omega)]; omega
        have hxp : dsP.getD (k - 1) Pdf.zero = ⟨0, 32, true, 0⟩ := by rw [hz1]; rfl
        (have zx1 := @hl; have zx2 := @hkd; have zx3 := @hw; have zx4 := @hxe; have zx5 := @d3; have zx6 := @hw1; have zx7 := @hxp; have zx8 := @hi0; all_goals (try ((with_reducible first | refine wp_id ?_ | refine does_id ?_ | refine ops_id ?_); refine walk ?_; (repeat' (first | exact trivial | with_reducible refine And.intro ?_ ?_)); all_goals (repeat with_reducible first | refine ImpB.mk fun hb => ?_ | refine ImpK.mk fun hK => ?_ | refine ImpF.mk fun hF => ?_ | refine ImpQ.mk fun hp => ?_ | refine AllE.mk fun p => ?_ | refine AllR.mk fun rest => ?_ | refine AllK.mk fun K => ?_))); repeat' (with_reducible refine And.intro ?_ ?_))
        all_goals first | (show _ ≤ (_ : Nat); omega) | (show _ < (_ : Int); omega) | (show _ ≤ (_ : Int); omega) | skip
        refine ⟨k + 1, ⟨by first | omega | (dsimp only; omega), by first | omega | (dsimp only; omega)⟩, ?_⟩
        dsimp only
        (focus (refine ⟨_, _, Gh.refl, [0], rfl, ?_⟩; (refine fitq ?_ ?_ ?_ <;> try exact trivial); (try any_goals (refine ⟨?_, ?_⟩)); (try any_goals (with_reducible rfl))))
        all_goals (repeat' (first | (refine And.intro ?_ ?_) | rfl))
      by_cases hz2 : k = 2
      · have hxe : dsP.getD k Pdf.zero = ⟨2, 32, false, 0⟩ := by rw [hz2]; rfl
        have hxs : dsP[k]? = some ⟨2, 32, false, 0⟩ := by rw [hz2]; rfl
        have d3 : decide ((0 : Int) < k) = true := decide_eq_true (by omega)
        have hw1 : IntKind.i64.wrap ((k : Int) - 1) = ((k - 1 : Nat) : Int) := by rw [wrap_i64 _ (by omega) (by omega)]; omega
        have hxp : dsP.getD (k - 1) Pdf.zero = ⟨1, 32, true, 0⟩ := by rw [hz2]; rfl
        (have zx1 := @hl; have zx2 := @hkd; have zx3 := @hw; have zx4 := @hxe; have zx5 := @d3; have zx6 := @hw1; have zx7 := @hxp; have zx8 := @hi0; all_goals (try ((with_reducible first | refine wp_id ?_ | refine does_id ?_ | refine ops_id ?_); refine walk ?_; (repeat' (first | exact trivial | with_reducible refine And.intro ?_ ?_)); all_goals (repeat with_reducible first | refine ImpB.mk fun hb => ?_ | refine ImpK.mk fun hK => ?_ | refine ImpF.mk fun hF => ?_ | refine ImpQ.mk fun hp => ?_ | refine AllE.mk fun p => ?_ | refine AllR.mk fun rest => ?_ | refine AllK.mk fun K => ?_))); repeat' (with_reducible refine And.intro ?_ ?_))
        all_goals first | (show _ ≤ (_ : Nat); omega) | (show _ < (_ : Int); omega) | (show _ ≤ (_ : Int); omega) | skip
        refine ⟨k + 1, ⟨by first | omega | (dsimp only; omega), by first | omega | (dsimp only; omega)⟩, ?_⟩
        dsimp only
        (focus (refine ⟨_, _, Gh.refl, [0], rfl, ?_⟩; (refine fitq ?_ ?_ ?_ <;> try exact trivial); (try any_goals (refine ⟨?_, ?_⟩)); (try any_goals (with_reducible rfl))))
        all_goals (repeat' (first | (refine And.intro ?_ ?_) | rfl))
      by_cases hz3 : k = 3
      · have hxe : dsP.getD k Pdf.zero = ⟨3, 8, false, 0⟩ := by rw [hz3]; rfl
        have hxs : dsP[k]? = some ⟨3, 8, false, 0⟩ := by rw [hz3]; rfl
        have d3 : decide ((0 : Int) < k) = true := decide_eq_true (by omega)
        have hw1 : IntKind.i64.wrap ((k : Int) - 1) = ((k - 1 : Nat) : Int) := by rw [wrap_i64 _ (by omega) (by omega)]; omega
        have hxp : dsP.getD (k - 1) Pdf.zero = ⟨2, 32, false, 0⟩ := by rw [hz3]; rfl
        (have zx1 := @hl; have zx2 := @hkd; have zx3 := @hw; have zx4 := @hxe; have zx5 := @d3; have zx6 := @hw1; have zx7 := @hxp; have zx8 := @hi0; all_goals (try ((with_reducible first | refine wp_id ?_ | refine does_id ?_ | refine ops_id ?_); refine walk ?_; (repeat' (first | exact trivial | with_reducible refine And.intro ?_ ?_)); all_goals (repeat with_reducible first | refine ImpB.mk fun hb => ?_ | refine ImpK.mk fun hK => ?_ | refine ImpF.mk fun hF => ?_ | refine ImpQ.mk fun hp => ?_ | refine AllE.mk fun p => ?_ | refine AllR.mk fun rest => ?_ | refine AllK.mk fun K => ?_))); repeat' (with_reducible refine And.intro ?_ ?_))
        all_goals first | (show _ ≤ (_ : Nat); omega) | (show _ < (_ : Int); omega) | (show _ ≤ (_ : Int); omega) | skip
        refine ⟨k + 1, ⟨by first | omega | (dsimp only; omega), by first | omega | (dsimp only; omega)⟩, ?_⟩
        dsimp only
        (focus (refine ⟨_, _, Gh.refl, [0], rfl, ?_⟩; (refine fitq ?_ ?_ ?_ <;> try exact trivial); (try any_goals (refine ⟨?_, ?_⟩)); (try any_goals (with_reducible rfl))))
        all_goals (repeat' (first | (refine And.intro ?_ ?_) | rfl))
      omega
    · obtain rfl : k = 4 := by omega
      have hkd : decide (((4 : Nat) : Int) < 4) = false := by decide
      have h1 : PLF 4 = PO 0 0 := rfl
      rw [h1]
      (have zx1 := @hkd; all_goals (try ((with_reducible first | refine wp_id ?_ | refine does_id ?_ | refine ops_id ?_); refine walk ?_; (repeat' (first | exact trivial | with_reducible refine And.intro ?_ ?_)); all_goals (repeat with_reducible first | refine ImpB.mk fun hb => ?_ | refine ImpK.mk fun hK => ?_ | refine ImpF.mk fun hF => ?_ | refine ImpQ.mk fun hp => ?_ | refine AllE.mk fun p => ?_ | refine AllR.mk fun rest => ?_ | refine AllK.mk fun K => ?_))); repeat' (with_reducible refine And.intro ?_ ?_))
      (focus (refine ⟨_, _, Gh.refl, [0], rfl, ?_⟩; (refine fitq ?_ ?_ ?_ <;> try exact trivial); (try any_goals (refine ⟨?_, ?_⟩)); (try any_goals (with_reducible rfl))))
      all_goals (repeat' (first | (refine And.intro ?_ ?_) | rfl))
theorem c_pnew {h : List Ch} {K : KT} {a : AV} (H : K (.tup [.ptr h.length 0, .int .i64 0]) (h ++ [.pack (PO 0 0)])) (q1 : isRO .pdf dsP a) : Does Try.prog 25 [a] h K := -- nocall
  frame_new b_pnew (br_cons q1.br br_nil) (.inl (by rw [brTL, q1.brT]; rfl)) (fun _ => rfl) (by simp [renA, renL, rhoC]) H
theorem c_pnew4 {h : List Ch} {K : KT} (H : K (.tup [.ptr h.length 0, .int .i64 0]) (h ++ [.pack (PO 0 0)])) : Does Try.prog 25 [.ro .pdf [⟨0, 32, true, 0⟩, ⟨1, 32, true, 0⟩, ⟨2, 32, false, 0⟩, ⟨3, 8, false, 0⟩]] h K :=
  c_pnew H isRO_ro
/-! ### The reference -/
abbrev i_pnew4 := Ctr.mk (i := 0) (g := 25) @c_pnew4
attribute [instance] i_pnew4
theorem b_power (n : Nat) (hn : n ≤ 62) : DoesK Try.prog 0 46 [.int .i64 n] [] (EndF 0 (.int .i64 ((2 ^ n : Nat) : Int)) []) := by
  refine DoesK.close ?_
  refine w_body (rs := [.tmp 2]) (tm := [.int .i64 n, .any, .any, .any, .any, .any, .any, .any, .any, .any, .any, .any, .any]) fn_46 rfl rfl rfl rfl fun R hR => ?_
  (all_goals (try ((with_reducible first | refine wp_id ?_ | refine does_id ?_ | refine ops_id ?_); refine walk ?_; (repeat' (first | exact trivial | with_reducible refine And.intro ?_ ?_)); all_goals (repeat with_reducible first | refine ImpB.mk fun hb => ?_ | refine ImpK.mk fun hK => ?_ | refine ImpF.mk fun hF => ?_ | refine ImpQ.mk fun hp => ?_ | refine AllE.mk fun p => ?_ | refine AllR.mk fun rest => ?_ | refine AllK.mk fun K => ?_))); repeat' (with_reducible refine And.intro ?_ ?_))
  any_goals ((try (refine w_seq fun K hK => ?_)); (try (refine w_block ?_)); refine w_loop (A := Nat) (fun k => k ≤ n) (fun k => n - k) (fun k => [(4, .int .i64 k), (3, .int .i64 ((2 ^ k : Nat) : Int))]) (fun _ => []) (0) (ws := ?ws2) (tk := ?tk2) ?hw2 ?ht2 ?hi ?h0 ?LH2; (case hw2 => simp only [go_sem, decide_true, decide_false, Int.reduceToNat, Nat.min_eq_left, Nat.min_eq_right, Int.reducePow, Nat.reducePow, Int.reduceLE, Int.reduceLT, Int.reduceMul, Int.reduceAdd, Int.reduceSub, Int.reduceNeg, Bool.not_true, Bool.not_false, Bool.not_not, ↓reduceIte, Nat.reduceAdd, Nat.reduceSub, Nat.reduceMul, Nat.reduceEqDiff, reduceCtorEq, Nat.reduceLT, Nat.reduceLeDiff, Nat.reduceGT]; exact rfl); (case ht2 => simp only [go_sem, decide_true, decide_false, Int.reduceToNat, Nat.min_eq_left, Nat.min_eq_right, Int.reducePow, Nat.reducePow, Int.reduceLE, Int.reduceLT, Int.reduceMul, Int.reduceAdd, Int.reduceSub, Int.reduceNeg, Bool.not_true, Bool.not_false, Bool.not_not, ↓reduceIte, Nat.reduceAdd, Nat.reduceSub, Nat.reduceMul, Nat.reduceEqDiff, reduceCtorEq, Nat.reduceLT, Nat.reduceLeDiff, Nat.reduceGT]; exact rfl); (case' LH2 => rintro k E t hx hE ht; simp only [go_sem] at ht; subst ht; simp only [go_sem]; try dsimp only at hx))
  case hi => exact Nat.zero_le _
  case h0 => (focus (refine ⟨_, _, Gh.refl, [], rfl, ?_⟩; (refine fitq ?_ ?_ ?_ <;> try exact trivial); (try any_goals (refine ⟨?_, ?_⟩)); (try any_goals (with_reducible rfl)))); all_goals rfl
  case LH2 =>
    have hk0 : k ≤ n := hx
    by_cases hk : k < n
    · have hkd : decide ((k : Int) < n) = true := decide_eq_true (by omega)
      have hw : IntKind.i64.wrap ((k : Int) + 1) = ((k + 1 : Nat) : Int) := by rw [wrap_i64 _ (by omega) (by omega)]; omega
      have hp : 2 ^ k ≤ 2 ^ 61 := Nat.pow_le_pow_right (by decide) (by omega)
      have h2k : 2 ^ (k + 1) = 2 ^ k * 2 := Nat.pow_succ ..
      obtain ⟨p, hpe⟩ : ∃ p, 2 ^ k = p := ⟨_, rfl⟩
      rw [hpe] at hp h2k ⊢
      have hw2 : IntKind.i64.wrap (2 * (p : Int)) = ((p * 2 : Nat) : Int) := by rw [wrap_i64 _ (by omega) (by omega)]; omega
      (have zx1 := @hkd; have zx2 := @hw; have zx3 := @hw2; all_goals (try ((with_reducible first | refine wp_id ?_ | refine does_id ?_ | refine ops_id ?_); refine walk ?_; (repeat' (first | exact trivial | with_reducible refine And.intro ?_ ?_)); all_goals (repeat with_reducible first | refine ImpB.mk fun hb => ?_ | refine ImpK.mk fun hK => ?_ | refine ImpF.mk fun hF => ?_ | refine ImpQ.mk fun hp => ?_ | refine AllE.mk fun p => ?_ | refine AllR.mk fun rest => ?_ | refine AllK.mk fun K => ?_))); repeat' (with_reducible refine And.intro ?_ ?_))
      refine ⟨k + 1, ⟨by first | omega | (dsimp only; omega), by first | omega | (dsimp only; omega)⟩, ?_⟩
      dsimp only
      rw [h2k]
      (focus (refine ⟨_, _, Gh.refl, [], rfl, ?_⟩; (refine fitq ?_ ?_ ?_ <;> try exact trivial); (try any_goals (refine ⟨?_, ?_⟩)); (try any_goals (with_reducible rfl))))
    · have hkd : decide ((k : Int) < n) = false := decide_eq_false (by omega)
      obtain rfl : k = n := by omega
      (have zx1 := @hkd; all_goals (try ((with_reducible first | refine wp_id ?_ | refine does_id ?_ | refine ops_id ?_); refine walk ?_; (repeat' (first | exact trivial | with_reducible refine And.intro ?_ ?_)); all_goals (repeat with_reducible first | refine ImpB.mk fun hb => ?_ | refine ImpK.mk fun hK => ?_ | refine ImpF.mk fun hF => ?_ | refine ImpQ.mk fun hp => ?_ | refine AllE.mk fun p => ?_ | refine AllR.mk fun rest => ?_ | refine AllK.mk fun K => ?_))); repeat' (with_reducible refine And.intro ?_ ?_))
      (focus (refine ⟨_, _, Gh.refl, [], rfl, ?_⟩; (refine fitq ?_ ?_ ?_ <;> try exact trivial); (try any_goals (refine ⟨?_, ?_⟩)); (try any_goals (with_reducible rfl))))
theorem c_power31 {h : List Ch} {K : KT} (H : K (.int .i64 2147483648) h) : Does Try.prog 46 [.int .i64 31] h K :=
  frame_pure (b_power 31 (by decide)) (br_cons br_int br_nil) (.inl rfl) (fun _ => rfl) H
abbrev i_power31 := Ctr.mk (i := 0) (g := 46) @c_power31
attribute [instance] i_power31
theorem c_power32 {h : List Ch} {K : KT} (H : K (.int .i64 4294967296) h) : Does Try.prog 46 [.int .i64 32] h K :=
  frame_pure (b_power 32 (by decide)) (br_cons br_int br_nil) (.inl rfl) (fun _ => rfl) H
abbrev i_power32 := Ctr.mk (i := 1) (g := 46) @c_power32
attribute [instance] i_power32
theorem c_power8 {h : List Ch} {K : KT} (H : K (.int .i64 256) h) : Does Try.prog 46 [.int .i64 8] h K :=
  frame_pure (b_power 8 (by decide)) (br_cons br_int br_nil) (.inl rfl) (fun _ => rfl) H
abbrev i_power8 := Ctr.mk (i := 2) (g := 46) @c_power8
attribute [instance] i_power8
theorem b_rinS (i : Int) : DoesK Try.prog 0 37 [.agg [.int .i64 i, .int .i64 32, .bool true, .int .i64 0], .int .i64 0] [] (EndF 0 (.bool true) []) := by
  refine DoesK.close ?_
  have w1 : IntKind.i64.wrap 31 = 31 := by decide
  have w2 : IntKind.i64.wrap (-2147483648) = -2147483648 := by decide
  refine w_body (rs := [.tmp 4]) (tm := [.agg [.int .i64 i, .int .i64 32, .bool true, .int .i64 0], .int .i64 0, .any, .any, .any, .any, .any, .any, .any, .any, .any, .any, .any, .any, .any, .any, .any, .any, .any, .any, .any, .any, .any, .any, .any, .any, .any, .any, .any, .any, .any]) fn_37 rfl rfl rfl rfl fun R hR => ?_
  (have zx1 := @w1; have zx2 := @w2; all_goals (try ((with_reducible first | refine wp_id ?_ | refine does_id ?_ | refine ops_id ?_); refine walk ?_; (repeat' (first | exact trivial | with_reducible refine And.intro ?_ ?_)); all_goals (repeat with_reducible first | refine ImpB.mk fun hb => ?_ | refine ImpK.mk fun hK => ?_ | refine ImpF.mk fun hF => ?_ | refine ImpQ.mk fun hp => ?_ | refine AllE.mk fun p => ?_ | refine AllR.mk fun rest => ?_ | refine AllK.mk fun K => ?_))); repeat' (with_reducible refine And.intro ?_ ?_))
  (focus (refine ⟨_, _, Gh.refl, [], rfl, ?_⟩; (refine fitq ?_ ?_ ?_ <;> try exact trivial); (try any_goals (refine ⟨?_, ?_⟩)); (try any_goals (with_reducible rfl))))
theorem c_rinS {h : List Ch} {K : KT} {i : Int} (H : K (.bool true) h) : Does Try.prog 37 [.agg [.int .i64 i, .int .i64 32, .bool true, .int .i64 0], .int .i64 0] h K :=
  frame_pure (b_rinS i) (br_cons (br_agg (br_cons br_int (br_cons br_int (br_cons br_bool (br_cons br_int br_nil))))) (br_cons br_int br_nil)) (.inr rfl) (fun _ => rfl) H
abbrev i_rinS := Ctr.mk (i := 0) (g := 37) @c_rinS
attribute [instance] i_rinS
theorem b_rinU (i : Int) : DoesK Try.prog 0 37 [.agg [.int .i64 i, .int .i64 32, .bool false, .int .i64 0], .int .i64 0] [] (EndF 0 (.bool true) []) := by
  refine DoesK.close ?_
  have w1 : IntKind.i64.wrap 31 = 31 := by decide
  have w2 : IntKind.i64.wrap (-2147483648) = -2147483648 := by decide
  refine w_body (rs := [.tmp 4]) (tm := [.agg [.int .i64 i, .int .i64 32, .bool false, .int .i64 0], .int .i64 0, .any, .any, .any, .any, .any, .any, .any, .any, .any, .any, .any, .any, .any, .any, .any, .any, .any, .any, .any, .any, .any, .any, .any, .any, .any, .any, .any, .any, .any]) fn_37 rfl rfl rfl rfl fun R hR => ?_
  (have zx1 := @w1; have zx2 := @w2; all_goals (try ((with_reducible first | refine wp_id ?_ | refine does_id ?_ | refine ops_id ?_); refine walk ?_; (repeat' (first | exact trivial | with_reducible refine And.intro ?_ ?_)); all_goals (repeat with_reducible first | refine ImpB.mk fun hb => ?_ | refine ImpK.mk fun hK => ?_ | refine ImpF.mk fun hF => ?_ | refine ImpQ.mk fun hp => ?_ | refine AllE.mk fun p => ?_ | refine AllR.mk fun rest => ?_ | refine AllK.mk fun K => ?_))); repeat' (with_reducible refine And.intro ?_ ?_))
  (focus (refine ⟨_, _, Gh.refl, [], rfl, ?_⟩; (refine fitq ?_ ?_ ?_ <;> try exact trivial); (try any_goals (refine ⟨?_, ?_⟩)); (try any_goals (with_reducible rfl))))
theorem c_rinU {h : List Ch} {K : KT} {i : Int} (H : K (.bool true) h) : Does Try.prog 37 [.agg [.int .i64 i, .int .i64 32, .bool false, .int .i64 0], .int .i64 0] h K :=
  frame_pure (b_rinU i) (br_cons (br_agg (br_cons br_int (br_cons br_int (br_cons br_bool (br_cons br_int br_nil))))) (br_cons br_int br_nil)) (.inr rfl) (fun _ => rfl) H
abbrev i_rinU := Ctr.mk (i := 1) (g := 37) @c_rinU
attribute [instance] i_rinU
theorem b_rinB (i : Int) : DoesK Try.prog 0 37 [.agg [.int .i64 i, .int .i64 8, .bool false, .int .i64 0], .int .i64 0] [] (EndF 0 (.bool true) []) := by
  refine DoesK.close ?_
  have w1 : IntKind.i64.wrap 31 = 31 := by decide
  have w2 : IntKind.i64.wrap (-2147483648) = -2147483648 := by decide
  refine w_body (rs := [.tmp 4]) (tm := [.agg [.int .i64 i, .int .i64 8, .bool false, .int .i64 0], .int .i64 0, .any, .any, .any, .any, .any, .any, .any, .any, .any, .any, .any, .any, .any, .any, .any, .any, .any, .any, .any, .any, .any, .any, .any, .any, .any, .any, .any, .any, .any]) fn_37 rfl rfl rfl rfl fun R hR => ?_
  (have zx1 := @w1; have zx2 := @w2; all_goals (try ((with_reducible first | refine wp_id ?_ | refine does_id ?_ | refine ops_id ?_); refine walk ?_; (repeat' (first | exact trivial | with_reducible refine And.intro ?_ ?_)); all_goals (repeat with_reducible first | refine ImpB.mk fun hb => ?_ | refine ImpK.mk fun hK => ?_ | refine ImpF.mk fun hF => ?_ | refine ImpQ.mk fun hp => ?_ | refine AllE.mk fun p => ?_ | refine AllR.mk fun rest => ?_ | refine AllK.mk fun K => ?_))); repeat' (with_reducible refine And.intro ?_ ?_))
  (focus (refine ⟨_, _, Gh.refl, [], rfl, ?_⟩; (refine fitq ?_ ?_ ?_ <;> try exact trivial); (try any_goals (refine ⟨?_, ?_⟩)); (try any_goals (with_reducible rfl))))
theorem c_rinB {h : List Ch} {K : KT} {i : Int} (H : K (.bool true) h) : Does Try.prog 37 [.agg [.int .i64 i, .int .i64 8, .bool false, .int .i64 0], .int .i64 0] h K :=
  frame_pure (b_rinB i) (br_cons (br_agg (br_cons br_int (br_cons br_int (br_cons br_bool (br_cons br_int br_nil))))) (br_cons br_int br_nil)) (.inr rfl) (fun _ => rfl) H
abbrev i_rinB := Ctr.mk (i := 2) (g := 37) @c_rinB
attribute [instance] i_rinB
theorem b_rcheck : DoesK Try.prog 0 40 [.ro .pdf dsP] [] (EndF 0 (.int .i64 0) []) := by
  refine DoesK.close ?_
  have hl : ((dsP.length : Nat) : Int) = 4 := rfl
  refine w_body (rs := [.tmp 2]) (tm := [.ro .pdf dsP, .any, .any, .any, .any, .any, .any, .any, .any, .any, .any, .any, .any, .any, .any, .any, .any, .any, .any, .any, .any, .any, .any, .any, .any, .any, .any, .any, .any, .any, .any, .any, .any, .any, .any, .any, .any, .any, .any, .any, .any, .any, .any, .any, .any, .any, .any, .any, .any, .any, .any, .any, .any, .any, .any, .any, .any, .any]) fn_40 rfl rfl rfl rfl fun R hR => ?_
  (have zx1 := @hl; all_goals (try ((with_reducible first | refine wp_id ?_ | refine does_id ?_ | refine ops_id ?_); refine walk ?_; (repeat' (first | exact trivial | with_reducible refine And.intro ?_ ?_)); all_goals (repeat with_reducible first | refine ImpB.mk fun hb => ?_ | refine ImpK.mk fun hK => ?_ | refine ImpF.mk fun hF => ?_ | refine ImpQ.mk fun hp => ?_ | refine AllE.mk fun p => ?_ | refine AllR.mk fun rest => ?_ | refine AllK.mk fun K => ?_))); repeat' (with_reducible refine And.intro ?_ ?_))
  any_goals ((try (refine w_seq fun K hK => ?_)); (try (refine w_block ?_)); refine w_loop (A := Nat) (fun k => k ≤ 4) (fun k => 4 - k) (fun k => [(3, .int .i64 k)]) (fun _ => []) (0) (ws := ?ws3) (tk := ?tk3) ?hw3 ?ht3 ?hi ?h0 ?LH3; (case hw3 => simp only [go_sem, decide_true, decide_false, Int.reduceToNat, Nat.min_eq_left, Nat.min_eq_right, Int.reducePow, Nat.reducePow, Int.reduceLE, Int.reduceLT, Int.reduceMul, Int.reduceAdd, Int.reduceSub, Int.reduceNeg, Bool.not_true, Bool.not_false, Bool.not_not, ↓reduceIte, Nat.reduceAdd, Nat.reduceSub, Nat.reduceMul, Nat.reduceEqDiff, reduceCtorEq, Nat.reduceLT, Nat.reduceLeDiff, Nat.reduceGT]; exact rfl); (case ht3 => simp only [go_sem, decide_true, decide_false, Int.reduceToNat, Nat.min_eq_left, Nat.min_eq_right, Int.reducePow, Nat.reducePow, Int.reduceLE, Int.reduceLT, Int.reduceMul, Int.reduceAdd, Int.reduceSub, Int.reduceNeg, Bool.not_true, Bool.not_false, Bool.not_not, ↓reduceIte, Nat.reduceAdd, Nat.reduceSub, Nat.reduceMul, Nat.reduceEqDiff, reduceCtorEq, Nat.reduceLT, Nat.reduceLeDiff, Nat.reduceGT]; exact rfl); (case' LH3 => rintro k E t hx hE ht; simp only [go_sem] at ht; subst ht; simp only [go_sem]; try dsimp only at hx))
  case hi => exact Nat.zero_le _
  case h0 => (focus (refine ⟨_, _, Gh.refl, [], rfl, ?_⟩; (refine fitq ?_ ?_ ?_ <;> try exact trivial); (try any_goals (refine ⟨?_, ?_⟩)); (try any_goals (with_reducible rfl))))
  case LH3 =>
    have hk0 : k ≤ 4 := hx
    by_cases hk : k < 4
    · have hkd : decide ((k : Int) < 4) = true := decide_eq_true (by omega)
      have hw : IntKind.i64.wrap ((k : Int) + 1) = ((k + 1 : Nat) : Int) := by rw [wrap_i64 _ (by omega) (by omega)]; omega
      by_cases hz0 : k = 0
      · have hxe : dsP.getD k Pdf.zero = ⟨0, 32, true, 0⟩ := by rw [hz0]; rfl
        have hxs : dsP[k]? = some ⟨0, 32, true, 0⟩ := by rw [hz0]; rfl
        have d3 : decide ((0 : Int) < k) = false := decide_eq_false (by omega)
        (have zx1 := @hl; have zx2 := @hkd; have zx3 := @hw; have zx4 := @hxe; have zx5 := @d3; all_goals (try ((with_reducible first | refine wp_id ?_ | refine does_id ?_ | refine ops_id ?_); refine walk ?_; (repeat' (first | exact trivial | with_reducible refine And.intro ?_ ?_)); all_goals (repeat with_reducible first | refine ImpB.mk fun hb => ?_ | refine ImpK.mk fun hK => ?_ | refine ImpF.mk fun hF => ?_ | refine ImpQ.mk fun hp => ?_ | refine AllE.mk fun p => ?_ | refine AllR.mk fun rest => ?_ | refine AllK.mk fun K => ?_))); repeat' (with_reducible refine And.intro ?_ ?_))
        all_goals first | (show _ ≤ (_ : Nat); omega) | (show _ < (_ : Int); omega) | (show _ ≤ (_ : Int); omega) | skip
        refine ⟨k + 1, ⟨by first | omega | (dsimp only; omega), by first | omega | (dsimp only; omega)⟩, ?_⟩
        (focus (refine ⟨_, _, Gh.refl, [], rfl, ?_⟩; (refine fitq ?_ ?_ ?_ <;> try exact trivial); (try any_goals (refine ⟨?_, ?_⟩)); (try any_goals (with_reducible rfl))))
      by_cases hz1 : k = 1
      · have hxe : dsP.getD k Pdf.zero = ⟨1, 32, true, 0⟩ := by rw [hz1]; rfl
        have hxs : dsP[k]? = some ⟨1, 32, true, 0⟩ := by rw [hz1]; rfl
        have d3 : decide ((0 : Int) < k) = true := decide_eq_true (by omega)
        have hw1 : IntKind.i64.wrap ((k : Int) - 1) = ((k - 1 : Nat) : Int) := by rw [wrap_i64 _ (by omega) (by omega)]; omega
        have hxp : dsP.getD (k - 1) Pdf.zero = ⟨0, 32, true, 0⟩ := by rw [hz1]; rfl
        (have zx1 := @hl; have zx2 := @hkd; have zx3 := @hw; have zx4 := @hxe; have zx5 := @d3; have zx6 := @hw1; have zx7 := @hxp; all_goals (try ((with_reducible first | refine wp_id ?_ | refine does_id ?_ | refine ops_id ?_); refine walk ?_; (repeat' (first | exact trivial | with_reducible refine And.intro ?_ ?_)); all_goals (repeat with_reducible first | refine ImpB.mk fun hb => ?_ | refine ImpK.mk fun hK => ?_ | refine ImpF.mk fun hF => ?_ | refine ImpQ.mk fun hp => ?_ | refine AllE.mk fun p => ?_ | refine AllR.mk fun rest => ?_ | refine AllK.mk fun K => ?_))); repeat' (with_reducible refine And.intro ?_ ?_))
        all_goals first | (show _ ≤ (_ : Nat); omega) | (show _ < (_ : Int); omega) | (show _ ≤ (_ : Int); omega) | skip
        refine ⟨k + 1, ⟨by first | omega | (dsimp only; omega), by first | omega | (dsimp only; omega)⟩, ?_⟩
        (focus (refine ⟨_, _, Gh.refl, [], rfl, ?_⟩; (refine fitq ?_ ?_ ?_ <;> try exact trivial); (try any_goals (refine ⟨?_, ?_⟩)); (try any_goals (with_reducible rfl))))
      by_cases hz2 : k = 2
      · have hxe : dsP.getD k Pdf.zero = ⟨2, 32, false, 0⟩ := by rw [hz2]; rfl
        have hxs : dsP[k]? = some ⟨2, 32, false, 0⟩ := by rw [hz2]; rfl
        have d3 : decide ((0 : Int) < k) = true := decide_eq_true (by omega)
        have hw1 : IntKind.i64.wrap ((k : Int) - 1) = ((k - 1 : Nat) : Int) := by rw [wrap_i64 _ (by omega) (by omega)]; omega
        have hxp : dsP.getD (k - 1) Pdf.zero = ⟨1, 32, true, 0⟩ := by rw [hz2]; rfl
        (have zx1 := @hl; have zx2 := @hkd; have zx3 := @hw; have zx4 := @hxe; have zx5 := @d3; have zx6 := @hw1; have zx7 := @hxp; all_goals (try ((with_reducible first | refine wp_id ?_ | refine does_id ?_ | refine ops_id ?_); refine walk ?_; (repeat' (first | exact trivial | with_reducible refine And.intro ?_ ?_)); all_goals (repeat with_reducible first | refine ImpB.mk fun hb => ?_ | refine ImpK.mk fun hK => ?_ | refine ImpF.mk fun hF => ?_ | refine ImpQ.mk fun hp => ?_ | refine AllE.mk fun p => ?_ | refine AllR.mk fun rest => ?_ | refine AllK.mk fun K => ?_))); repeat' (with_reducible refine And.intro ?_ ?_))
        all_goals first | (show _ ≤ (_ : Nat); omega) | (show _ < (_ : Int); omega) | (show _ ≤ (_ : Int); omega) | skip
        refine ⟨k + 1, ⟨by first | omega | (dsimp only; omega), by first | omega | (dsimp only; omega)⟩, ?_⟩
        (focus (refine ⟨_, _, Gh.refl, [], rfl, ?_⟩; (refine fitq ?_ ?_ ?_ <;> try exact trivial); (try any_goals (refine ⟨?_, ?_⟩)); (try any_goals (with_reducible rfl))))
      by_cases hz3 : k = 3
      · have hxe : dsP.getD k Pdf.zero = ⟨3, 8, false, 0⟩ := by rw [hz3]; rfl
        have hxs : dsP[k]? = some ⟨3, 8, false, 0⟩ := by rw [hz3]; rfl
        have d3 : decide ((0 : Int) < k) = true := decide_eq_true (by omega)
        have hw1 : IntKind.i64.wrap ((k : Int) - 1) = ((k - 1 : Nat) : Int) := by rw [wrap_i64 _ (by omega) (by omega)]; omega
        have hxp : dsP.getD (k - 1) Pdf.zero = ⟨2, 32, false, 0⟩ := by rw [hz3]; rfl
        (have zx1 := @hl; have zx2 := @hkd; have zx3 := @hw; have zx4 := @hxe; have zx5 := @d3; have zx6 := @hw1; have zx7 := @hxp; all_goals (try ((with_reducible first | refine wp_id ?_ | refine does_id ?_ | refine ops_id ?_); refine walk ?_; (repeat' (first | exact trivial | with_reducible refine And.intro ?_ ?_)); all_goals (repeat with_reducible first | refine ImpB.mk fun hb => ?_ | refine ImpK.mk fun hK => ?_ | refine ImpF.mk fun hF => ?_ | refine ImpQ.mk fun hp => ?_ | refine AllE.mk fun p => ?_ | refine AllR.mk fun rest => ?_ | refine AllK.mk fun K => ?_))); repeat' (with_reducible refine And.intro ?_ ?_))
        all_goals first | (show _ ≤ (_ : Nat); omega) | (show _ < (_ : Int); omega) | (show _ ≤ (_ : Int); omega) | skip
        refine ⟨k + 1, ⟨by first | omega | (dsimp only; omega), by first | omega | (dsimp only; omega)⟩, ?_⟩
        (focus (refine ⟨_, _, Gh.refl, [], rfl, ?_⟩; (refine fitq ?_ ?_ ?_ <;> try exact trivial); (try any_goals (refine ⟨?_, ?_⟩)); (try any_goals (with_reducible rfl))))
      omega
    · obtain rfl : k = 4 := by omega
      have hkd : decide (((4 : Nat) : Int) < 4) = false := by decide
      (have zx1 := @hl; have zx2 := @hkd; all_goals (try ((with_reducible first | refine wp_id ?_ | refine does_id ?_ | refine ops_id ?_); refine walk ?_; (repeat' (first | exact trivial | with_reducible refine And.intro ?_ ?_)); all_goals (repeat with_reducible first | refine ImpB.mk fun hb => ?_ | refine ImpK.mk fun hK => ?_ | refine ImpF.mk fun hF => ?_ | refine ImpQ.mk fun hp => ?_ | refine AllE.mk fun p => ?_ | refine AllR.mk fun rest => ?_ | refine AllK.mk fun K => ?_))); repeat' (with_reducible refine And.intro ?_ ?_))
      (focus (refine ⟨_, _, Gh.refl, [], rfl, ?_⟩; (refine fitq ?_ ?_ ?_ <;> try exact trivial); (try any_goals (refine ⟨?_, ?_⟩)); (try any_goals (with_reducible rfl))))
theorem c_rcheck {h : List Ch} {K : KT} (H : K (.int .i64 0) h) : Does Try.prog 40 [.ro .pdf [⟨0, 32, true, 0⟩, ⟨1, 32, true, 0⟩, ⟨2, 32, false, 0⟩, ⟨3, 8, false, 0⟩]] h K :=
  frame_pure b_rcheck (br_cons br_ro br_nil) (.inl rfl) (fun _ => rfl) H
abbrev i_rcheck := Ctr.mk (i := 0) (g := 40) @c_rcheck
attribute [instance] i_rcheck
theorem b_rnew : DoesK Try.prog 0 26 [.ro .pdf [⟨0, 32, true, 0⟩, ⟨1, 32, true, 0⟩, ⟨2, 32, false, 0⟩, ⟨3, 8, false, 0⟩]] [] (EndF 0 (.tup [.agg [.ro .pdf dsP], .int .i64 0]) []) := by
  refine DoesK.close ?_
  have hz : decide (¬ (0 : Int) = 0) = false := by decide
  refine w_body (rs := [.cell 2 35, .tmp 3]) (tm := [.ro .pdf [⟨0, 32, true, 0⟩, ⟨1, 32, true, 0⟩, ⟨2, 32, false, 0⟩, ⟨3, 8, false, 0⟩], .any, .any, .any, .any, .any, .any, .any, .any, .any, .any, .any, .any, .any, .any]) fn_26 rfl rfl rfl rfl fun R hR => ?_
  (have zx1 := @hz; all_goals (try ((with_reducible first | refine wp_id ?_ | refine does_id ?_ | refine ops_id ?_); refine walk ?_; (repeat' (first | exact trivial | with_reducible refine And.intro ?_ ?_)); all_goals (repeat with_reducible first | refine ImpB.mk fun hb => ?_ | refine ImpK.mk fun hK => ?_ | refine ImpF.mk fun hF => ?_ | refine ImpQ.mk fun hp => ?_ | refine AllE.mk fun p => ?_ | refine AllR.mk fun rest => ?_ | refine AllK.mk fun K => ?_))); repeat' (with_reducible refine And.intro ?_ ?_))
  refine ⟨_, _, gh_frz (t := 2) (e := .pdf) (xs := dsP) rfl ?f1 ?f2, [], rfl, ?ft⟩
  case' ft => (refine fitq ?_ ?_ ?_ <;> try exact trivial)
  case' f1 => simp only [go_sem, decide_true, decide_false, Int.reduceToNat, Nat.min_eq_left, Nat.min_eq_right, Int.reducePow, Nat.reducePow, Int.reduceLE, Int.reduceLT, Int.reduceMul, Int.reduceAdd, Int.reduceSub, Int.reduceNeg, Bool.not_true, Bool.not_false, Bool.not_not, ↓reduceIte, Nat.reduceAdd, Nat.reduceSub, Nat.reduceMul, Nat.reduceEqDiff, reduceCtorEq, Nat.reduceLT, Nat.reduceLeDiff, Nat.reduceGT]
  case' f2 => simp only [go_sem, decide_true, decide_false, Int.reduceToNat, Nat.min_eq_left, Nat.min_eq_right, Int.reducePow, Nat.reducePow, Int.reduceLE, Int.reduceLT, Int.reduceMul, Int.reduceAdd, Int.reduceSub, Int.reduceNeg, Bool.not_true, Bool.not_false, Bool.not_not, ↓reduceIte, Nat.reduceAdd, Nat.reduceSub, Nat.reduceMul, Nat.reduceEqDiff, reduceCtorEq, Nat.reduceLT, Nat.reduceLeDiff, Nat.reduceGT]
  all_goals first | exact Nat.le_refl _ | exact ⟨Nat.le_refl _, False.elim⟩ | exact False.elim | (repeat' (first | (refine And.intro ?_ ?_) | rfl | exact False.elim | exact Nat.le_refl _))
theorem c_rnew {h : List Ch} {K : KT} (H : K (.tup [.agg [.ro .pdf dsP], .int .i64 0]) h) : Does Try.prog 26 [.ro .pdf [⟨0, 32, true, 0⟩, ⟨1, 32, true, 0⟩, ⟨2, 32, false, 0⟩, ⟨3, 8, false, 0⟩]] h K :=
  frame_pure b_rnew (br_cons br_ro br_nil) (.inl rfl) (fun _ => rfl) H
abbrev i_rnew := Ctr.mk (i := 0) (g := 26) @c_rnew
attribute [instance] i_rnew
theorem b_pool : DoesK Try.prog 0 10 [] [] (EndF 0 (.tup [.ptr 0 0, .agg [.ro .pdf dsP]]) [.pack (PO 0 0)]) := by
  refine DoesK.close ?_
  have hro : RoLit := .mk
  refine w_body (rs := [.tmp 0, .cell 1 35]) (tm := [.any, .any, .any, .any, .any, .any, .any, .any, .any, .any, .any, .any, .any, .any, .any, .any, .any, .any, .any, .any, .any, .any, .any, .any]) fn_10 rfl rfl rfl rfl fun R hR => ?_
  (all_goals (try ((with_reducible first | refine wp_id ?_ | refine does_id ?_ | refine ops_id ?_); refine walk ?_; (repeat' (first | exact trivial | with_reducible refine And.intro ?_ ?_)); all_goals (repeat with_reducible first | refine ImpB.mk fun hb => ?_ | refine ImpK.mk fun hK => ?_ | refine ImpF.mk fun hF => ?_ | refine ImpQ.mk fun hp => ?_ | refine AllE.mk fun p => ?_ | refine AllR.mk fun rest => ?_ | refine AllK.mk fun K => ?_))); repeat' (with_reducible refine And.intro ?_ ?_))
  (focus (refine ⟨_, _, Gh.refl, [1], rfl, ?_⟩; (refine fitq ?_ ?_ ?_ <;> try exact trivial); (try any_goals (refine ⟨?_, ?_⟩)); (try any_goals (with_reducible rfl))))
  all_goals (repeat' (first | (refine And.intro ?_ ?_) | rfl))
theorem c_pool {h : List Ch} {K : KT} (H : K (.tup [.ptr h.length 0, .agg [.ro .pdf dsP]]) (h ++ [.pack (PO 0 0)])) : Does Try.prog 10 [] h K :=
  frame_new b_pool br_nil (.inl rfl) (fun _ => rfl) (by simp [renA, renL, rhoC]) H
abbrev i_pool := Ctr.mk (i := 0) (g := 10) @c_pool
attribute [instance] i_pool
end Go.V

set_option maxRecDepth 100000
set_option maxHeartbeats 8000000
namespace Go.V
open Go.Proofs
/-- a service with one limit on parameter 1, as it lies -/
def SL (now : Int) (m : Mon) (off : Bool) (st res run : Int) : List Ch := [.cells [.bool true, .int .i64 now, .csl 1 1 1], .crow [.ptr 2 0], .cells [.int .i64 m.id, .int .i64 m.param, .int .i64 m.kind, .int .i64 m.low, .int .i64 m.high, .int .i64 m.rep, .int .i64 m.ev, .int .i64 m.sev, .ifc 103 (.agg [.int .i64 m.low, .int .i64 m.high]), .bool off, .int .i64 st, .int .i64 res, .int .i64 run]]
attribute [go_sem] SL
/-- a monitor that New takes -/
structure isMon (m : Mon) : Prop where
  id : inN m.id = true
  param : inN m.param = true
  ev : inN m.ev = true
  rep : 1 ≤ m.rep ∧ m.rep ≤ 256
  sev : 1 ≤ m.sev ∧ m.sev ≤ 4
def svF (m : Mon) (k : Nat) : Ch := if k = 0 then .cells [.bool true, .int .i64 0, .lit (.slice none 0 0)] else .pack (SL 0 m false 0 0 0)
theorem b_mnew (m : Mon) (hm : isLim m) (hv : isMon m) : DoesK Try.prog 0 9 [.ro .mon [m]] [] (EndF 0 (.tup [.ptr 0 0, .int .i64 0]) [.pack (SL 0 m false 0 0 0)]) := by
  refine DoesK.close ?_
  obtain ⟨n1, n2, n3, ⟨r1, r2⟩, s1, s2⟩ := hv
  have a1 : decide (m.rep < 1) = false := decide_eq_false (by omega)
  have a2 : decide (256 < m.rep) = false := decide_eq_false (by omega)
  have a3 : decide (m.sev < 1) = false := decide_eq_false (by omega)
  have a4 : decide (4 < m.sev) = false := decide_eq_false (by omega)
  have h0 : svF m 0 = .cells [.bool true, .int .i64 0, .lit (.slice none 0 0)] := if_pos rfl
  have h1 : svF m 1 = .pack (SL 0 m false 0 0 0) := if_neg (by decide)
  refine w_body (rs := [.tmp 2, .tmp 3]) (tm := [.ro .mon [m], .any, .any, .any, .any, .any, .any, .any, .any, .any, .any, .any, .any, .any, .any, .any, .any, .any, .any, .any, .any, .any, .any, .any, .any, .any, .any, .any, .any, .any, .any, .any, .any, .any, .any, .any, .any, .any, .any, .any, .any, .any, .any, .any, .any, .any, .any, .any, .any, .any, .any, .any, .any, .any, .any, .any, .any, .any, .any, .any, .any, .any, .any, .any, .any, .any, .any, .any, .any, .any, .any, .any, .any, .any, .any, .any, .any, .any, .any, .any, .any, .any, .any, .any, .any, .any, .any, .any, .any, .any]) fn_9 rfl rfl rfl rfl fun R hR => ?_
  (all_goals (try ((with_reducible first | refine wp_id ?_ | refine does_id ?_ | refine ops_id ?_); refine walk ?_; (repeat' (first | exact trivial | with_reducible refine And.intro ?_ ?_)); all_goals (repeat with_reducible first | refine ImpB.mk fun hb => ?_ | refine ImpK.mk fun hK => ?_ | refine ImpF.mk fun hF => ?_ | refine ImpQ.mk fun hp => ?_ | refine AllE.mk fun p => ?_ | refine AllR.mk fun rest => ?_ | refine AllK.mk fun K => ?_))); repeat' (with_reducible refine And.intro ?_ ?_))
  any_goals ((try (refine w_seq fun K hK => ?_)); (try (refine w_block ?_)); refine w_loop (A := Nat) (fun k => k ≤ 1) (fun k => 1 - k) (fun k => [(15, .int .i64 k), (4, .ptr 0 0)]) (fun k => [(0, svF m k)]) (0) (ws := ?ws1) (tk := ?tk1) ?hw1 ?ht1 ?hi ?h0 ?LH1; (case hw1 => simp only [go_sem, decide_true, decide_false, Int.reduceToNat, Nat.min_eq_left, Nat.min_eq_right, Int.reducePow, Nat.reducePow, Int.reduceLE, Int.reduceLT, Int.reduceMul, Int.reduceAdd, Int.reduceSub, Int.reduceNeg, Bool.not_true, Bool.not_false, Bool.not_not, ↓reduceIte, Nat.reduceAdd, Nat.reduceSub, Nat.reduceMul, Nat.reduceEqDiff, reduceCtorEq, Nat.reduceLT, Nat.reduceLeDiff, Nat.reduceGT]; exact rfl); (case ht1 => simp only [go_sem, decide_true, decide_false, Int.reduceToNat, Nat.min_eq_left, Nat.min_eq_right, Int.reducePow, Nat.reducePow, Int.reduceLE, Int.reduceLT, Int.reduceMul, Int.reduceAdd, Int.reduceSub, Int.reduceNeg, Bool.not_true, Bool.not_false, Bool.not_not, ↓reduceIte, Nat.reduceAdd, Nat.reduceSub, Nat.reduceMul, Nat.reduceEqDiff, reduceCtorEq, Nat.reduceLT, Nat.reduceLeDiff, Nat.reduceGT]; exact rfl); (case' LH1 => rintro k E t hx hE ht; simp only [go_sem] at ht; subst ht; simp only [go_sem]; try dsimp only at hx))
  case hi => exact Nat.zero_le _
  case h0 =>
    rw [h0]
    (focus (refine ⟨_, _, Gh.refl, [0], rfl, ?_⟩; (refine fitq ?_ ?_ ?_ <;> try exact trivial); (try any_goals (refine ⟨?_, ?_⟩)); (try any_goals (with_reducible rfl))))
    all_goals (repeat' (first | (refine And.intro ?_ ?_) | rfl))
  case LH1 =>
    have hk0 : k ≤ 1 := hx
    by_cases hk : k = 0
    · subst hk
      rw [h0]
      have hkd : decide (((0 : Nat) : Int) < 1) = true := by decide
      have hw : IntKind.i64.wrap 1 = ((1 : Nat) : Int) := by decide
      have hl : decide ((0 : Int) < ((0 : Nat) : Int)) = false := by decide
      have hat : [m].getD 0 Mon.zero = m := rfl
      have hnm := And.intro n1 (And.intro n2 n3)
      have hrs := And.intro a1 (And.intro a2 (And.intro a3 a4))
      (have zx1 := @hkd; have zx2 := @hw; have zx3 := @hl; have zx4 := @hat; have zx5 := @hnm; have zx6 := @hrs; all_goals (try ((with_reducible first | refine wp_id ?_ | refine does_id ?_ | refine ops_id ?_); refine walk ?_; (repeat' (first | exact trivial | with_reducible refine And.intro ?_ ?_)); all_goals (repeat with_reducible first | refine ImpB.mk fun hb => ?_ | refine ImpK.mk fun hK => ?_ | refine ImpF.mk fun hF => ?_ | refine ImpQ.mk fun hp => ?_ | refine AllE.mk fun p => ?_ | refine AllR.mk fun rest => ?_ | refine AllK.mk fun K => ?_))); repeat' (with_reducible refine And.intro ?_ ?_))
      refine ⟨1, ⟨by first | omega | (dsimp only; omega), by first | omega | (dsimp only; omega)⟩, ?_⟩
      dsimp only
      rw [h1]
      (focus (refine ⟨_, _, gh_close (t := 0) (ts := [4, 2]) (l := SL 0 m false 0 0 0) ⟨⟨_, _, rfl⟩, ?_, by simp⟩, [0], rfl, ?_⟩; all_goals (refine fitq ?_ ?_ ?_ <;> try exact trivial); (try any_goals (refine ⟨?_, ?_⟩)); (try any_goals (with_reducible rfl))))
      all_goals (repeat' (first | (refine And.intro ?_ ?_) | rfl))
    · obtain rfl : k = 1 := by omega
      rw [h1]
      have hkd : decide (((1 : Nat) : Int) < 1) = false := by decide
      (have zx1 := @hkd; all_goals (try ((with_reducible first | refine wp_id ?_ | refine does_id ?_ | refine ops_id ?_); refine walk ?_; (repeat' (first | exact trivial | with_reducible refine And.intro ?_ ?_)); all_goals (repeat with_reducible first | refine ImpB.mk fun hb => ?_ | refine ImpK.mk fun hK => ?_ | refine ImpF.mk fun hF => ?_ | refine ImpQ.mk fun hp => ?_ | refine AllE.mk fun p => ?_ | refine AllR.mk fun rest => ?_ | refine AllK.mk fun K => ?_))); repeat' (with_reducible refine And.intro ?_ ?_))
      (focus (refine ⟨_, _, Gh.refl, [0], rfl, ?_⟩; (refine fitq ?_ ?_ ?_ <;> try exact trivial); (try any_goals (refine ⟨?_, ?_⟩)); (try any_goals (with_reducible rfl))))
      all_goals (repeat' (first | (refine And.intro ?_ ?_) | rfl))
theorem c_mnew {h : List Ch} {K : KT} {a : AV} {m : Mon} (H : K (.tup [.ptr h.length 0, .int .i64 0]) (h ++ [.pack (SL 0 m false 0 0 0)])) (q1 : isRO .mon [m] a) (e1 : isLim m) (e2 : isMon m) : Does Try.prog 9 [a] h K :=
  frame_new (b_mnew m e1 e2) (br_cons q1.br br_nil) (.inl (by rw [brTL, q1.brT]; rfl)) (fun _ => rfl) (by simp [renA, renL, rhoC]) H
abbrev i_mnew := Ctr.mk (i := 0) (g := 9) @c_mnew
attribute [instance] i_mnew
end Go.V

set_option maxRecDepth 100000
set_option maxHeartbeats 8000000
namespace Go.V
open Go.Proofs
abbrev enL (id pa kd lo hi rep ev sev : Int) (st res run : Int) : List AV := [.int .i64 id, .int .i64 pa, .int .i64 kd, .int .i64 lo, .int .i64 hi, .int .i64 rep, .int .i64 ev, .int .i64 sev, .ifc 103 (.agg [.int .i64 lo, .int .i64 hi]), .bool false, .int .i64 st, .int .i64 res, .int .i64 run]
theorem after_open1 {h : List Ch} {t : Nat} {v : AV} {vs : List AV} {K : KT} (ht : t < h.length) (hr : ∀ ρ, renL ρ vs = vs) (H : K v (h.set t (.cells vs))) : ∃ v' h2, Gh [v] (h.set t (.pack [.cells vs])) [v'] h2 ∧ K v' h2 := by
  refine ⟨v, _, gh_open (t := t) (vs := vs) (rest := []) (hth_set_eq ht), ?_⟩
  have e : openH (h.set t (.pack [.cells vs])) t vs [] = h.set t (.cells vs) := by
    unfold openH
    rw [List.set_set, hr]
    exact List.append_nil _
  rw [e]
  exact H
/-- fed, and open behind it -/
theorem c_feedO {h : List Ch} {K : KT} {u : Nat} {id pa kd lo hi rep ev sev st res run v : Int} {b : Bool} {st' res' run' : Int} (H : K (.bool b) (h.set u (.cells (enL id pa kd lo hi rep ev sev st' res' run')))) (o : hth h u = .pack [.cells (enL id pa kd lo hi rep ev sev st res run)]) (e : fdR rep st res run (rsL lo hi v) = (b, st', res', run')) (s1 : 0 ≤ run ∧ run ≤ 1000000) : Does Try.prog 30 [.ptr u 0, .int .i64 v] h K := by
  have hb := b_feedL ⟨id, pa, kd, lo, hi, rep, ev, sev⟩ false st res run v s1.1 s1.2
  rw [e] at hb
  refine Does.after (frame_obj0 hb o (by simp) (fitC_pack _) (br_cons (br_ptr rfl) (br_cons br_int br_nil)) (.inl rfl) (fun _ => rfl) rfl ?_)
  exact after_open1 (hth_lt (by rw [o]; simp)) (fun _ => rfl) H
abbrev i_feedO := Ctr.mk (i := 0) (g := 30) @c_feedO
attribute [instance] i_feedO
def nowQ (now n : Int) : Int := if n ≤ 1099511627776 then max now n else now
def ouF (k : Nat) (O : List Tra) : List Tra := if k = 0 then [] else O
def enF (k : Nat) (l l' : List AV) : Ch := if k = 0 then .cells l else .cells l'
theorem frame_two0 {P : Program} {g : FuncId} {h : List Ch} {t u : Nat} {la az : List AV} {ret ret' : AV} {c c' d d' : Ch} {K : KT} (hb : DoesK P 2 g la [c, d] (EndF 2 ret ([c', d'] ++ []))) (ht : hth h t = c) (hu : hth h u = d) (hne : t ≠ u) (hg : c ≠ .gone) (hg2 : d ≠ .gone) (hcc : ∀ σ, fitC σ c c) (hdd : ∀ σ, fitC σ d d) (hbr : brL [t, u] h la az) (hrf : brTL la az = [])
    (hc : ∀ ρ, renC ρ c' = c') (hd : ∀ ρ, renC ρ d' = d') (hret : renA (rhoC [t, u] h.length) ret = ret') (HK : K ret' ((h.set t c').set u d')) : Does P g az h K :=
  Does.frame (σ := [t, u]) (la := la) (lh := [c, d]) (ret := ret) (obj := [c', d']) (cs := []) hb rfl hbr ⟨hth_lt (by rw [ht]; exact hg), by rw [ht]; exact hcc _, hth_lt (by rw [hu]; exact hg2), by rw [hu]; exact hdd _, trivial⟩ (by simp [hne]) (.inl hrf) (by
    show K (renA _ ret) (((((h.set t .gone).set u .gone).set t (renC _ c')).set u (renC _ d')) ++ [])
    rw [hret, hc, hd, List.append_nil, List.set_comm (i := u) (j := t) _ _ (Ne.symm hne), List.set_set, List.set_set]
    exact HK)
theorem b_mcheck (now n : Int) (id kd lo hi rep ev sev st res run a b : Int) (t : Bool) (st' res' run' : Int) (hr0 : 0 ≤ run ∧ run ≤ 1000000) (e : fdR rep st res run (rsL lo hi b) = (t, st', res', run')) :
    DoesK Try.prog 2 12 [.ptr 0 0, .int .i64 n, .ptr 1 0] [.pack (SL now ⟨id, 1, kd, lo, hi, rep, ev, sev⟩ false st res run), .pack (PO a b)]
      (EndF 2 (.ro .tra (if t then [⟨nowQ now n, id, st, st', b⟩] else [])) ([.pack (SL (nowQ now n) ⟨id, 1, kd, lo, hi, rep, ev, sev⟩ false st' res' run'), .pack (PO a b)] ++ [])) := by
  refine DoesK.close ?_
  obtain ⟨nw, hnw⟩ : ∃ z, nowQ now n = z := ⟨_, rfl⟩
  rw [hnw]
  unfold nowQ at hnw
  obtain ⟨O, hO⟩ : ∃ O : List Tra, (if t then [⟨nw, id, st, st', b⟩] else []) = O := ⟨_, rfl⟩
  rw [hO]
  have hOl : O.length ≤ 1 := by rw [← hO]; cases t <;> simp
  have hz : decide (¬ (0 : Int) = 0) = false := by decide
  have g0 : ∀ l l', enF 0 l l' = .cells l := fun _ _ => if_pos rfl
  have g1 : ∀ l l', enF 1 l l' = .cells l' := fun _ _ => if_neg (by decide)
  have u0 : ouF 0 O = [] := if_pos rfl
  have u1 : ouF 1 O = O := if_neg (by decide)
  by_cases c1 : n ≤ 1099511627776
  · have d1 : decide (n ≤ 1099511627776) = true := decide_eq_true c1
    rw [if_pos c1] at hnw
    refine w_body (rs := [.tmp 6]) (tm := [.ptr 0 0, .int .i64 n, .ptr 1 0, .any, .any, .any, .any, .any, .any, .any, .any, .any, .any, .any, .any, .any, .any, .any, .any, .any, .any, .any, .any, .any, .any, .any, .any, .any, .any, .any, .any, .any, .any, .any, .any, .any, .any, .any, .any, .any, .any, .any, .any, .any, .any, .any, .any, .any, .any, .any, .any, .any, .any, .any, .any, .any, .any, .any, .any, .any, .any, .any, .any, .any, .any, .any, .any, .any, .any, .any, .any, .any, .any, .any, .any, .any, .any, .any, .any, .any, .any, .any, .any, .any, .any, .any, .any, .any]) fn_12 rfl rfl rfl rfl fun R hR => ?_
    (have zx1 := @d1; have zx2 := @hnw; all_goals (try ((with_reducible first | refine wp_id ?_ | refine does_id ?_ | refine ops_id ?_); refine walk ?_; (repeat' (first | exact trivial | with_reducible refine And.intro ?_ ?_)); all_goals (repeat with_reducible first | refine ImpB.mk fun hb => ?_ | refine ImpK.mk fun hK => ?_ | refine ImpF.mk fun hF => ?_ | refine ImpQ.mk fun hp => ?_ | refine AllE.mk fun p => ?_ | refine AllR.mk fun rest => ?_ | refine AllK.mk fun K => ?_))); repeat' (with_reducible refine And.intro ?_ ?_))
    refine Wp.ghost (gh_adopt (s := 7) .tra trivial) ?_
    simp only [go_sem, decide_true, decide_false, Int.reduceToNat, Nat.min_eq_left, Nat.min_eq_right, Int.reducePow, Nat.reducePow, Int.reduceLE, Int.reduceLT, Int.reduceMul, Int.reduceAdd, Int.reduceSub, Int.reduceNeg, Bool.not_true, Bool.not_false, Bool.not_not, ↓reduceIte, Nat.reduceAdd, Nat.reduceSub, Nat.reduceMul, Nat.reduceEqDiff, reduceCtorEq, Nat.reduceLT, Nat.reduceLeDiff, Nat.reduceGT]
    any_goals ((try (refine w_seq fun K hK => ?_)); (try (refine w_block ?_)); refine w_loop (A := Nat) (fun k => k ≤ 1) (fun k => 1 - k) (fun k => [(38, .int .i64 k), (7, .sl 4 .tra 0 (ouF k O).length)]) (fun k => [(3, enF k (enL id 1 kd lo hi rep ev sev st res run) (enL id 1 kd lo hi rep ev sev st' res' run')), (4, .rows .tra (ouF k O))]) (0) (ws := ?ws1) (tk := ?tk1) ?hw1 ?ht1 ?hi ?h0 ?LH1; (case hw1 => simp only [go_sem, decide_true, decide_false, Int.reduceToNat, Nat.min_eq_left, Nat.min_eq_right, Int.reducePow, Nat.reducePow, Int.reduceLE, Int.reduceLT, Int.reduceMul, Int.reduceAdd, Int.reduceSub, Int.reduceNeg, Bool.not_true, Bool.not_false, Bool.not_not, ↓reduceIte, Nat.reduceAdd, Nat.reduceSub, Nat.reduceMul, Nat.reduceEqDiff, reduceCtorEq, Nat.reduceLT, Nat.reduceLeDiff, Nat.reduceGT]; exact rfl); (case ht1 => simp only [go_sem, decide_true, decide_false, Int.reduceToNat, Nat.min_eq_left, Nat.min_eq_right, Int.reducePow, Nat.reducePow, Int.reduceLE, Int.reduceLT, Int.reduceMul, Int.reduceAdd, Int.reduceSub, Int.reduceNeg, Bool.not_true, Bool.not_false, Bool.not_not, ↓reduceIte, Nat.reduceAdd, Nat.reduceSub, Nat.reduceMul, Nat.reduceEqDiff, reduceCtorEq, Nat.reduceLT, Nat.reduceLeDiff, Nat.reduceGT]; exact rfl); (case' LH1 => rintro k E t hx hE ht; simp only [go_sem] at ht; subst ht; simp only [go_sem]; try dsimp only at hx))
    case hi => exact Nat.zero_le _
    case h0 =>
      rw [g0, u0]
      (focus (refine ⟨_, _, Gh.refl, [0, 1, 2, 3, 4], rfl, ?_⟩; (refine fitq ?_ ?_ ?_ <;> try exact trivial); (try any_goals (refine ⟨?_, ?_⟩)); (try any_goals (with_reducible rfl))))
      all_goals (repeat' (first | (refine And.intro ?_ ?_) | rfl))
    case LH1 =>
      have hk0 : k ≤ 1 := hx
      by_cases hk : k = 0
      · subst hk
        rw [g0, u0]
        have hkd : decide (((0 : Nat) : Int) < 1) = true := by decide
        have hw : IntKind.i64.wrap 1 = ((1 : Nat) : Int) := by decide
        cases t
        · have hO' : [] = O := hO
          (have zx1 := @hkd; have zx2 := @hw; have zx3 := @hz; all_goals (try ((with_reducible first | refine wp_id ?_ | refine does_id ?_ | refine ops_id ?_); refine walk ?_; (repeat' (first | exact trivial | with_reducible refine And.intro ?_ ?_)); all_goals (repeat with_reducible first | refine ImpB.mk fun hb => ?_ | refine ImpK.mk fun hK => ?_ | refine ImpF.mk fun hF => ?_ | refine ImpQ.mk fun hp => ?_ | refine AllE.mk fun p => ?_ | refine AllR.mk fun rest => ?_ | refine AllK.mk fun K => ?_))); repeat' (with_reducible refine And.intro ?_ ?_))
          refine ⟨1, ⟨by first | omega | (dsimp only; omega), by first | omega | (dsimp only; omega)⟩, ?_⟩
          dsimp only
          rw [g1, u1, ← hO']
          (focus (refine ⟨_, _, Gh.refl, [0, 1, 2, 3, 4], rfl, ?_⟩; (refine fitq ?_ ?_ ?_ <;> try exact trivial); (try any_goals (refine ⟨?_, ?_⟩)); (try any_goals (with_reducible rfl))))
          all_goals (repeat' (first | (refine And.intro ?_ ?_) | rfl))
        · have hO' : [⟨nw, id, st, st', b⟩] = O := hO
          (have zx1 := @hkd; have zx2 := @hw; have zx3 := @hz; all_goals (try ((with_reducible first | refine wp_id ?_ | refine does_id ?_ | refine ops_id ?_); refine walk ?_; (repeat' (first | exact trivial | with_reducible refine And.intro ?_ ?_)); all_goals (repeat with_reducible first | refine ImpB.mk fun hb => ?_ | refine ImpK.mk fun hK => ?_ | refine ImpF.mk fun hF => ?_ | refine ImpQ.mk fun hp => ?_ | refine AllE.mk fun p => ?_ | refine AllR.mk fun rest => ?_ | refine AllK.mk fun K => ?_))); repeat' (with_reducible refine And.intro ?_ ?_))
          refine ⟨1, ⟨by first | omega | (dsimp only; omega), by first | omega | (dsimp only; omega)⟩, ?_⟩
          dsimp only
          rw [g1, u1, ← hO']
          (focus (refine ⟨_, _, Gh.refl, [0, 1, 2, 3, 6], rfl, ?_⟩; (refine fitq ?_ ?_ ?_ <;> try exact trivial); (try any_goals (refine ⟨?_, ?_⟩)); (try any_goals (with_reducible rfl))))
          all_goals (repeat' (first | (refine And.intro ?_ ?_) | rfl))
      · obtain rfl : k = 1 := by omega
        rw [g1, u1]
        have hkd : decide (((1 : Nat) : Int) < 1) = false := by decide
        (have zx1 := @hkd; all_goals (try ((with_reducible first | refine wp_id ?_ | refine does_id ?_ | refine ops_id ?_); refine walk ?_; (repeat' (first | exact trivial | with_reducible refine And.intro ?_ ?_)); all_goals (repeat with_reducible first | refine ImpB.mk fun hb => ?_ | refine ImpK.mk fun hK => ?_ | refine ImpF.mk fun hF => ?_ | refine ImpQ.mk fun hp => ?_ | refine AllE.mk fun p => ?_ | refine AllR.mk fun rest => ?_ | refine AllK.mk fun K => ?_))); repeat' (with_reducible refine And.intro ?_ ?_))
        refine ⟨_, _, (gh_frz (t := 4) (e := .tra) (xs := O) rfl ?f1a ?f2a).trans (gh_close (t := 0) (ts := [2, 3]) (l := SL nw ⟨id, 1, kd, lo, hi, rep, ev, sev⟩ false st' res' run') ⟨⟨_, _, rfl⟩, ?fca, by simp⟩), [0, 1], rfl, ?fta⟩
        case' fta => (refine fitq ?_ ?_ ?_ <;> try exact trivial)
        case' fca => simp only [go_sem, decide_true, decide_false, Int.reduceToNat, Nat.min_eq_left, Nat.min_eq_right, Int.reducePow, Nat.reducePow, Int.reduceLE, Int.reduceLT, Int.reduceMul, Int.reduceAdd, Int.reduceSub, Int.reduceNeg, Bool.not_true, Bool.not_false, Bool.not_not, ↓reduceIte, Nat.reduceAdd, Nat.reduceSub, Nat.reduceMul, Nat.reduceEqDiff, reduceCtorEq, Nat.reduceLT, Nat.reduceLeDiff, Nat.reduceGT]
        case' f1a => simp only [go_sem, decide_true, decide_false, Int.reduceToNat, Nat.min_eq_left, Nat.min_eq_right, Int.reducePow, Nat.reducePow, Int.reduceLE, Int.reduceLT, Int.reduceMul, Int.reduceAdd, Int.reduceSub, Int.reduceNeg, Bool.not_true, Bool.not_false, Bool.not_not, ↓reduceIte, Nat.reduceAdd, Nat.reduceSub, Nat.reduceMul, Nat.reduceEqDiff, reduceCtorEq, Nat.reduceLT, Nat.reduceLeDiff, Nat.reduceGT]
        case' f2a => simp only [go_sem, decide_true, decide_false, Int.reduceToNat, Nat.min_eq_left, Nat.min_eq_right, Int.reducePow, Nat.reducePow, Int.reduceLE, Int.reduceLT, Int.reduceMul, Int.reduceAdd, Int.reduceSub, Int.reduceNeg, Bool.not_true, Bool.not_false, Bool.not_not, ↓reduceIte, Nat.reduceAdd, Nat.reduceSub, Nat.reduceMul, Nat.reduceEqDiff, reduceCtorEq, Nat.reduceLT, Nat.reduceLeDiff, Nat.reduceGT]
        all_goals first | exact Nat.le_refl _ | exact ⟨Nat.le_refl _, False.elim⟩ | exact False.elim | (repeat' (first | (refine And.intro ?_ ?_) | rfl | exact False.elim | exact Nat.le_refl _))
  · have d1 : decide (n ≤ 1099511627776) = false := decide_eq_false c1
    rw [if_neg c1] at hnw
    have hnw2 := hnw.symm
    subst hnw2
    refine w_body (rs := [.tmp 6]) (tm := [.ptr 0 0, .int .i64 n, .ptr 1 0, .any, .any, .any, .any, .any, .any, .any, .any, .any, .any, .any, .any, .any, .any, .any, .any, .any, .any, .any, .any, .any, .any, .any, .any, .any, .any, .any, .any, .any, .any, .any, .any, .any, .any, .any, .any, .any, .any, .any, .any, .any, .any, .any, .any, .any, .any, .any, .any, .any, .any, .any, .any, .any, .any, .any, .any, .any, .any, .any, .any, .any, .any, .any, .any, .any, .any, .any, .any, .any, .any, .any, .any, .any, .any, .any, .any, .any, .any, .any, .any, .any, .any, .any, .any, .any]) fn_12 rfl rfl rfl rfl fun R hR => ?_
    (have zx1 := @d1; all_goals (try ((with_reducible first | refine wp_id ?_ | refine does_id ?_ | refine ops_id ?_); refine walk ?_; (repeat' (first | exact trivial | with_reducible refine And.intro ?_ ?_)); all_goals (repeat with_reducible first | refine ImpB.mk fun hb => ?_ | refine ImpK.mk fun hK => ?_ | refine ImpF.mk fun hF => ?_ | refine ImpQ.mk fun hp => ?_ | refine AllE.mk fun p => ?_ | refine AllR.mk fun rest => ?_ | refine AllK.mk fun K => ?_))); repeat' (with_reducible refine And.intro ?_ ?_))
    refine Wp.ghost (gh_adopt (s := 7) .tra trivial) ?_
    simp only [go_sem, decide_true, decide_false, Int.reduceToNat, Nat.min_eq_left, Nat.min_eq_right, Int.reducePow, Nat.reducePow, Int.reduceLE, Int.reduceLT, Int.reduceMul, Int.reduceAdd, Int.reduceSub, Int.reduceNeg, Bool.not_true, Bool.not_false, Bool.not_not, ↓reduceIte, Nat.reduceAdd, Nat.reduceSub, Nat.reduceMul, Nat.reduceEqDiff, reduceCtorEq, Nat.reduceLT, Nat.reduceLeDiff, Nat.reduceGT]
    any_goals ((try (refine w_seq fun K hK => ?_)); (try (refine w_block ?_)); refine w_loop (A := Nat) (fun k => k ≤ 1) (fun k => 1 - k) (fun k => [(38, .int .i64 k), (7, .sl 4 .tra 0 (ouF k O).length)]) (fun k => [(3, enF k (enL id 1 kd lo hi rep ev sev st res run) (enL id 1 kd lo hi rep ev sev st' res' run')), (4, .rows .tra (ouF k O))]) (0) (ws := ?ws2) (tk := ?tk2) ?hw2 ?ht2 ?hi_1 ?h0_1 ?LH2; (case hw2 => simp only [go_sem, decide_true, decide_false, Int.reduceToNat, Nat.min_eq_left, Nat.min_eq_right, Int.reducePow, Nat.reducePow, Int.reduceLE, Int.reduceLT, Int.reduceMul, Int.reduceAdd, Int.reduceSub, Int.reduceNeg, Bool.not_true, Bool.not_false, Bool.not_not, ↓reduceIte, Nat.reduceAdd, Nat.reduceSub, Nat.reduceMul, Nat.reduceEqDiff, reduceCtorEq, Nat.reduceLT, Nat.reduceLeDiff, Nat.reduceGT]; exact rfl); (case ht2 => simp only [go_sem, decide_true, decide_false, Int.reduceToNat, Nat.min_eq_left, Nat.min_eq_right, Int.reducePow, Nat.reducePow, Int.reduceLE, Int.reduceLT, Int.reduceMul, Int.reduceAdd, Int.reduceSub, Int.reduceNeg, Bool.not_true, Bool.not_false, Bool.not_not, ↓reduceIte, Nat.reduceAdd, Nat.reduceSub, Nat.reduceMul, Nat.reduceEqDiff, reduceCtorEq, Nat.reduceLT, Nat.reduceLeDiff, Nat.reduceGT]; exact rfl); (case' LH2 => rintro k E t hx hE ht; simp only [go_sem] at ht; subst ht; simp only [go_sem]; try dsimp only at hx))
    case hi_1 => exact Nat.zero_le _
    case h0_1 =>
      rw [g0, u0]
      (focus (refine ⟨_, _, Gh.refl, [0, 1, 2, 3, 4], rfl, ?_⟩; (refine fitq ?_ ?_ ?_ <;> try exact trivial); (try any_goals (refine ⟨?_, ?_⟩)); (try any_goals (with_reducible rfl))))
      all_goals (repeat' (first | (refine And.intro ?_ ?_) | rfl))
    case LH2 =>
      have hk0 : k ≤ 1 := hx
      by_cases hk : k = 0
      · subst hk
        rw [g0, u0]
        have hkd : decide (((0 : Nat) : Int) < 1) = true := by decide
        have hw : IntKind.i64.wrap 1 = ((1 : Nat) : Int) := by decide
        cases t
        · have hO' : [] = O := hO
          (have zx1 := @hkd; have zx2 := @hw; have zx3 := @hz; all_goals (try ((with_reducible first | refine wp_id ?_ | refine does_id ?_ | refine ops_id ?_); refine walk ?_; (repeat' (first | exact trivial | with_reducible refine And.intro ?_ ?_)); all_goals (repeat with_reducible first | refine ImpB.mk fun hb => ?_ | refine ImpK.mk fun hK => ?_ | refine ImpF.mk fun hF => ?_ | refine ImpQ.mk fun hp => ?_ | refine AllE.mk fun p => ?_ | refine AllR.mk fun rest => ?_ | refine AllK.mk fun K => ?_))); repeat' (with_reducible refine And.intro ?_ ?_))
          refine ⟨1, ⟨by first | omega | (dsimp only; omega), by first | omega | (dsimp only; omega)⟩, ?_⟩
          dsimp only
          rw [g1, u1, ← hO']
          (focus (refine ⟨_, _, Gh.refl, [0, 1, 2, 3, 4], rfl, ?_⟩; (refine fitq ?_ ?_ ?_ <;> try exact trivial); (try any_goals (refine ⟨?_, ?_⟩)); (try any_goals (with_reducible rfl))))
          all_goals (repeat' (first | (refine And.intro ?_ ?_) | rfl))
        · have hO' : [⟨nw, id, st, st', b⟩] = O := hO
          (have zx1 := @hkd; have zx2 := @hw; have zx3 := @hz; all_goals (try ((with_reducible first | refine wp_id ?_ | refine does_id ?_ | refine ops_id ?_); refine walk ?_; (repeat' (first | exact trivial | with_reducible refine And.intro ?_ ?_)); all_goals (repeat with_reducible first | refine ImpB.mk fun hb => ?_ | refine ImpK.mk fun hK => ?_ | refine ImpF.mk fun hF => ?_ | refine ImpQ.mk fun hp => ?_ | refine AllE.mk fun p => ?_ | refine AllR.mk fun rest => ?_ | refine AllK.mk fun K => ?_))); repeat' (with_reducible refine And.intro ?_ ?_))
          refine ⟨1, ⟨by first | omega | (dsimp only; omega), by first | omega | (dsimp only; omega)⟩, ?_⟩
          dsimp only
          rw [g1, u1, ← hO']
          (focus (refine ⟨_, _, Gh.refl, [0, 1, 2, 3, 6], rfl, ?_⟩; (refine fitq ?_ ?_ ?_ <;> try exact trivial); (try any_goals (refine ⟨?_, ?_⟩)); (try any_goals (with_reducible rfl))))
          all_goals (repeat' (first | (refine And.intro ?_ ?_) | rfl))
      · obtain rfl : k = 1 := by omega
        rw [g1, u1]
        have hkd : decide (((1 : Nat) : Int) < 1) = false := by decide
        (have zx1 := @hkd; all_goals (try ((with_reducible first | refine wp_id ?_ | refine does_id ?_ | refine ops_id ?_); refine walk ?_; (repeat' (first | exact trivial | with_reducible refine And.intro ?_ ?_)); all_goals (repeat with_reducible first | refine ImpB.mk fun hb => ?_ | refine ImpK.mk fun hK => ?_ | refine ImpF.mk fun hF => ?_ | refine ImpQ.mk fun hp => ?_ | refine AllE.mk fun p => ?_ | refine AllR.mk fun rest => ?_ | refine AllK.mk fun K => ?_))); repeat' (with_reducible refine And.intro ?_ ?_))
        refine ⟨_, _, (gh_frz (t := 4) (e := .tra) (xs := O) rfl ?f1b ?f2b).trans (gh_close (t := 0) (ts := [2, 3]) (l := SL nw ⟨id, 1, kd, lo, hi, rep, ev, sev⟩ false st' res' run') ⟨⟨_, _, rfl⟩, ?fcb, by simp⟩), [0, 1], rfl, ?ftb⟩
        case' ftb => (refine fitq ?_ ?_ ?_ <;> try exact trivial)
        case' fcb => simp only [go_sem, decide_true, decide_false, Int.reduceToNat, Nat.min_eq_left, Nat.min_eq_right, Int.reducePow, Nat.reducePow, Int.reduceLE, Int.reduceLT, Int.reduceMul, Int.reduceAdd, Int.reduceSub, Int.reduceNeg, Bool.not_true, Bool.not_false, Bool.not_not, ↓reduceIte, Nat.reduceAdd, Nat.reduceSub, Nat.reduceMul, Nat.reduceEqDiff, reduceCtorEq, Nat.reduceLT, Nat.reduceLeDiff, Nat.reduceGT]
        case' f1b => simp only [go_sem, decide_true, decide_false, Int.reduceToNat, Nat.min_eq_left, Nat.min_eq_right, Int.reducePow, Nat.reducePow, Int.reduceLE, Int.reduceLT, Int.reduceMul, Int.reduceAdd, Int.reduceSub, Int.reduceNeg, Bool.not_true, Bool.not_false, Bool.not_not, ↓reduceIte, Nat.reduceAdd, Nat.reduceSub, Nat.reduceMul, Nat.reduceEqDiff, reduceCtorEq, Nat.reduceLT, Nat.reduceLeDiff, Nat.reduceGT]
        case' f2b => simp only [go_sem, decide_true, decide_false, Int.reduceToNat, Nat.min_eq_left, Nat.min_eq_right, Int.reducePow, Nat.reducePow, Int.reduceLE, Int.reduceLT, Int.reduceMul, Int.reduceAdd, Int.reduceSub, Int.reduceNeg, Bool.not_true, Bool.not_false, Bool.not_not, ↓reduceIte, Nat.reduceAdd, Nat.reduceSub, Nat.reduceMul, Nat.reduceEqDiff, reduceCtorEq, Nat.reduceLT, Nat.reduceLeDiff, Nat.reduceGT]
        all_goals first | exact Nat.le_refl _ | exact ⟨Nat.le_refl _, False.elim⟩ | exact False.elim | (repeat' (first | (refine And.intro ?_ ?_) | rfl | exact False.elim | exact Nat.le_refl _))
theorem c_mcheck {h : List Ch} {K : KT} {u p : Nat} {now n : Int} {id kd lo hi rep ev sev st res run a b : Int} {t : Bool} {st' res' run' : Int} (H : K (.ro .tra (if t then [⟨nowQ now n, id, st, st', b⟩] else [])) ((h.set u (.pack (SL (nowQ now n) ⟨id, 1, kd, lo, hi, rep, ev, sev⟩ false st' res' run'))).set p (.pack (PO a b)))) (o : hth h u = .pack (SL now ⟨id, 1, kd, lo, hi, rep, ev, sev⟩ false st res run)) (o1 : hth h p = .pack (PO a b)) (e : fdR rep st res run (rsL lo hi b) = (t, st', res', run')) (s1 : 0 ≤ run ∧ run ≤ 1000000) (s2 : u ≠ p) : Does Try.prog 12 [.ptr u 0, .int .i64 n, .ptr p 0] h K :=
  frame_two0 (b_mcheck now n id kd lo hi rep ev sev st res run a b t st' res' run' s1 e) o o1 s2 (by simp) (by simp) (fitC_pack _) (fitC_pack _) (br_cons (br_ptr rfl) (br_cons br_int (br_cons (br_ptr rfl) br_nil))) rfl (fun _ => rfl) (fun _ => rfl) (by cases t <;> rfl) H
abbrev i_mcheck := Ctr.mk (i := 0) (g := 12) @c_mcheck
attribute [instance] i_mcheck
end Go.V
