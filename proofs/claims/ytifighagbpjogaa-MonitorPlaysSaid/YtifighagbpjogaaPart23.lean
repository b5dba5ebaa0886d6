/-
  monitor, the reference: Check.
-/
import Derived.Test.YtifighagbpjogaaPart22
set_option linter.unusedVariables false
set_option linter.unusedSimpArgs false
set_option maxRecDepth 100000
set_option maxHeartbeats 8000000
namespace Go.V
open Go.Proofs
attribute [-go_sem] SL PL
theorem chkS_some {nw : Int} {pv : Int → Option Int} {e : Sm} {v st2 res2 run2 : Int} {t : Bool} (hv : pv e.m.param = some v) (ho : e.off = false) (hf : fdR e.m.rep e.st e.res e.run (resE e.m e.bg e.last v) = (t, st2, res2, run2)) :
    chkS nw pv e = (⟨e.m, false, st2, res2, run2, true, v⟩, if t = true then [⟨nw, e.m.id, e.st, st2, v⟩] else []) := by
  unfold chkS
  rw [hv]
  dsimp only
  rw [if_neg (by rw [ho]; decide), hf, ho]
def onK (nw : Int) (pv : Int → Option Int) (es : List Sm) (k : Nat) : List One := roL (chkL nw pv (es.take k))
theorem onK_next {nw : Int} {pv : Int → Option Int} {es : List Sm} {k : Nat} (hk : k < es.length) : onK nw pv es (k + 1) = onK nw pv es k ++ [rfO (chkS nw pv (eAtS es k)).1] := by
  unfold onK roL chkL
  rw [take_at hk, List.map_append, List.map_append]; rfl
theorem onK_len {nw : Int} {pv : Int → Option Int} {es : List Sm} {k : Nat} (hk : k ≤ es.length) : (onK nw pv es k).length = k := by
  unfold onK roL chkL
  rw [List.length_map, List.length_map, List.length_take]; omega
theorem onK_all {nw : Int} {pv : Int → Option Int} {es : List Sm} : onK nw pv es es.length = roL (chkL nw pv es) := by
  unfold onK
  rw [List.take_length]
theorem nowQ_a {now n nw : Int} (h : nowQ now n = nw) (a : decide (now < n) = true) (b : decide (n ≤ 1099511627776) = true) : nw = n := by
  have a := of_decide_eq_true a
  have b := of_decide_eq_true b
  unfold nowQ at h
  rw [if_pos b] at h
  omega
theorem nowQ_b {now n nw : Int} (h : nowQ now n = nw) (a : decide (now < n) = true) (b : decide (n ≤ 1099511627776) = false) : nw = now := by
  have b := of_decide_eq_false b
  unfold nowQ at h
  rw [if_neg b] at h
  exact h.symm
theorem nowQ_c {now n nw : Int} (h : nowQ now n = nw) (a : decide (now < n) = false) : nw = now := by
  have a := of_decide_eq_false a
  unfold nowQ at h
  split at h <;> omega
/-- no parameter has a value -/
def nonV : Int → Option Int := fun _ => none
/-- the kinds of the monitors -/
abbrev kd3 (m : Mon) : Prop := m.kind = 1 ∨ m.kind = 2 ∨ m.kind = 3
theorem okE_kd {m : Mon} (h : okE m) : kd3 m := by
  rcases h with h | h | h
  · exact .inl h.kind
  · exact .inr (.inl h.kind)
  · exact .inr (.inr h.kind)
theorem b_rchk (now n : Int) (es : List Sm) (V : Pv) (hV : okPv V) (a : OkS es) : DoesK Try.prog 0 16 [.agg [.int .i64 now, .ro .one (roL es)], .int .i64 n, .agg [.ro .pdf V.l]] []
    (EndF 0 (.tup [.agg [.int .i64 (nowQ now n), .ro .one (roL (chkL (nowQ now n) V.get es))], .ro .tra (chkO (nowQ now n) V.get es)]) []) := by
  have hro : RoLit := .mk
  have hmx := a.max
  have hln := roL_len es
  have haln : ∀ k, k < es.length → (roL es).getD k One.zero = rfO (eAtS es k) := fun k hk => roL_at hk
  obtain ⟨nw, hnw⟩ : ∃ z, nowQ now n = z := ⟨_, rfl⟩
  rw [hnw]
  obtain ⟨l, hl⟩ : ∃ l, roL es = l := ⟨_, rfl⟩
  rw [hl] at haln hln ⊢
  have hz : decide ((8 : Int) = 0) = false := by decide
  have hz0 : decide ((0 : Int) = 0) = true := by decide
  obtain ⟨vl, eV⟩ : ∃ vl, V.l = vl := ⟨_, rfl⟩
  rw [eV]
  refine DoesK.close ?_
  refine w_body (rs := [.cell 6 56, .tmp 7]) (tm := [.agg [.int .i64 now, .ro .one l], .int .i64 n, .agg [.ro .pdf vl], .any, .any, .any, .any, .any, .any, .any, .any, .any, .any, .any, .any, .any, .any, .any, .any, .any, .any, .any, .any, .any, .any, .any, .any, .any, .any, .any, .any, .any, .any, .any, .any, .any, .any, .any, .any, .any, .any, .any, .any, .any, .any, .any, .any, .any, .any, .any, .any, .any, .any, .any, .any, .any, .any, .any, .any, .any, .any, .any, .any, .any, .any, .any, .any, .any, .any, .any, .any, .any, .any, .any, .any, .any, .any, .any, .any, .any, .any, .any, .any, .any, .any, .any, .any, .any, .any, .any, .any, .any, .any, .any, .any, .any, .any, .any, .any, .any, .any, .any, .any]) fn_16 rfl rfl rfl rfl fun R hR => ?_
  refine w_seq fun K2 hk2 => ?_
  have hq2 := Slot.mk hk2
  clear hk2
  (all_goals (try ((with_reducible first | refine wp_id ?_ | refine does_id ?_ | refine ops_id ?_ | refine dw_id ?_); refine walk ?_; (repeat' (first | exact trivial | with_reducible refine And.intro ?_ ?_)); all_goals (repeat with_reducible first | refine ImpB.mk fun hb => ?_ | refine ImpK.mk fun hK => ?_ | refine ImpF.mk fun hF => ?_ | refine ImpQ.mk fun hp => ?_ | refine AllE.mk fun p => ?_ | refine AllR.mk fun rest => ?_ | refine AllK.mk fun K => ?_))); repeat' (with_reducible refine And.intro ?_ ?_))
  refine hq2.un _ _ ?_
  any_goals (refine w_meet (A := Unit) (fun _ => True) (fun _ => []) (fun _ => [(0, .cells [.int .i64 nw, .ro .one l])]) (ws := ?ws3) (tk := ?tk3) ?hw3 ?ht3 ?HM1 ?HN1; (case hw3 => simp only [go_sem, decide_true, decide_false, Int.reduceToNat, Nat.min_eq_left, Nat.min_eq_right, Int.reducePow, Nat.reducePow, Int.reduceLE, Int.reduceLT, Int.reduceMul, Int.reduceAdd, Int.reduceSub, Int.reduceNeg, Bool.not_true, Bool.not_false, Bool.not_not, ↓reduceIte, Nat.reduceAdd, Nat.reduceSub, Nat.reduceMul, Nat.reduceEqDiff, reduceCtorEq, Nat.reduceLT, Nat.reduceLeDiff, Nat.reduceGT]; exact rfl); (case ht3 => simp only [go_sem, decide_true, decide_false, Int.reduceToNat, Nat.min_eq_left, Nat.min_eq_right, Int.reducePow, Nat.reducePow, Int.reduceLE, Int.reduceLT, Int.reduceMul, Int.reduceAdd, Int.reduceSub, Int.reduceNeg, Bool.not_true, Bool.not_false, Bool.not_not, ↓reduceIte, Nat.reduceAdd, Nat.reduceSub, Nat.reduceMul, Nat.reduceEqDiff, reduceCtorEq, Nat.reduceLT, Nat.reduceLeDiff, Nat.reduceGT]; exact rfl); (case' HM1 => intro K hK); (case' HN1 => rintro u t hx ht; simp only [go_sem] at ht; subst ht; simp only [go_sem]; try dsimp only at hx))
  case HM1 =>
    (all_goals (try ((with_reducible first | refine wp_id ?_ | refine does_id ?_ | refine ops_id ?_ | refine dw_id ?_); refine walk ?_; (repeat' (first | exact trivial | with_reducible refine And.intro ?_ ?_)); all_goals (repeat with_reducible first | refine ImpB.mk fun hb => ?_ | refine ImpK.mk fun hK => ?_ | refine ImpF.mk fun hF => ?_ | refine ImpQ.mk fun hp => ?_ | refine AllE.mk fun p => ?_ | refine AllR.mk fun rest => ?_ | refine AllK.mk fun K => ?_))); repeat' (with_reducible refine And.intro ?_ ?_))
    all_goals (
      refine ⟨(), trivial, ?_⟩
      (focus (refine ⟨_, _, Gh.refl, [0, 1, 2], rfl, ?_⟩; (refine fitq ?_ ?_ ?_ <;> try exact trivial); (try any_goals (refine ⟨?_, ?_⟩)); (try any_goals (with_reducible rfl))))
      all_goals (repeat' (first | (refine And.intro ?_ ?_) | rfl | exact nowQ_a hnw (by assumption) (by assumption) | exact nowQ_b hnw (by assumption) (by assumption) | exact nowQ_c hnw (by assumption))))
  case HN1 =>
    (all_goals (try ((with_reducible first | refine wp_id ?_ | refine does_id ?_ | refine ops_id ?_ | refine dw_id ?_); refine walk ?_; (repeat' (first | exact trivial | with_reducible refine And.intro ?_ ?_)); all_goals (repeat with_reducible first | refine ImpB.mk fun hb => ?_ | refine ImpK.mk fun hK => ?_ | refine ImpF.mk fun hF => ?_ | refine ImpQ.mk fun hp => ?_ | refine AllE.mk fun p => ?_ | refine AllR.mk fun rest => ?_ | refine AllK.mk fun K => ?_))); repeat' (with_reducible refine And.intro ?_ ?_))
    refine Wp.ghost (gh_adopt (s := 8) .tra trivial) ?_
    refine Wp.ghost (gh_adopt (s := 9) .one trivial) ?_
    simp only [go_sem, decide_true, decide_false, Int.reduceToNat, Nat.min_eq_left, Nat.min_eq_right, Int.reducePow, Nat.reducePow, Int.reduceLE, Int.reduceLT, Int.reduceMul, Int.reduceAdd, Int.reduceSub, Int.reduceNeg, Bool.not_true, Bool.not_false, Bool.not_not, ↓reduceIte, Nat.reduceAdd, Nat.reduceSub, Nat.reduceMul, Nat.reduceEqDiff, reduceCtorEq, Nat.reduceLT, Nat.reduceLeDiff, Nat.reduceGT]
    any_goals ((try (refine w_seq fun K hK => ?_)); (try (refine w_block ?_)); refine w_loop (A := Nat) (fun k => k ≤ es.length) (fun k => es.length - k) (fun k => [(10, .int .i64 k), (8, .sl 3 .tra 0 (trK nw V.get es k).length), (9, .sl 4 .one 0 k)]) (fun k => [(0, .cells [.int .i64 nw, .ro .one l]), (3, .rows .tra (trK nw V.get es k)), (4, .rows .one (onK nw V.get es k))]) (0) (ws := ?ws1) (tk := ?tk1) ?hw1 ?ht1 ?hi ?h0 ?LH1; (case hw1 => simp only [go_sem, decide_true, decide_false, Int.reduceToNat, Nat.min_eq_left, Nat.min_eq_right, Int.reducePow, Nat.reducePow, Int.reduceLE, Int.reduceLT, Int.reduceMul, Int.reduceAdd, Int.reduceSub, Int.reduceNeg, Bool.not_true, Bool.not_false, Bool.not_not, ↓reduceIte, Nat.reduceAdd, Nat.reduceSub, Nat.reduceMul, Nat.reduceEqDiff, reduceCtorEq, Nat.reduceLT, Nat.reduceLeDiff, Nat.reduceGT]; exact rfl); (case ht1 => simp only [go_sem, decide_true, decide_false, Int.reduceToNat, Nat.min_eq_left, Nat.min_eq_right, Int.reducePow, Nat.reducePow, Int.reduceLE, Int.reduceLT, Int.reduceMul, Int.reduceAdd, Int.reduceSub, Int.reduceNeg, Bool.not_true, Bool.not_false, Bool.not_not, ↓reduceIte, Nat.reduceAdd, Nat.reduceSub, Nat.reduceMul, Nat.reduceEqDiff, reduceCtorEq, Nat.reduceLT, Nat.reduceLeDiff, Nat.reduceGT]; exact rfl); (case' LH1 => rintro k E t hx hE ht; simp only [go_sem] at ht; subst ht; simp only [go_sem]; try dsimp only at hx))
    case hi => exact Nat.zero_le _
    case h0 =>
      (focus (refine ⟨_, _, Gh.refl, [0, 1, 2, 3, 4], rfl, ?_⟩; (refine fitq ?_ ?_ ?_ <;> try exact trivial); (try any_goals (refine ⟨?_, ?_⟩)); (try any_goals (with_reducible rfl))))
      all_goals (repeat' (first | (refine And.intro ?_ ?_) | rfl))
    case LH1 =>
      have hk0 : k ≤ es.length := hx
      have hkn : (es.length : Int) = (l.length : Int) := by rw [hln]
      have hol := onK_len (nw := nw) (pv := V.get) hk0
      have htl := trK_len (now := nw) (pv := V.get) hk0
      by_cases hk : k < es.length
      · have hkd : decide ((k : Int) < (l.length : Int)) = true := decide_eq_true (by omega)
        have hkw : IntKind.i64.wrap ((k : Int) + 1) = ((k + 1 : Nat) : Int) := by rw [wrap_i64 _ (by omega) (by omega)]; omega
        have hat := haln k hk
        have hon := onK_next (nw := nw) (pv := V.get) hk
        have htr := trK_next (now := nw) (pv := V.get) hk
        have hrn := a.rn k hk
        have hkd3 := okE_kd (a.ck k hk)
        obtain ⟨e, he⟩ : ∃ e, eAtS es k = e := ⟨_, rfl⟩
        rw [he] at hat hon htr hrn hkd3
        obtain ⟨A, hA⟩ : ∃ A, trK nw V.get es k = A := ⟨_, rfl⟩
        obtain ⟨B, hB⟩ : ∃ B, onK nw V.get es k = B := ⟨_, rfl⟩
        rw [hA] at htr htl ⊢
        rw [hB] at hon hol ⊢
        unfold rfO at hat
        cases ho : e.off with
        | true =>
          rw [ho] at hat
          have hat : l.getD k One.zero = ⟨e.m, false, e.st, e.res, e.run, e.bg, e.last⟩ := hat
          have hre : rfO e = ⟨e.m, false, e.st, e.res, e.run, e.bg, e.last⟩ := by unfold rfO; rw [ho]; rfl
          rw [chkS_off ho] at hon htr
          have hon2 : onK nw V.get es (k + 1) = B ++ [⟨e.m, false, e.st, e.res, e.run, e.bg, e.last⟩] := by rw [hon, hre]
          have htr2 : trK nw V.get es (k + 1) = A := by rw [htr, List.append_nil]
          cases hv : V.get e.m.param with
          | none =>
            (have zx1 := @hkd; have zx2 := @hkw; have zx3 := @hat; have zx4 := @hol; have zx5 := @hz; have zx6 := @hz0; all_goals (try ((with_reducible first | refine wp_id ?_ | refine does_id ?_ | refine ops_id ?_ | refine dw_id ?_); refine walk ?_; (repeat' (first | exact trivial | with_reducible refine And.intro ?_ ?_)); all_goals (repeat with_reducible first | refine ImpB.mk fun hb => ?_ | refine ImpK.mk fun hK => ?_ | refine ImpF.mk fun hF => ?_ | refine ImpQ.mk fun hp => ?_ | refine AllE.mk fun p => ?_ | refine AllR.mk fun rest => ?_ | refine AllK.mk fun K => ?_))); repeat' (with_reducible refine And.intro ?_ ?_))
            all_goals first | (show _ ≤ (_ : Int); omega) | (show _ < (_ : Int); omega) | (show _ ≤ (_ : Nat); omega) | (show _ < (_ : Nat); omega) | skip
            refine ⟨k + 1, ⟨(by omega : k + 1 ≤ es.length), (by first | omega | (dsimp only; omega))⟩, ?_⟩
            dsimp only
            rw [hon2, htr2]
            (focus (refine ⟨_, _, Gh.refl, [0, 1, 2, 3, 6], rfl, ?_⟩; (refine fitq ?_ ?_ ?_ <;> try exact trivial); (try any_goals (refine ⟨?_, ?_⟩)); (try any_goals (with_reducible rfl))))
            all_goals (repeat' (first | (refine And.intro ?_ ?_) | rfl | (rw [List.length_append]; rfl)))
          | some v =>
            (have zx1 := @hkd; have zx2 := @hkw; have zx3 := @hat; have zx4 := @hol; have zx5 := @hz; have zx6 := @hz0; all_goals (try ((with_reducible first | refine wp_id ?_ | refine does_id ?_ | refine ops_id ?_ | refine dw_id ?_); refine walk ?_; (repeat' (first | exact trivial | with_reducible refine And.intro ?_ ?_)); all_goals (repeat with_reducible first | refine ImpB.mk fun hb => ?_ | refine ImpK.mk fun hK => ?_ | refine ImpF.mk fun hF => ?_ | refine ImpQ.mk fun hp => ?_ | refine AllE.mk fun p => ?_ | refine AllR.mk fun rest => ?_ | refine AllK.mk fun K => ?_))); repeat' (with_reducible refine And.intro ?_ ?_))
            all_goals first | (show _ ≤ (_ : Int); omega) | (show _ < (_ : Int); omega) | (show _ ≤ (_ : Nat); omega) | (show _ < (_ : Nat); omega) | skip
            refine ⟨k + 1, ⟨(by omega : k + 1 ≤ es.length), (by first | omega | (dsimp only; omega))⟩, ?_⟩
            dsimp only
            rw [hon2, htr2]
            (focus (refine ⟨_, _, Gh.refl, [0, 1, 2, 3, 6], rfl, ?_⟩; (refine fitq ?_ ?_ ?_ <;> try exact trivial); (try any_goals (refine ⟨?_, ?_⟩)); (try any_goals (with_reducible rfl))))
            all_goals (repeat' (first | (refine And.intro ?_ ?_) | rfl | (rw [List.length_append]; rfl)))
        | false =>
          rw [ho] at hat
          have hat : l.getD k One.zero = ⟨e.m, true, e.st, e.res, e.run, e.bg, e.last⟩ := hat
          cases hv : V.get e.m.param with
          | none =>
            have hre : rfO e = ⟨e.m, true, e.st, e.res, e.run, e.bg, e.last⟩ := by unfold rfO; rw [ho]; rfl
            rw [chkS_none hv] at hon htr
            have hon2 : onK nw V.get es (k + 1) = B ++ [⟨e.m, true, e.st, e.res, e.run, e.bg, e.last⟩] := by rw [hon, hre]
            have htr2 : trK nw V.get es (k + 1) = A := by rw [htr, List.append_nil]
            (have zx1 := @hkd; have zx2 := @hkw; have zx3 := @hat; have zx4 := @hol; have zx5 := @hz; have zx6 := @hz0; all_goals (try ((with_reducible first | refine wp_id ?_ | refine does_id ?_ | refine ops_id ?_ | refine dw_id ?_); refine walk ?_; (repeat' (first | exact trivial | with_reducible refine And.intro ?_ ?_)); all_goals (repeat with_reducible first | refine ImpB.mk fun hb => ?_ | refine ImpK.mk fun hK => ?_ | refine ImpF.mk fun hF => ?_ | refine ImpQ.mk fun hp => ?_ | refine AllE.mk fun p => ?_ | refine AllR.mk fun rest => ?_ | refine AllK.mk fun K => ?_))); repeat' (with_reducible refine And.intro ?_ ?_))
            all_goals first | (show _ ≤ (_ : Int); omega) | (show _ < (_ : Int); omega) | (show _ ≤ (_ : Nat); omega) | (show _ < (_ : Nat); omega) | skip
            refine ⟨k + 1, ⟨(by omega : k + 1 ≤ es.length), (by first | omega | (dsimp only; omega))⟩, ?_⟩
            dsimp only
            rw [hon2, htr2]
            (focus (refine ⟨_, _, Gh.refl, [0, 1, 2, 3, 6], rfl, ?_⟩; (refine fitq ?_ ?_ ?_ <;> try exact trivial); (try any_goals (refine ⟨?_, ?_⟩)); (try any_goals (with_reducible rfl))))
            all_goals (repeat' (first | (refine And.intro ?_ ?_) | rfl | (rw [List.length_append]; rfl)))
          | some v =>
            have q2 : VR v := VR_get hV hv
            have q3 : VR e.last := hrn.1
            obtain ⟨hr0, hr1⟩ := hrn.2
            have hf := fun t st2 res2 run2 q => chkS_some (nw := nw) (t := t) (st2 := st2) (res2 := res2) (run2 := run2) hv ho q
            obtain ⟨r, hr⟩ : ∃ r, resE e.m e.bg e.last v = r := ⟨_, rfl⟩
            rw [hr] at hf
            unfold fdR at hf
            by_cases c1 : r = e.res
            · have d1 : decide (¬ r = e.res) = false := decide_eq_false (fun q => q c1)
              rw [if_pos c1] at hf
              have hrw : IntKind.i64.wrap (e.run + 1) = e.run + 1 := wrap_i64 _ (by omega) (by omega)
              obtain ⟨re, hre⟩ : ∃ re, e.res = re := ⟨_, rfl⟩
              rw [hre] at c1 hat d1
              subst c1
              by_cases c2 : e.run + 1 < e.m.rep
              · have d2 : decide (e.m.rep ≤ e.run + 1) = false := decide_eq_false (by omega)
                have hf2 := hf _ _ _ _ ((if_pos (.inl c2)))
                rw [hf2] at hon htr
                have hon2 : onK nw V.get es (k + 1) = B ++ [⟨e.m, true, e.st, r, e.run + 1, true, v⟩] := hon
                have htr2 : trK nw V.get es (k + 1) = A := by rw [htr]; simp
                (have zx1 := @hkd; have zx2 := @hkw; have zx3 := @hat; have zx4 := @hol; have zx5 := @hz; have zx6 := @hz0; have zx7 := @d1; have zx8 := @hrw; have zx9 := @d2; all_goals (try ((with_reducible first | refine wp_id ?_ | refine does_id ?_ | refine ops_id ?_ | refine dw_id ?_); refine walk ?_; (repeat' (first | exact trivial | with_reducible refine And.intro ?_ ?_)); all_goals (repeat with_reducible first | refine ImpB.mk fun hb => ?_ | refine ImpK.mk fun hK => ?_ | refine ImpF.mk fun hF => ?_ | refine ImpQ.mk fun hp => ?_ | refine AllE.mk fun p => ?_ | refine AllR.mk fun rest => ?_ | refine AllK.mk fun K => ?_))); repeat' (with_reducible refine And.intro ?_ ?_))
                all_goals first | (show _ ≤ (_ : Int); omega) | (show _ < (_ : Int); omega) | (show _ ≤ (_ : Nat); omega) | (show _ < (_ : Nat); omega) | skip
                refine ⟨k + 1, ⟨(by omega : k + 1 ≤ es.length), (by first | omega | (dsimp only; omega))⟩, ?_⟩
                dsimp only
                rw [hon2, htr2]
                (focus (refine ⟨_, _, Gh.refl, [0, 1, 2, 3, 6], rfl, ?_⟩; (refine fitq ?_ ?_ ?_ <;> try exact trivial); (try any_goals (refine ⟨?_, ?_⟩)); (try any_goals (with_reducible rfl))))
                all_goals (repeat' (first | (refine And.intro ?_ ?_) | rfl | (rw [List.length_append]; rfl)))
              · have d2 : decide (e.m.rep ≤ e.run + 1) = true := decide_eq_true (by omega)
                by_cases c3 : e.st = r
                · have d3 : decide (¬ e.st = r) = false := decide_eq_false (fun q => q c3)
                  have hf2 := hf _ _ _ _ ((if_pos (.inr c3)))
                  rw [hf2] at hon htr
                  have hon2 : onK nw V.get es (k + 1) = B ++ [⟨e.m, true, e.st, r, e.run + 1, true, v⟩] := hon
                  have htr2 : trK nw V.get es (k + 1) = A := by rw [htr]; simp
                  (have zx1 := @hkd; have zx2 := @hkw; have zx3 := @hat; have zx4 := @hol; have zx5 := @hz; have zx6 := @hz0; have zx7 := @d1; have zx8 := @hrw; have zx9 := @d2; have zx10 := @d3; all_goals (try ((with_reducible first | refine wp_id ?_ | refine does_id ?_ | refine ops_id ?_ | refine dw_id ?_); refine walk ?_; (repeat' (first | exact trivial | with_reducible refine And.intro ?_ ?_)); all_goals (repeat with_reducible first | refine ImpB.mk fun hb => ?_ | refine ImpK.mk fun hK => ?_ | refine ImpF.mk fun hF => ?_ | refine ImpQ.mk fun hp => ?_ | refine AllE.mk fun p => ?_ | refine AllR.mk fun rest => ?_ | refine AllK.mk fun K => ?_))); repeat' (with_reducible refine And.intro ?_ ?_))
                  all_goals first | (show _ ≤ (_ : Int); omega) | (show _ < (_ : Int); omega) | (show _ ≤ (_ : Nat); omega) | (show _ < (_ : Nat); omega) | skip
                  refine ⟨k + 1, ⟨(by omega : k + 1 ≤ es.length), (by first | omega | (dsimp only; omega))⟩, ?_⟩
                  dsimp only
                  rw [hon2, htr2]
                  (focus (refine ⟨_, _, Gh.refl, [0, 1, 2, 3, 6], rfl, ?_⟩; (refine fitq ?_ ?_ ?_ <;> try exact trivial); (try any_goals (refine ⟨?_, ?_⟩)); (try any_goals (with_reducible rfl))))
                  all_goals (repeat' (first | (refine And.intro ?_ ?_) | rfl | (rw [List.length_append]; rfl)))
                · have d3 : decide (¬ e.st = r) = true := decide_eq_true c3
                  have hf2 := hf _ _ _ _ ((if_neg (fun q => q.elim c2 c3)))
                  rw [hf2] at hon htr
                  have hon2 : onK nw V.get es (k + 1) = B ++ [⟨e.m, true, r, r, e.run + 1, true, v⟩] := hon
                  have htr2 : trK nw V.get es (k + 1) = A ++ [⟨nw, e.m.id, e.st, r, v⟩] := by rw [htr]; simp
                  (have zx1 := @hkd; have zx2 := @hkw; have zx3 := @hat; have zx4 := @hol; have zx5 := @hz; have zx6 := @hz0; have zx7 := @d1; have zx8 := @hrw; have zx9 := @d2; have zx10 := @d3; all_goals (try ((with_reducible first | refine wp_id ?_ | refine does_id ?_ | refine ops_id ?_ | refine dw_id ?_); refine walk ?_; (repeat' (first | exact trivial | with_reducible refine And.intro ?_ ?_)); all_goals (repeat with_reducible first | refine ImpB.mk fun hb => ?_ | refine ImpK.mk fun hK => ?_ | refine ImpF.mk fun hF => ?_ | refine ImpQ.mk fun hp => ?_ | refine AllE.mk fun p => ?_ | refine AllR.mk fun rest => ?_ | refine AllK.mk fun K => ?_))); repeat' (with_reducible refine And.intro ?_ ?_))
                  all_goals first | (show _ ≤ (_ : Int); omega) | (show _ < (_ : Int); omega) | (show _ ≤ (_ : Nat); omega) | (show _ < (_ : Nat); omega) | skip
                  refine ⟨k + 1, ⟨(by omega : k + 1 ≤ es.length), (by first | omega | (dsimp only; omega))⟩, ?_⟩
                  dsimp only
                  rw [hon2, htr2]
                  (focus (refine ⟨_, _, Gh.refl, [0, 1, 2, 6, 7], rfl, ?_⟩; (refine fitq ?_ ?_ ?_ <;> try exact trivial); (try any_goals (refine ⟨?_, ?_⟩)); (try any_goals (with_reducible rfl))))
                  all_goals (repeat' (first | (refine And.intro ?_ ?_) | rfl | (rw [List.length_append]; rfl)))
            · have d1 : decide (¬ r = e.res) = true := decide_eq_true c1
              rw [if_neg c1] at hf
              have hrw : IntKind.i64.wrap 1 = (1 : Int) := by decide
              by_cases c2 : 1 < e.m.rep
              · have d2 : decide (e.m.rep ≤ 1) = false := decide_eq_false (by omega)
                have hf2 := hf _ _ _ _ ((if_pos (.inl c2)))
                rw [hf2] at hon htr
                have hon2 : onK nw V.get es (k + 1) = B ++ [⟨e.m, true, e.st, r, 1, true, v⟩] := hon
                have htr2 : trK nw V.get es (k + 1) = A := by rw [htr]; simp
                (have zx1 := @hkd; have zx2 := @hkw; have zx3 := @hat; have zx4 := @hol; have zx5 := @hz; have zx6 := @hz0; have zx7 := @d1; have zx8 := @hrw; have zx9 := @d2; all_goals (try ((with_reducible first | refine wp_id ?_ | refine does_id ?_ | refine ops_id ?_ | refine dw_id ?_); refine walk ?_; (repeat' (first | exact trivial | with_reducible refine And.intro ?_ ?_)); all_goals (repeat with_reducible first | refine ImpB.mk fun hb => ?_ | refine ImpK.mk fun hK => ?_ | refine ImpF.mk fun hF => ?_ | refine ImpQ.mk fun hp => ?_ | refine AllE.mk fun p => ?_ | refine AllR.mk fun rest => ?_ | refine AllK.mk fun K => ?_))); repeat' (with_reducible refine And.intro ?_ ?_))
                all_goals first | (show _ ≤ (_ : Int); omega) | (show _ < (_ : Int); omega) | (show _ ≤ (_ : Nat); omega) | (show _ < (_ : Nat); omega) | skip
                refine ⟨k + 1, ⟨(by omega : k + 1 ≤ es.length), (by first | omega | (dsimp only; omega))⟩, ?_⟩
                dsimp only
                rw [hon2, htr2]
                (focus (refine ⟨_, _, Gh.refl, [0, 1, 2, 3, 6], rfl, ?_⟩; (refine fitq ?_ ?_ ?_ <;> try exact trivial); (try any_goals (refine ⟨?_, ?_⟩)); (try any_goals (with_reducible rfl))))
                all_goals (repeat' (first | (refine And.intro ?_ ?_) | rfl | (rw [List.length_append]; rfl)))
              · have d2 : decide (e.m.rep ≤ 1) = true := decide_eq_true (by omega)
                by_cases c3 : e.st = r
                · have d3 : decide (¬ e.st = r) = false := decide_eq_false (fun q => q c3)
                  have hf2 := hf _ _ _ _ ((if_pos (.inr c3)))
                  rw [hf2] at hon htr
                  have hon2 : onK nw V.get es (k + 1) = B ++ [⟨e.m, true, e.st, r, 1, true, v⟩] := hon
                  have htr2 : trK nw V.get es (k + 1) = A := by rw [htr]; simp
                  (have zx1 := @hkd; have zx2 := @hkw; have zx3 := @hat; have zx4 := @hol; have zx5 := @hz; have zx6 := @hz0; have zx7 := @d1; have zx8 := @hrw; have zx9 := @d2; have zx10 := @d3; all_goals (try ((with_reducible first | refine wp_id ?_ | refine does_id ?_ | refine ops_id ?_ | refine dw_id ?_); refine walk ?_; (repeat' (first | exact trivial | with_reducible refine And.intro ?_ ?_)); all_goals (repeat with_reducible first | refine ImpB.mk fun hb => ?_ | refine ImpK.mk fun hK => ?_ | refine ImpF.mk fun hF => ?_ | refine ImpQ.mk fun hp => ?_ | refine AllE.mk fun p => ?_ | refine AllR.mk fun rest => ?_ | refine AllK.mk fun K => ?_))); repeat' (with_reducible refine And.intro ?_ ?_))
                  all_goals first | (show _ ≤ (_ : Int); omega) | (show _ < (_ : Int); omega) | (show _ ≤ (_ : Nat); omega) | (show _ < (_ : Nat); omega) | skip
                  refine ⟨k + 1, ⟨(by omega : k + 1 ≤ es.length), (by first | omega | (dsimp only; omega))⟩, ?_⟩
                  dsimp only
                  rw [hon2, htr2]
                  (focus (refine ⟨_, _, Gh.refl, [0, 1, 2, 3, 6], rfl, ?_⟩; (refine fitq ?_ ?_ ?_ <;> try exact trivial); (try any_goals (refine ⟨?_, ?_⟩)); (try any_goals (with_reducible rfl))))
                  all_goals (repeat' (first | (refine And.intro ?_ ?_) | rfl | (rw [List.length_append]; rfl)))
                · have d3 : decide (¬ e.st = r) = true := decide_eq_true c3
                  have hf2 := hf _ _ _ _ ((if_neg (fun q => q.elim c2 c3)))
                  rw [hf2] at hon htr
                  have hon2 : onK nw V.get es (k + 1) = B ++ [⟨e.m, true, r, r, 1, true, v⟩] := hon
                  have htr2 : trK nw V.get es (k + 1) = A ++ [⟨nw, e.m.id, e.st, r, v⟩] := by rw [htr]; simp
                  (have zx1 := @hkd; have zx2 := @hkw; have zx3 := @hat; have zx4 := @hol; have zx5 := @hz; have zx6 := @hz0; have zx7 := @d1; have zx8 := @hrw; have zx9 := @d2; have zx10 := @d3; all_goals (try ((with_reducible first | refine wp_id ?_ | refine does_id ?_ | refine ops_id ?_ | refine dw_id ?_); refine walk ?_; (repeat' (first | exact trivial | with_reducible refine And.intro ?_ ?_)); all_goals (repeat with_reducible first | refine ImpB.mk fun hb => ?_ | refine ImpK.mk fun hK => ?_ | refine ImpF.mk fun hF => ?_ | refine ImpQ.mk fun hp => ?_ | refine AllE.mk fun p => ?_ | refine AllR.mk fun rest => ?_ | refine AllK.mk fun K => ?_))); repeat' (with_reducible refine And.intro ?_ ?_))
                  all_goals first | (show _ ≤ (_ : Int); omega) | (show _ < (_ : Int); omega) | (show _ ≤ (_ : Nat); omega) | (show _ < (_ : Nat); omega) | skip
                  refine ⟨k + 1, ⟨(by omega : k + 1 ≤ es.length), (by first | omega | (dsimp only; omega))⟩, ?_⟩
                  dsimp only
                  rw [hon2, htr2]
                  (focus (refine ⟨_, _, Gh.refl, [0, 1, 2, 6, 7], rfl, ?_⟩; (refine fitq ?_ ?_ ?_ <;> try exact trivial); (try any_goals (refine ⟨?_, ?_⟩)); (try any_goals (with_reducible rfl))))
                  all_goals (repeat' (first | (refine And.intro ?_ ?_) | rfl | (rw [List.length_append]; rfl)))
      · have hkd : decide ((k : Int) < (l.length : Int)) = false := decide_eq_false (by omega)
        obtain rfl : k = es.length := by omega
        rw [trK_all, onK_all]
        rw [onK_all] at hol
        have htl2 : (chkO nw V.get es).length = (chkO nw V.get es).length := rfl
        (have zx1 := @hkd; all_goals (try ((with_reducible first | refine wp_id ?_ | refine does_id ?_ | refine ops_id ?_ | refine dw_id ?_); refine walk ?_; (repeat' (first | exact trivial | with_reducible refine And.intro ?_ ?_)); all_goals (repeat with_reducible first | refine ImpB.mk fun hb => ?_ | refine ImpK.mk fun hK => ?_ | refine ImpF.mk fun hF => ?_ | refine ImpQ.mk fun hp => ?_ | refine AllE.mk fun p => ?_ | refine AllR.mk fun rest => ?_ | refine AllK.mk fun K => ?_))); repeat' (with_reducible refine And.intro ?_ ?_))
        rw [← hol]
        refine ⟨_, _, Gh.trans (gh_frz (t := 4) (e := .one) (xs := roL (chkL nw V.get es)) rfl ?f1 ?f2) (gh_frz (t := 3) (e := .tra) (xs := chkO nw V.get es) rfl ?f3 ?f4), [], rfl, ?ft⟩
        case' ft => (refine fitq ?_ ?_ ?_ <;> try exact trivial)
        case' f1 => simp only [go_sem, decide_true, decide_false, Int.reduceToNat, Nat.min_eq_left, Nat.min_eq_right, Int.reducePow, Nat.reducePow, Int.reduceLE, Int.reduceLT, Int.reduceMul, Int.reduceAdd, Int.reduceSub, Int.reduceNeg, Bool.not_true, Bool.not_false, Bool.not_not, ↓reduceIte, Nat.reduceAdd, Nat.reduceSub, Nat.reduceMul, Nat.reduceEqDiff, reduceCtorEq, Nat.reduceLT, Nat.reduceLeDiff, Nat.reduceGT]
        case' f2 => simp only [go_sem, decide_true, decide_false, Int.reduceToNat, Nat.min_eq_left, Nat.min_eq_right, Int.reducePow, Nat.reducePow, Int.reduceLE, Int.reduceLT, Int.reduceMul, Int.reduceAdd, Int.reduceSub, Int.reduceNeg, Bool.not_true, Bool.not_false, Bool.not_not, ↓reduceIte, Nat.reduceAdd, Nat.reduceSub, Nat.reduceMul, Nat.reduceEqDiff, reduceCtorEq, Nat.reduceLT, Nat.reduceLeDiff, Nat.reduceGT]
        case' f3 => simp only [go_sem, decide_true, decide_false, Int.reduceToNat, Nat.min_eq_left, Nat.min_eq_right, Int.reducePow, Nat.reducePow, Int.reduceLE, Int.reduceLT, Int.reduceMul, Int.reduceAdd, Int.reduceSub, Int.reduceNeg, Bool.not_true, Bool.not_false, Bool.not_not, ↓reduceIte, Nat.reduceAdd, Nat.reduceSub, Nat.reduceMul, Nat.reduceEqDiff, reduceCtorEq, Nat.reduceLT, Nat.reduceLeDiff, Nat.reduceGT]
        case' f4 => simp only [go_sem, decide_true, decide_false, Int.reduceToNat, Nat.min_eq_left, Nat.min_eq_right, Int.reducePow, Nat.reducePow, Int.reduceLE, Int.reduceLT, Int.reduceMul, Int.reduceAdd, Int.reduceSub, Int.reduceNeg, Bool.not_true, Bool.not_false, Bool.not_not, ↓reduceIte, Nat.reduceAdd, Nat.reduceSub, Nat.reduceMul, Nat.reduceEqDiff, reduceCtorEq, Nat.reduceLT, Nat.reduceLeDiff, Nat.reduceGT]
        all_goals first | exact Nat.le_refl _ | exact ⟨Nat.le_refl _, False.elim⟩ | exact False.elim | (repeat' (first | (refine And.intro ?_ ?_) | rfl | exact False.elim | exact Nat.le_refl _ | (intro hq; cases hq)))
theorem b_rchkN (now n : Int) (es : List Sm) (a : OkS es) : DoesK Try.prog 0 16 [.agg [.int .i64 now, .ro .one (roL es)], .int .i64 n, .agg [.lit (.slice none 0 0)]] []
    (EndF 0 (.tup [.agg [.int .i64 (nowQ now n), .ro .one (roL (chkL (nowQ now n) nonV es))], .ro .tra (chkO (nowQ now n) nonV es)]) []) := by
  have hro : RoLit := .mk
  have hmx := a.max
  have hln := roL_len es
  have haln : ∀ k, k < es.length → (roL es).getD k One.zero = rfO (eAtS es k) := fun k hk => roL_at hk
  obtain ⟨nw, hnw⟩ : ∃ z, nowQ now n = z := ⟨_, rfl⟩
  rw [hnw]
  obtain ⟨l, hl⟩ : ∃ l, roL es = l := ⟨_, rfl⟩
  rw [hl] at haln hln ⊢
  have hz : decide ((8 : Int) = 0) = false := by decide
  have hz0 : decide ((0 : Int) = 0) = true := by decide
  refine DoesK.close ?_
  refine w_body (rs := [.cell 6 56, .tmp 7]) (tm := [.agg [.int .i64 now, .ro .one l], .int .i64 n, .agg [.lit (.slice none 0 0)], .any, .any, .any, .any, .any, .any, .any, .any, .any, .any, .any, .any, .any, .any, .any, .any, .any, .any, .any, .any, .any, .any, .any, .any, .any, .any, .any, .any, .any, .any, .any, .any, .any, .any, .any, .any, .any, .any, .any, .any, .any, .any, .any, .any, .any, .any, .any, .any, .any, .any, .any, .any, .any, .any, .any, .any, .any, .any, .any, .any, .any, .any, .any, .any, .any, .any, .any, .any, .any, .any, .any, .any, .any, .any, .any, .any, .any, .any, .any, .any, .any, .any, .any, .any, .any, .any, .any, .any, .any, .any, .any, .any, .any, .any, .any, .any, .any, .any, .any, .any]) fn_16 rfl rfl rfl rfl fun R hR => ?_
  refine w_seq fun K2 hk2 => ?_
  have hq2 := Slot.mk hk2
  clear hk2
  (all_goals (try ((with_reducible first | refine wp_id ?_ | refine does_id ?_ | refine ops_id ?_ | refine dw_id ?_); refine walk ?_; (repeat' (first | exact trivial | with_reducible refine And.intro ?_ ?_)); all_goals (repeat with_reducible first | refine ImpB.mk fun hb => ?_ | refine ImpK.mk fun hK => ?_ | refine ImpF.mk fun hF => ?_ | refine ImpQ.mk fun hp => ?_ | refine AllE.mk fun p => ?_ | refine AllR.mk fun rest => ?_ | refine AllK.mk fun K => ?_))); repeat' (with_reducible refine And.intro ?_ ?_))
  refine hq2.un _ _ ?_
  any_goals (refine w_meet (A := Unit) (fun _ => True) (fun _ => []) (fun _ => [(0, .cells [.int .i64 nw, .ro .one l])]) (ws := ?ws4) (tk := ?tk4) ?hw4 ?ht4 ?HM2 ?HN2; (case hw4 => simp only [go_sem, decide_true, decide_false, Int.reduceToNat, Nat.min_eq_left, Nat.min_eq_right, Int.reducePow, Nat.reducePow, Int.reduceLE, Int.reduceLT, Int.reduceMul, Int.reduceAdd, Int.reduceSub, Int.reduceNeg, Bool.not_true, Bool.not_false, Bool.not_not, ↓reduceIte, Nat.reduceAdd, Nat.reduceSub, Nat.reduceMul, Nat.reduceEqDiff, reduceCtorEq, Nat.reduceLT, Nat.reduceLeDiff, Nat.reduceGT]; exact rfl); (case ht4 => simp only [go_sem, decide_true, decide_false, Int.reduceToNat, Nat.min_eq_left, Nat.min_eq_right, Int.reducePow, Nat.reducePow, Int.reduceLE, Int.reduceLT, Int.reduceMul, Int.reduceAdd, Int.reduceSub, Int.reduceNeg, Bool.not_true, Bool.not_false, Bool.not_not, ↓reduceIte, Nat.reduceAdd, Nat.reduceSub, Nat.reduceMul, Nat.reduceEqDiff, reduceCtorEq, Nat.reduceLT, Nat.reduceLeDiff, Nat.reduceGT]; exact rfl); (case' HM2 => intro K hK); (case' HN2 => rintro u t hx ht; simp only [go_sem] at ht; subst ht; simp only [go_sem]; try dsimp only at hx))
  case HM2 =>
    (all_goals (try ((with_reducible first | refine wp_id ?_ | refine does_id ?_ | refine ops_id ?_ | refine dw_id ?_); refine walk ?_; (repeat' (first | exact trivial | with_reducible refine And.intro ?_ ?_)); all_goals (repeat with_reducible first | refine ImpB.mk fun hb => ?_ | refine ImpK.mk fun hK => ?_ | refine ImpF.mk fun hF => ?_ | refine ImpQ.mk fun hp => ?_ | refine AllE.mk fun p => ?_ | refine AllR.mk fun rest => ?_ | refine AllK.mk fun K => ?_))); repeat' (with_reducible refine And.intro ?_ ?_))
    all_goals (
      refine ⟨(), trivial, ?_⟩
      (focus (refine ⟨_, _, Gh.refl, [0, 1, 2], rfl, ?_⟩; (refine fitq ?_ ?_ ?_ <;> try exact trivial); (try any_goals (refine ⟨?_, ?_⟩)); (try any_goals (with_reducible rfl))))
      all_goals (repeat' (first | (refine And.intro ?_ ?_) | rfl | exact nowQ_a hnw (by assumption) (by assumption) | exact nowQ_b hnw (by assumption) (by assumption) | exact nowQ_c hnw (by assumption))))
  case HN2 =>
    (all_goals (try ((with_reducible first | refine wp_id ?_ | refine does_id ?_ | refine ops_id ?_ | refine dw_id ?_); refine walk ?_; (repeat' (first | exact trivial | with_reducible refine And.intro ?_ ?_)); all_goals (repeat with_reducible first | refine ImpB.mk fun hb => ?_ | refine ImpK.mk fun hK => ?_ | refine ImpF.mk fun hF => ?_ | refine ImpQ.mk fun hp => ?_ | refine AllE.mk fun p => ?_ | refine AllR.mk fun rest => ?_ | refine AllK.mk fun K => ?_))); repeat' (with_reducible refine And.intro ?_ ?_))
    refine Wp.ghost (gh_adopt (s := 8) .tra trivial) ?_
    refine Wp.ghost (gh_adopt (s := 9) .one trivial) ?_
    simp only [go_sem, decide_true, decide_false, Int.reduceToNat, Nat.min_eq_left, Nat.min_eq_right, Int.reducePow, Nat.reducePow, Int.reduceLE, Int.reduceLT, Int.reduceMul, Int.reduceAdd, Int.reduceSub, Int.reduceNeg, Bool.not_true, Bool.not_false, Bool.not_not, ↓reduceIte, Nat.reduceAdd, Nat.reduceSub, Nat.reduceMul, Nat.reduceEqDiff, reduceCtorEq, Nat.reduceLT, Nat.reduceLeDiff, Nat.reduceGT]
    any_goals ((try (refine w_seq fun K hK => ?_)); (try (refine w_block ?_)); refine w_loop (A := Nat) (fun k => k ≤ es.length) (fun k => es.length - k) (fun k => [(10, .int .i64 k), (8, .sl 3 .tra 0 (trK nw nonV es k).length), (9, .sl 4 .one 0 k)]) (fun k => [(0, .cells [.int .i64 nw, .ro .one l]), (3, .rows .tra (trK nw nonV es k)), (4, .rows .one (onK nw nonV es k))]) (0) (ws := ?ws2) (tk := ?tk2) ?hw2 ?ht2 ?hi ?h0 ?LH2; (case hw2 => simp only [go_sem, decide_true, decide_false, Int.reduceToNat, Nat.min_eq_left, Nat.min_eq_right, Int.reducePow, Nat.reducePow, Int.reduceLE, Int.reduceLT, Int.reduceMul, Int.reduceAdd, Int.reduceSub, Int.reduceNeg, Bool.not_true, Bool.not_false, Bool.not_not, ↓reduceIte, Nat.reduceAdd, Nat.reduceSub, Nat.reduceMul, Nat.reduceEqDiff, reduceCtorEq, Nat.reduceLT, Nat.reduceLeDiff, Nat.reduceGT]; exact rfl); (case ht2 => simp only [go_sem, decide_true, decide_false, Int.reduceToNat, Nat.min_eq_left, Nat.min_eq_right, Int.reducePow, Nat.reducePow, Int.reduceLE, Int.reduceLT, Int.reduceMul, Int.reduceAdd, Int.reduceSub, Int.reduceNeg, Bool.not_true, Bool.not_false, Bool.not_not, ↓reduceIte, Nat.reduceAdd, Nat.reduceSub, Nat.reduceMul, Nat.reduceEqDiff, reduceCtorEq, Nat.reduceLT, Nat.reduceLeDiff, Nat.reduceGT]; exact rfl); (case' LH2 => rintro k E t hx hE ht; simp only [go_sem] at ht; subst ht; simp only [go_sem]; try dsimp only at hx))
    case hi => exact Nat.zero_le _
    case h0 =>
      (focus (refine ⟨_, _, Gh.refl, [0, 1, 2, 3, 4], rfl, ?_⟩; (refine fitq ?_ ?_ ?_ <;> try exact trivial); (try any_goals (refine ⟨?_, ?_⟩)); (try any_goals (with_reducible rfl))))
      all_goals (repeat' (first | (refine And.intro ?_ ?_) | rfl))
    case LH2 =>
      have hk0 : k ≤ es.length := hx
      have hkn : (es.length : Int) = (l.length : Int) := by rw [hln]
      have hol := onK_len (nw := nw) (pv := nonV) hk0
      have htl := trK_len (now := nw) (pv := nonV) hk0
      by_cases hk : k < es.length
      · have hkd : decide ((k : Int) < (l.length : Int)) = true := decide_eq_true (by omega)
        have hkw : IntKind.i64.wrap ((k : Int) + 1) = ((k + 1 : Nat) : Int) := by rw [wrap_i64 _ (by omega) (by omega)]; omega
        have hat := haln k hk
        have hon := onK_next (nw := nw) (pv := nonV) hk
        have htr := trK_next (now := nw) (pv := nonV) hk
        have hrn := a.rn k hk
        have hkd3 := okE_kd (a.ck k hk)
        obtain ⟨e, he⟩ : ∃ e, eAtS es k = e := ⟨_, rfl⟩
        rw [he] at hat hon htr hrn hkd3
        obtain ⟨A, hA⟩ : ∃ A, trK nw nonV es k = A := ⟨_, rfl⟩
        obtain ⟨B, hB⟩ : ∃ B, onK nw nonV es k = B := ⟨_, rfl⟩
        rw [hA] at htr htl ⊢
        rw [hB] at hon hol ⊢
        unfold rfO at hat
        have hv : nonV e.m.param = none := rfl
        cases ho : e.off with
        | true =>
          rw [ho] at hat
          have hat : l.getD k One.zero = ⟨e.m, false, e.st, e.res, e.run, e.bg, e.last⟩ := hat
          have hre : rfO e = ⟨e.m, false, e.st, e.res, e.run, e.bg, e.last⟩ := by unfold rfO; rw [ho]; rfl
          rw [chkS_none hv] at hon htr
          have hon2 : onK nw nonV es (k + 1) = B ++ [⟨e.m, false, e.st, e.res, e.run, e.bg, e.last⟩] := by rw [hon, hre]
          have htr2 : trK nw nonV es (k + 1) = A := by rw [htr, List.append_nil]
          (have zx1 := @hkd; have zx2 := @hkw; have zx3 := @hat; have zx4 := @hol; have zx5 := @hz; have zx6 := @hz0; all_goals (try ((with_reducible first | refine wp_id ?_ | refine does_id ?_ | refine ops_id ?_ | refine dw_id ?_); refine walk ?_; (repeat' (first | exact trivial | with_reducible refine And.intro ?_ ?_)); all_goals (repeat with_reducible first | refine ImpB.mk fun hb => ?_ | refine ImpK.mk fun hK => ?_ | refine ImpF.mk fun hF => ?_ | refine ImpQ.mk fun hp => ?_ | refine AllE.mk fun p => ?_ | refine AllR.mk fun rest => ?_ | refine AllK.mk fun K => ?_))); repeat' (with_reducible refine And.intro ?_ ?_))
          all_goals first | (show _ ≤ (_ : Int); omega) | (show _ < (_ : Int); omega) | (show _ ≤ (_ : Nat); omega) | (show _ < (_ : Nat); omega) | skip
          refine ⟨k + 1, ⟨(by omega : k + 1 ≤ es.length), (by first | omega | (dsimp only; omega))⟩, ?_⟩
          dsimp only
          rw [hon2, htr2]
          (focus (refine ⟨_, _, Gh.refl, [0, 1, 2, 3, 6], rfl, ?_⟩; (refine fitq ?_ ?_ ?_ <;> try exact trivial); (try any_goals (refine ⟨?_, ?_⟩)); (try any_goals (with_reducible rfl))))
          all_goals (repeat' (first | (refine And.intro ?_ ?_) | rfl | (rw [List.length_append]; rfl)))
        | false =>
          rw [ho] at hat
          have hat : l.getD k One.zero = ⟨e.m, true, e.st, e.res, e.run, e.bg, e.last⟩ := hat
          have hre : rfO e = ⟨e.m, true, e.st, e.res, e.run, e.bg, e.last⟩ := by unfold rfO; rw [ho]; rfl
          rw [chkS_none hv] at hon htr
          have hon2 : onK nw nonV es (k + 1) = B ++ [⟨e.m, true, e.st, e.res, e.run, e.bg, e.last⟩] := by rw [hon, hre]
          have htr2 : trK nw nonV es (k + 1) = A := by rw [htr, List.append_nil]
          (have zx1 := @hkd; have zx2 := @hkw; have zx3 := @hat; have zx4 := @hol; have zx5 := @hz; have zx6 := @hz0; all_goals (try ((with_reducible first | refine wp_id ?_ | refine does_id ?_ | refine ops_id ?_ | refine dw_id ?_); refine walk ?_; (repeat' (first | exact trivial | with_reducible refine And.intro ?_ ?_)); all_goals (repeat with_reducible first | refine ImpB.mk fun hb => ?_ | refine ImpK.mk fun hK => ?_ | refine ImpF.mk fun hF => ?_ | refine ImpQ.mk fun hp => ?_ | refine AllE.mk fun p => ?_ | refine AllR.mk fun rest => ?_ | refine AllK.mk fun K => ?_))); repeat' (with_reducible refine And.intro ?_ ?_))
          all_goals first | (show _ ≤ (_ : Int); omega) | (show _ < (_ : Int); omega) | (show _ ≤ (_ : Nat); omega) | (show _ < (_ : Nat); omega) | skip
          refine ⟨k + 1, ⟨(by omega : k + 1 ≤ es.length), (by first | omega | (dsimp only; omega))⟩, ?_⟩
          dsimp only
          rw [hon2, htr2]
          (focus (refine ⟨_, _, Gh.refl, [0, 1, 2, 3, 6], rfl, ?_⟩; (refine fitq ?_ ?_ ?_ <;> try exact trivial); (try any_goals (refine ⟨?_, ?_⟩)); (try any_goals (with_reducible rfl))))
          all_goals (repeat' (first | (refine And.intro ?_ ?_) | rfl | (rw [List.length_append]; rfl)))
      · have hkd : decide ((k : Int) < (l.length : Int)) = false := decide_eq_false (by omega)
        obtain rfl : k = es.length := by omega
        rw [trK_all, onK_all]
        rw [onK_all] at hol
        have htl2 : (chkO nw nonV es).length = (chkO nw nonV es).length := rfl
        (have zx1 := @hkd; all_goals (try ((with_reducible first | refine wp_id ?_ | refine does_id ?_ | refine ops_id ?_ | refine dw_id ?_); refine walk ?_; (repeat' (first | exact trivial | with_reducible refine And.intro ?_ ?_)); all_goals (repeat with_reducible first | refine ImpB.mk fun hb => ?_ | refine ImpK.mk fun hK => ?_ | refine ImpF.mk fun hF => ?_ | refine ImpQ.mk fun hp => ?_ | refine AllE.mk fun p => ?_ | refine AllR.mk fun rest => ?_ | refine AllK.mk fun K => ?_))); repeat' (with_reducible refine And.intro ?_ ?_))
        rw [← hol]
        refine ⟨_, _, Gh.trans (gh_frz (t := 4) (e := .one) (xs := roL (chkL nw nonV es)) rfl ?g1 ?g2) (gh_frz (t := 3) (e := .tra) (xs := chkO nw nonV es) rfl ?g3 ?g4), [], rfl, ?gt⟩
        case' gt => (refine fitq ?_ ?_ ?_ <;> try exact trivial)
        case' g1 => simp only [go_sem, decide_true, decide_false, Int.reduceToNat, Nat.min_eq_left, Nat.min_eq_right, Int.reducePow, Nat.reducePow, Int.reduceLE, Int.reduceLT, Int.reduceMul, Int.reduceAdd, Int.reduceSub, Int.reduceNeg, Bool.not_true, Bool.not_false, Bool.not_not, ↓reduceIte, Nat.reduceAdd, Nat.reduceSub, Nat.reduceMul, Nat.reduceEqDiff, reduceCtorEq, Nat.reduceLT, Nat.reduceLeDiff, Nat.reduceGT]
        case' g2 => simp only [go_sem, decide_true, decide_false, Int.reduceToNat, Nat.min_eq_left, Nat.min_eq_right, Int.reducePow, Nat.reducePow, Int.reduceLE, Int.reduceLT, Int.reduceMul, Int.reduceAdd, Int.reduceSub, Int.reduceNeg, Bool.not_true, Bool.not_false, Bool.not_not, ↓reduceIte, Nat.reduceAdd, Nat.reduceSub, Nat.reduceMul, Nat.reduceEqDiff, reduceCtorEq, Nat.reduceLT, Nat.reduceLeDiff, Nat.reduceGT]
        case' g3 => simp only [go_sem, decide_true, decide_false, Int.reduceToNat, Nat.min_eq_left, Nat.min_eq_right, Int.reducePow, Nat.reducePow, Int.reduceLE, Int.reduceLT, Int.reduceMul, Int.reduceAdd, Int.reduceSub, Int.reduceNeg, Bool.not_true, Bool.not_false, Bool.not_not, ↓reduceIte, Nat.reduceAdd, Nat.reduceSub, Nat.reduceMul, Nat.reduceEqDiff, reduceCtorEq, Nat.reduceLT, Nat.reduceLeDiff, Nat.reduceGT]
        case' g4 => simp only [go_sem, decide_true, decide_false, Int.reduceToNat, Nat.min_eq_left, Nat.min_eq_right, Int.reducePow, Nat.reducePow, Int.reduceLE, Int.reduceLT, Int.reduceMul, Int.reduceAdd, Int.reduceSub, Int.reduceNeg, Bool.not_true, Bool.not_false, Bool.not_not, ↓reduceIte, Nat.reduceAdd, Nat.reduceSub, Nat.reduceMul, Nat.reduceEqDiff, reduceCtorEq, Nat.reduceLT, Nat.reduceLeDiff, Nat.reduceGT]
        all_goals first | exact Nat.le_refl _ | exact ⟨Nat.le_refl _, False.elim⟩ | exact False.elim | (repeat' (first | (refine And.intro ?_ ?_) | rfl | exact False.elim | exact Nat.le_refl _ | (intro hq; cases hq)))
theorem c_rchk {h : List Ch} {K : KT} {now n nw : Int} {es : List Sm} {V : Pv} {l l2 : List One} {vl : List Pdf} {out : List Tra} (H : K (.tup [.agg [.int .i64 nw, .ro .one l2], .ro .tra out]) h) (e1 : roL es = l ∧ V.l = vl) (e2 : OkS es) (e3 : okPv V) (e4 : nowQ now n = nw ∧ roL (chkL nw V.get es) = l2 ∧ chkO nw V.get es = out) : Does Try.prog 16 [.agg [.int .i64 now, .ro .one l], .int .i64 n, .agg [.ro .pdf vl]] h K := by
  obtain ⟨g1, g2⟩ := e1
  subst g1; subst g2
  have hb := b_rchk now n es V e3 e2
  rw [e4.1, e4.2.1, e4.2.2] at hb
  exact frame_pure hb (br_cons (br_agg (br_cons br_int (br_cons br_ro br_nil))) (br_cons br_int (br_cons (br_agg (br_cons br_ro br_nil)) br_nil))) (.inl rfl) (fun _ => rfl) H
abbrev i_rchk := Ctr.mk (i := 0) (g := 16) @c_rchk
attribute [instance] i_rchk
theorem chkN_id (nw : Int) (es : List Sm) : chkL nw nonV es = es ∧ chkO nw nonV es = [] := by
  have h : ∀ e : Sm, chkS nw nonV e = (e, []) := fun e => chkS_none rfl
  constructor
  · unfold chkL
    rw [List.map_congr_left (g := id) fun e _ => by rw [h]; rfl]
    exact List.map_id es
  · unfold chkO
    exact List.flatMap_eq_nil_iff.2 fun e _ => by rw [h]
theorem c_rchkN {h : List Ch} {K : KT} {now n nw : Int} {es : List Sm} {l : List One} (H : K (.tup [.agg [.int .i64 nw, .ro .one l], .ro .tra []]) h) (e1 : roL es = l) (e2 : OkS es) (e3 : nowQ now n = nw) : Does Try.prog 16 [.agg [.int .i64 now, .ro .one l], .int .i64 n, .agg [.lit (.slice none 0 0)]] h K := by
  subst e1
  have hb := b_rchkN now n es e2
  rw [(chkN_id _ es).1, (chkN_id _ es).2, e3] at hb
  exact frame_pure hb (br_cons (br_agg (br_cons br_int (br_cons br_ro br_nil))) (br_cons br_int (br_cons (br_agg (br_cons br_lit br_nil)) br_nil))) (.inl rfl) (fun _ => rfl) H
abbrev i_rchkN := Ctr.mk (i := 1) (g := 16) @c_rchkN
attribute [instance] i_rchkN
end Go.V
