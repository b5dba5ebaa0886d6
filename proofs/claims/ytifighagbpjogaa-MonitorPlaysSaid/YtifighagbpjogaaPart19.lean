/-
  monitor.Check in a service of any size.
  monitor: Enable and Check, whole.
-/
import Derived.Test.YtifighagbpjogaaPart18
set_option linter.unusedVariables false
set_option linter.unusedSimpArgs false
set_option maxRecDepth 100000
set_option maxHeartbeats 8000000
namespace Go.V
open Go.Proofs
attribute [-go_sem] SL PL
structure okPv (V : Pv) : Prop where
  a : VR V.a
  b : VR V.b
  c : VR V.c
  d : VR V.d
theorem VR_get {V : Pv} {t v : Int} (h : okPv V) (e : V.get t = some v) : VR v := by
  unfold Pv.get at e
  split at e
  · cases e; exact h.a
  · split at e
    · cases e; exact h.b
    · split at e
      · cases e; exact h.c
      · split at e
        · cases e; exact h.d
        · cases e
/-- the entries when the first k are checked -/
def mixS (now : Int) (pv : Int → Option Int) (es : List Sm) (k : Nat) : List Sm := chkL now pv (es.take k) ++ es.drop k
theorem mixS_all (now : Int) (pv : Int → Option Int) (es : List Sm) : mixS now pv es es.length = chkL now pv es := by
  unfold mixS
  rw [List.take_length, List.drop_length, List.append_nil]
theorem mixS_len {now : Int} {pv : Int → Option Int} {es : List Sm} {k : Nat} (h : k ≤ es.length) : (mixS now pv es k).length = es.length := by
  unfold mixS chkL
  rw [List.length_append, List.length_map, List.length_take, List.length_drop]; omega
theorem mixS_at {now : Int} {pv : Int → Option Int} {es : List Sm} {k : Nat} (h : k < es.length) : eAtS (mixS now pv es k) k = eAtS es k ∧ mixS now pv es (k + 1) = (mixS now pv es k).set k (chkS now pv (eAtS es k)).1 := by
  have hl : (chkL now pv (es.take k)).length = k := by unfold chkL; rw [List.length_map, List.length_take]; omega
  have e0 : eAtS es k = es[k] := by show es.getD k Sm.zero = _; rw [List.getD_eq_getElem?_getD, List.getElem?_eq_getElem h]; rfl
  have e1 : es.drop k = eAtS es k :: es.drop (k + 1) := by rw [e0]; exact List.drop_eq_getElem_cons h
  have e2 : es.take (k + 1) = es.take k ++ [eAtS es k] := by rw [e0]; exact List.take_succ_eq_append_getElem h
  constructor
  · show (mixS now pv es k).getD k Sm.zero = _
    unfold mixS
    rw [List.getD_eq_getElem?_getD, List.getElem?_append_right (by omega), hl, Nat.sub_self, e1]; rfl
  · unfold mixS
    rw [List.set_append_right _ _ (by omega), hl, Nat.sub_self, e1, e2]
    unfold chkL
    rw [List.map_append, List.append_assoc]; rfl
theorem trK_all (now : Int) (pv : Int → Option Int) (es : List Sm) : trK now pv es es.length = chkO now pv es := by
  unfold trK
  rw [List.take_length]
theorem trK_len {now : Int} {pv : Int → Option Int} {es : List Sm} : ∀ {k : Nat}, k ≤ es.length → (trK now pv es k).length ≤ k
  | 0, _ => Nat.le_refl _
  | k + 1, h => by
    have := trK_len (now := now) (pv := pv) (es := es) (k := k) (by omega)
    rw [trK_next (by omega), List.length_append]
    rcases chkS_cases now pv (eAtS es k) with ⟨q, -⟩ | ⟨v, q, -⟩
    · rw [q, List.length_nil]; omega
    · rw [q]; simp; omega
theorem chkS_feed {now : Int} {pv : Int → Option Int} {e : Sm} {v : Int} (h : pv e.m.param = some v) (ho : e.off = false) : chkS now pv e = (nxE e v, if (fdE e v).1 = true then [⟨now, e.m.id, e.st, (nxE e v).st, v⟩] else []) := by
  unfold chkS
  rw [h]
  dsimp only
  rw [if_neg (by rw [ho]; decide)]
  rfl
theorem chkS_off {now : Int} {pv : Int → Option Int} {e : Sm} (ho : e.off = true) : chkS now pv e = (e, []) := by
  unfold chkS
  cases pv e.m.param with
  | none => rfl
  | some v => dsimp only; rw [if_pos ho]
theorem chkS_none {now : Int} {pv : Int → Option Int} {e : Sm} (h : pv e.m.param = none) : chkS now pv e = (e, []) := by
  unfold chkS
  rw [h]
theorem mixS_skip {now : Int} {pv : Int → Option Int} {es : List Sm} {k : Nat} (h : k < es.length) (hc : chkS now pv (eAtS es k) = (eAtS es k, [])) : mixS now pv es (k + 1) = mixS now pv es k ∧ trK now pv es (k + 1) = trK now pv es k := by
  obtain ⟨h1, h2⟩ := mixS_at (now := now) (pv := pv) h
  constructor
  · rw [h2, hc]
    have hl := mixS_len (now := now) (pv := pv) (es := es) (k := k) (by omega)
    have : (mixS now pv es k)[k]'(by omega) = eAtS es k := by
      rw [← h1]
      show _ = (mixS now pv es k).getD k Sm.zero
      rw [List.getD_eq_getElem?_getD, List.getElem?_eq_getElem (by omega)]; rfl
    show (mixS now pv es k).set k (eAtS es k) = _
    rw [← this]
    exact List.set_getElem_self (by omega)
  · rw [trK_next h, hc, List.append_nil]
theorem fdH_app {h l : List Ch} {p d : Nat} {e : Sm} {x : Int} (hp : p < h.length) (hd : d < h.length) : fdH (h ++ l) p d e x = fdH h p d e x ++ l := by
  unfold fdH
  split
  · rw [List.set_append_left _ _ hd, List.set_append_left _ _ (by rw [List.length_set]; exact hp)]
  · rw [List.set_append_left _ _ hp]
theorem c_feedS {h m2 : List Ch} {K : KT} {p d : Nat} {x : Sm} {v : Int} {tb : Bool} (H : K (.bool tb) m2) (e1 : hth h p = .cells (enC x d) ∧ (x.m.kind = 3 → hth h d = .cells (dlV x) ∧ p ≠ d)) (e2 : VR v) (e3 : VR x.last) (e4 : (fdE x v).1 = tb ∧ fdH h p d x v = m2) (s1 : 0 ≤ x.run ∧ x.run ≤ 1000000) : Does Try.prog 30 [.ptr p 0, .int .i64 v] h K :=
  Does.of_K (k_feedS e1.1 e1.2 e2 e3 s1 (by rw [e4.1, e4.2]; exact H))
abbrev i_feedS := Ctr.mk (i := 1) (g := 30) @c_feedS
attribute [instance] i_feedS
/-- the round's state: how many were checked, and the memory -/
structure CkI (L : Nat) (ts : List (Nat × Nat)) (now : Int) (pv : Int → Option Int) (es : List Sm) (c1 : Ch) (x : Nat × List Ch) : Prop where
  le : x.1 ≤ es.length
  srv : Srv x.2 0 2 ts now (mixS now pv es x.1)
  c1 : hth x.2 1 = c1
  ok : Okm x.2
  len : x.2.length = L
theorem end_srv2Ro {g : List Ch} {v : Nat} {ts : List (Nat × Nat)} {now : Int} {es : List Sm} {e : Ety} {xs : List e.T} {n : Nat} {c1 : Ch} (a : Srv g 0 v ts now es) (o1 : hth g 1 = c1) (hg : c1 ≠ .gone) (hf : ∀ σ, fitC σ c1 c1) (hv : 1 ∉ v :: ilv ts) (hn : n = xs.length) (F : Okm g) :
    ∃ v' h2, Gh [.sl g.length e 0 n] (g ++ [.rows e xs]) [v'] h2 ∧ EndF 2 (.ro e xs) ([.pack (SV now es), c1] ++ []) v' h2 := by
  subst hn
  have F1 := F.fr g.length e xs
  have e1 : frHs g.length e xs ((g ++ [Ch.rows e xs]).set g.length .gone) = g ++ [.gone] := by
    rw [List.set_append_right _ _ (Nat.le_refl _), Nat.sub_self, frHs_app, F1.1]; rfl
  have e2 : frL g.length e xs [.sl g.length e 0 xs.length] = [.ro e xs] := by
    show [if g.length = g.length then AV.ro e ((xs.drop 0).take xs.length) else _] = _
    rw [if_pos rfl, List.drop_zero, List.take_length]
  have G := gh_frz (tm := [.sl g.length e 0 xs.length]) (h := g ++ [Ch.rows e xs]) (t := g.length) (e := e) (xs := xs) (hth_app_r (j := 0)) ⟨fun _ => ⟨rfl, by omega⟩, trivial⟩ (frObH_app F1.2 (show frObH g.length e xs.length [Ch.rows e xs] from ⟨trivial, trivial⟩))
  rw [e1, e2] at G
  have a2 := a.app [.gone]
  have hc : hth (closeH (g ++ [.gone]) 0 (v :: ilv ts) (SV now es)) 0 = .pack (SV now es) := by
    unfold closeH
    exact hth_set_eq (by rw [goneH_len]; exact a2.lt 0 (by simp))
  have h1l : 1 < g.length := hth_lt (by rw [o1]; exact hg)
  have hc1 : hth (closeH (g ++ [.gone]) 0 (v :: ilv ts) (SV now es)) 1 = c1 := by
    rw [closeH_ne (by decide) hv, hth_app h1l, o1]
  refine ⟨_, _, Gh.trans G (gh_close a2.shut), [0, 1], rfl, ⟨fit_ro _ e xs, trivial⟩, ⟨hth_lt (by rw [hc]; simp), by rw [hc]; exact rfl, hth_lt (by rw [hc1]; exact hg), by rw [hc1]; exact hf _, trivial⟩, by simp⟩
theorem b_chkE (now n : Int) (es : List Sm) (V : Pv) (hp : 0 < es.length) (hl : es.length ≤ 256) (hV : okPv V) (hEE : ∀ k, k < es.length → VR (eAtS es k).last ∧ 0 ≤ (eAtS es k).run ∧ (eAtS es k).run ≤ 1000000) :
    DoesK Try.prog 2 12 [.ptr 0 0, .int .i64 n, .ptr 1 0] [.pack (SV now es), .pack (PW V)]
      (EndF 2 (.ro .tra (chkO (nowQ now n) V.get es)) ([.pack (SV (nowQ now n) (chkL (nowQ now n) V.get es)), .pack (PW V)] ++ [])) := by
  refine DoesK.close ?_
  obtain ⟨nw, hnw⟩ : ∃ z, nowQ now n = z := ⟨_, rfl⟩
  rw [hnw]
  unfold nowQ at hnw
  have hz : decide (¬ (0 : Int) = 0) = false := by decide
  have hz8 : decide (¬ (8 : Int) = 0) = true := by decide
  by_cases q1 : n ≤ 1099511627776
  · have d1 : decide (n ≤ 1099511627776) = true := decide_eq_true q1
    rw [if_pos q1] at hnw
    refine w_body (rs := [.tmp 6]) (tm := [.ptr 0 0, .int .i64 n, .ptr 1 0, .any, .any, .any, .any, .any, .any, .any, .any, .any, .any, .any, .any, .any, .any, .any, .any, .any, .any, .any, .any, .any, .any, .any, .any, .any, .any, .any, .any, .any, .any, .any, .any, .any, .any, .any, .any, .any, .any, .any, .any, .any, .any, .any, .any, .any, .any, .any, .any, .any, .any, .any, .any, .any, .any, .any, .any, .any, .any, .any, .any, .any, .any, .any, .any, .any, .any, .any, .any, .any, .any, .any, .any, .any, .any, .any, .any, .any, .any, .any, .any, .any, .any, .any, .any, .any]) fn_12 rfl rfl rfl rfl fun R hR => ?_
    refine w_openSo hp ?_
    have A0 : Srv _ 0 2 _ now es := SVo_srv (now := now) (mid := [.pack (PW V)]) hp
    have O0 := SVo_ok (now := now) (es := es) (mid := [.pack (PW V)]) (fun c hc => by rw [List.mem_singleton.1 hc]; exact ⟨fitC_pack _, ns_pack _⟩)
    have L0 := SVo_len now es [.pack (PW V)]
    have c10 : hth (SVo now es [.pack (PW V)]) 1 = .pack (PW V) := rfl
    have hv1 : 1 ∉ 2 :: ilv (plc 3 es.length) := by
      rw [ilv_plc]
      intro q
      rcases List.mem_cons.1 q with q | q
      · omega
      · have := List.mem_range'_1.1 q; omega
    obtain ⟨L, hL⟩ : ∃ L, [Ch.pack (PW V)].length + 2 + 2 * es.length = L := ⟨_, rfl⟩
    rw [hL] at L0
    have hL3 : 3 ≤ L := by rw [← hL]; simp
    change Srv _ 0 2 (plc 3 es.length) now es at A0
    generalize plc 3 es.length = ts at A0 hv1
    generalize SVo now es [.pack (PW V)] = gg at A0 O0 L0 c10 ⊢
    have oo : hth gg 0 = .cells [.bool true, .int .i64 now, .csl 2 es.length 1] := A0.o
    have B0 := A0.time (now' := nw)
    have P0 := O0.time (u := 0) (v := 2) (now' := nw) (n := es.length) (by omega)
    have L1 : (gg.set 0 (.cells [.bool true, .int .i64 nw, .csl 2 es.length 1])).length = L := by rw [List.length_set]; exact L0
    have c11 : hth (gg.set 0 (.cells [.bool true, .int .i64 nw, .csl 2 es.length 1])) 1 = .pack (PW V) := by rw [hth_set_ne (by decide)]; exact c10
    have o3 : hth (gg.set 0 (.cells [.bool true, .int .i64 nw, .csl 2 es.length 1])) 0 = .cells [.bool true, .int .i64 nw, .csl 2 es.length 1] := hth_set_eq (by omega)
    clear A0 O0 L0 c10
    obtain ⟨g0, hg0⟩ : ∃ g0, gg.set 0 (.cells [.bool true, .int .i64 nw, .csl 2 es.length 1]) = g0 := ⟨_, rfl⟩
    rw [hg0] at B0 P0 L1 c11 o3
    have A0 : Srv g0 0 2 ts nw (mixS nw V.get es 0) := B0
    have O0 := P0
    have L0 := L1
    have c10 := c11
    (have zx1 := @d1; have zx2 := @hnw; have zx3 := @oo; have zx4 := @hg0; have zx5 := @o3; have zx6 := @L0; all_goals (try ((with_reducible first | refine wp_id ?_ | refine does_id ?_ | refine ops_id ?_ | refine dw_id ?_); refine walk ?_; (repeat' (first | exact trivial | with_reducible refine And.intro ?_ ?_)); all_goals (repeat with_reducible first | refine ImpB.mk fun hb => ?_ | refine ImpK.mk fun hK => ?_ | refine ImpF.mk fun hF => ?_ | refine ImpQ.mk fun hp => ?_ | refine AllE.mk fun p => ?_ | refine AllR.mk fun rest => ?_ | refine AllK.mk fun K => ?_))); repeat' (with_reducible refine And.intro ?_ ?_))
    refine Wp.ghost (gh_adopt (s := 7) .tra trivial) ?_
    simp only [go_sem, decide_true, decide_false, Int.reduceToNat, Nat.min_eq_left, Nat.min_eq_right, Int.reducePow, Nat.reducePow, Int.reduceLE, Int.reduceLT, Int.reduceMul, Int.reduceAdd, Int.reduceSub, Int.reduceNeg, Bool.not_true, Bool.not_false, Bool.not_not, ↓reduceIte, Nat.reduceAdd, Nat.reduceSub, Nat.reduceMul, Nat.reduceEqDiff, reduceCtorEq, Nat.reduceLT, Nat.reduceLeDiff, Nat.reduceGT]
    any_goals ((try (refine w_seq fun K hK => ?_)); (try (refine w_block ?_)); refine w_loopG (A := Nat × List Ch) (CkI L ts nw V.get es (.pack (PW V))) (fun x => es.length - x.1) (fun x => [(38, .int .i64 x.1), (7, .sl L .tra 0 (trK nw V.get es x.1).length)]) (fun x => x.2 ++ [.rows .tra (trK nw V.get es x.1)]) ((0, g0)) (ws := ?ws1) (tk := ?tk1) ?hw1 ?ht1 ?hi ?h0 ?LH1; (case hw1 => simp only [go_sem, decide_true, decide_false, Int.reduceToNat, Nat.min_eq_left, Nat.min_eq_right, Int.reducePow, Nat.reducePow, Int.reduceLE, Int.reduceLT, Int.reduceMul, Int.reduceAdd, Int.reduceSub, Int.reduceNeg, Bool.not_true, Bool.not_false, Bool.not_not, ↓reduceIte, Nat.reduceAdd, Nat.reduceSub, Nat.reduceMul, Nat.reduceEqDiff, reduceCtorEq, Nat.reduceLT, Nat.reduceLeDiff, Nat.reduceGT]; exact rfl); (case ht1 => simp only [go_sem, decide_true, decide_false, Int.reduceToNat, Nat.min_eq_left, Nat.min_eq_right, Int.reducePow, Nat.reducePow, Int.reduceLE, Int.reduceLT, Int.reduceMul, Int.reduceAdd, Int.reduceSub, Int.reduceNeg, Bool.not_true, Bool.not_false, Bool.not_not, ↓reduceIte, Nat.reduceAdd, Nat.reduceSub, Nat.reduceMul, Nat.reduceEqDiff, reduceCtorEq, Nat.reduceLT, Nat.reduceLeDiff, Nat.reduceGT]; exact rfl); (case' LH1 => rintro x E t hx hE ht; simp only [go_sem] at ht; subst ht; simp only [go_sem]; try dsimp only at hx))
    case hi => exact ⟨Nat.zero_le _, A0, c10, O0, L0⟩
    case h0 =>
      show At 2 _ (g0 ++ [.rows .tra []]) _ _
      refine at_sameS (show 2 ≤ (g0 ++ [Ch.rows .tra []]).length by rw [List.length_append, L0]; omega) (O0.self.app fun c hc σ => by rw [List.mem_singleton.1 hc]; exact fitC_rows _ _ σ) fun σ hσ => ?_
      have hσ2 : ∀ t, t < L + 1 → σ[t]? = some t := fun z hz => hσ z (by rw [List.length_append, L0]; exact hz)
      have tk0 : (trK nw V.get es 0).length = 0 := rfl
      simp only [go_sem, L0, tk0]
      (repeat' (first | (refine And.intro ?_ ?_) | (with_reducible rfl) | exact hσ2 _ (by omega) | exact trivial))
    case LH1 =>
      obtain ⟨k, g⟩ := x
      obtain ⟨hk0, A, c1, O, hgl⟩ := hx
      dsimp only at hk0 A c1 O hgl ⊢
      have htl := trK_len (now := nw) (pv := V.get) (es := es) hk0
      have hml := mixS_len (now := nw) (pv := V.get) hk0
      by_cases hk : k < es.length
      · have hkd : decide ((k : Int) < (es.length : Int)) = true := decide_eq_true (by omega)
        have hkw : IntKind.i64.wrap ((k : Int) + 1) = ((k + 1 : Nat) : Int) := by rw [wrap_i64 _ (by omega) (by omega)]; omega
        have hkm : k < (mixS nw V.get es k).length := by omega
        obtain ⟨hat, hnext⟩ := mixS_at (now := nw) (pv := V.get) hk
        have hE1 := hEE k hk
        have hent := A.ent k hkm
        have hdl := A.dl k hkm
        have hap := A.apart hkm hkm
        have hfs := fun x => fdH_srv (x := x) A hkm
        have hlt := A.lt
        have hpk := ptA_at (l := ts) (i := k) (by rw [A.len]; exact hkm)
        have hpl : (ptA ts).length = es.length := by rw [ptA_len, A.len]; exact hml
        have hmem := ilv_mem (ts := ts) (i := k) (by rw [A.len]; exact hkm)
        rw [hat] at hent hdl hfs
        obtain ⟨p, hpe⟩ : ∃ p, (ts.getD k (0, 0)).1 = p := ⟨_, rfl⟩
        obtain ⟨d, hde⟩ : ∃ d, (ts.getD k (0, 0)).2 = d := ⟨_, rfl⟩
        rw [hpe, hde] at hent hap hfs hmem
        rw [hde] at hdl
        rw [hpe] at hpk
        have hpg : p < g.length := hth_lt (by rw [hent]; simp)
        have hp1 : 1 ≠ p := fun q => hv1 (List.mem_cons_of_mem _ (by rw [q]; exact hmem.1))
        have hd1 : 1 ≠ d := fun q => hv1 (List.mem_cons_of_mem _ (by rw [q]; exact hmem.2))
        have hnx := trK_next (now := nw) (pv := V.get) hk
        have hskip := mixS_skip (now := nw) (pv := V.get) hk
        obtain ⟨e, hee⟩ : ∃ e, eAtS es k = e := ⟨_, rfl⟩
        rw [hee] at hent hdl hfs hE1 hnext hnx hskip
        obtain ⟨T, hT⟩ : ∃ T, trK nw V.get es k = T := ⟨_, rfl⟩
        rw [hT] at hnx hskip htl ⊢
        have fA : ∀ l, hth (g ++ l) 0 = .cells [.bool true, .int .i64 nw, .csl 2 es.length 1] := fun l => by rw [(A.app l).o, hml]
        have fB : ∀ l, hth (g ++ l) 2 = .crow (ptA ts) := fun l => (A.app l).o1
        have fC : ∀ l, hth (g ++ l) 1 = .pack (PW V) := fun l => by rw [hth_app (hth_lt (by rw [c1]; simp)), c1]
        have fD : ∀ l, hth (g ++ l) p = .cells (enC e d) := fun l => by rw [hth_app hpg, hent]
        unfold enC at fD
        have o := And.intro fA (And.intro fB (And.intro fC fD))
        have t2 := symH g
        rw [hgl] at t2
        cases ho : e.off with
        | true =>
          rw [ho] at fD o
          obtain ⟨s1, s2⟩ := hskip (chkS_off ho)
          cases hv : V.get e.m.param with
          | none =>
            (have zx1 := @hkd; have zx2 := @hkw; have zx3 := @o; have zx4 := @hpk; have zx5 := @hpl; have zx6 := @hz8; have zx7 := @hz; all_goals (try ((with_reducible first | refine wp_id ?_ | refine does_id ?_ | refine ops_id ?_ | refine dw_id ?_); refine walk ?_; (repeat' (first | exact trivial | with_reducible refine And.intro ?_ ?_)); all_goals (repeat with_reducible first | refine ImpB.mk fun hb => ?_ | refine ImpK.mk fun hK => ?_ | refine ImpF.mk fun hF => ?_ | refine ImpQ.mk fun hp => ?_ | refine AllE.mk fun p => ?_ | refine AllR.mk fun rest => ?_ | refine AllK.mk fun K => ?_))); repeat' (with_reducible refine And.intro ?_ ?_))
            all_goals first | (show _ ≤ (_ : Int); omega) | (show _ < (_ : Int); omega) | (show _ ≤ (_ : Nat); omega) | (show _ < (_ : Nat); omega) | skip
            refine ⟨(k + 1, g), ⟨⟨(show k + 1 ≤ es.length by omega), by rw [s1]; exact A, c1, O, hgl⟩, (show es.length - (k + 1) < es.length - k by omega)⟩, ?_⟩
            dsimp only
            rw [s2]
            refine at_sameS (show 2 ≤ (g ++ [Ch.rows .tra T]).length by rw [List.length_append, hgl]; omega) (O.self.app fun c hc σ => by rw [List.mem_singleton.1 hc]; exact fitC_rows _ _ σ) fun σ hσ => ?_
            have hσ2 : ∀ t, t < L + 1 → σ[t]? = some t := fun z hz => hσ z (by rw [List.length_append, hgl]; exact hz)
            simp only [go_sem]
            (repeat' (first | (refine And.intro ?_ ?_) | (with_reducible rfl) | exact hσ2 _ (by omega) | exact trivial))
          | some v =>
            (have zx1 := @hkd; have zx2 := @hkw; have zx3 := @o; have zx4 := @hpk; have zx5 := @hpl; have zx6 := @hz8; have zx7 := @hz; all_goals (try ((with_reducible first | refine wp_id ?_ | refine does_id ?_ | refine ops_id ?_ | refine dw_id ?_); refine walk ?_; (repeat' (first | exact trivial | with_reducible refine And.intro ?_ ?_)); all_goals (repeat with_reducible first | refine ImpB.mk fun hb => ?_ | refine ImpK.mk fun hK => ?_ | refine ImpF.mk fun hF => ?_ | refine ImpQ.mk fun hp => ?_ | refine AllE.mk fun p => ?_ | refine AllR.mk fun rest => ?_ | refine AllK.mk fun K => ?_))); repeat' (with_reducible refine And.intro ?_ ?_))
            all_goals first | (show _ ≤ (_ : Int); omega) | (show _ < (_ : Int); omega) | (show _ ≤ (_ : Nat); omega) | (show _ < (_ : Nat); omega) | skip
            refine ⟨(k + 1, g), ⟨⟨(show k + 1 ≤ es.length by omega), by rw [s1]; exact A, c1, O, hgl⟩, (show es.length - (k + 1) < es.length - k by omega)⟩, ?_⟩
            dsimp only
            rw [s2]
            refine at_sameS (show 2 ≤ (g ++ [Ch.rows .tra T]).length by rw [List.length_append, hgl]; omega) (O.self.app fun c hc σ => by rw [List.mem_singleton.1 hc]; exact fitC_rows _ _ σ) fun σ hσ => ?_
            have hσ2 : ∀ t, t < L + 1 → σ[t]? = some t := fun z hz => hσ z (by rw [List.length_append, hgl]; exact hz)
            simp only [go_sem]
            (repeat' (first | (refine And.intro ?_ ?_) | (with_reducible rfl) | exact hσ2 _ (by omega) | exact trivial))
        | false =>
          rw [ho] at fD o
          cases hv : V.get e.m.param with
          | none =>
            obtain ⟨s1, s2⟩ := hskip (chkS_none hv)
            (have zx1 := @hkd; have zx2 := @hkw; have zx3 := @o; have zx4 := @hpk; have zx5 := @hpl; have zx6 := @hz8; have zx7 := @hz; all_goals (try ((with_reducible first | refine wp_id ?_ | refine does_id ?_ | refine ops_id ?_ | refine dw_id ?_); refine walk ?_; (repeat' (first | exact trivial | with_reducible refine And.intro ?_ ?_)); all_goals (repeat with_reducible first | refine ImpB.mk fun hb => ?_ | refine ImpK.mk fun hK => ?_ | refine ImpF.mk fun hF => ?_ | refine ImpQ.mk fun hp => ?_ | refine AllE.mk fun p => ?_ | refine AllR.mk fun rest => ?_ | refine AllK.mk fun K => ?_))); repeat' (with_reducible refine And.intro ?_ ?_))
            all_goals first | (show _ ≤ (_ : Int); omega) | (show _ < (_ : Int); omega) | (show _ ≤ (_ : Nat); omega) | (show _ < (_ : Nat); omega) | skip
            refine ⟨(k + 1, g), ⟨⟨(show k + 1 ≤ es.length by omega), by rw [s1]; exact A, c1, O, hgl⟩, (show es.length - (k + 1) < es.length - k by omega)⟩, ?_⟩
            dsimp only
            rw [s2]
            refine at_sameS (show 2 ≤ (g ++ [Ch.rows .tra T]).length by rw [List.length_append, hgl]; omega) (O.self.app fun c hc σ => by rw [List.mem_singleton.1 hc]; exact fitC_rows _ _ σ) fun σ hσ => ?_
            have hσ2 : ∀ t, t < L + 1 → σ[t]? = some t := fun z hz => hσ z (by rw [List.length_append, hgl]; exact hz)
            simp only [go_sem]
            (repeat' (first | (refine And.intro ?_ ?_) | (with_reducible rfl) | exact hσ2 _ (by omega) | exact trivial))
          | some v =>
            have hfd := chkS_feed (now := nw) hv ho
            rw [hfd] at hnext hnx
            obtain ⟨A2, L2, hoth⟩ := hfs v
            have O2 := fdH_ok (p := p) (d := d) (e := e) (x := v) O hdl.1
            have e1 : hth (g ++ [Ch.rows .tra T]) p = .cells (enC e d) ∧ (e.m.kind = 3 → hth (g ++ [Ch.rows .tra T]) d = .cells (dlV e) ∧ p ≠ d) := ⟨by rw [hth_app hpg, hent], fun q => ⟨by rw [hth_app hdl.1]; exact hdl.2 q, hap.2.1⟩⟩
            have e2 : VR v := VR_get hV hv
            have e3 := hE1.1
            have s1 := hE1.2
            have hF : fdH (g ++ [Ch.rows .tra T]) p d e v = fdH g p d e v ++ [Ch.rows .tra T] := fdH_app hpg hdl.1
            rw [← hnext] at A2
            have hA2 := A2.ent k (by rw [mixS_len (by omega)]; exact hk)
            have hat2 : eAtS (mixS nw V.get es (k + 1)) k = nxE e v := by
              rw [hnext]
              show ((mixS nw V.get es k).set k (nxE e v)).getD k Sm.zero = _
              rw [List.getD_eq_getElem?_getD, List.getElem?_set_self hkm]; rfl
            rw [hat2, hpe, hde] at hA2
            have hml2 := mixS_len (now := nw) (pv := V.get) (es := es) (k := k + 1) (by omega)
            have c12 : hth (fdH g p d e v) 1 = .pack (PW V) := by rw [hoth 1 hp1 hd1, c1]
            obtain ⟨g2, hg2⟩ : ∃ g2, fdH g p d e v = g2 := ⟨_, rfl⟩
            rw [hg2] at hF A2 L2 O2 hA2 c12
            have L3 : g2.length = L := by rw [L2]; exact hgl
            have gA : ∀ l, hth (g2 ++ l) 0 = .cells [.bool true, .int .i64 nw, .csl 2 es.length 1] := fun l => by rw [(A2.app l).o, hml2]
            have gD : ∀ l, hth (g2 ++ l) p = .cells (enC (nxE e v) d) := fun l => by rw [hth_app (hth_lt (by rw [hA2]; simp)), hA2]
            unfold enC at gD
            have gm : (nxE e v).m = e.m ∧ (nxE e v).off = false := ⟨rfl, ho⟩
            obtain ⟨y, hy⟩ : ∃ y, nxE e v = y := ⟨_, rfl⟩
            rw [hy] at gD gm hnx
            rw [gm.1, gm.2] at gD
            have o2 := And.intro gA gD
            have hLn : ¬ L = L + 1 := by omega
            have t3 := symH g2
            rw [L3] at t3
            cases hfb : (fdE e v).1 with
            | false =>
              rw [hfb] at hnx
              have e4 := And.intro hfb hF
              have hnx2 : trK nw V.get es (k + 1) = T := by rw [hnx]; simp
              (have zx1 := @hkd; have zx2 := @hkw; have zx3 := @o; have zx4 := @hpk; have zx5 := @hpl; have zx6 := @hz; have zx7 := @o2; have zx8 := @t2; have zx9 := @t3; have zx10 := @L3; have zx11 := @hLn; all_goals (try ((with_reducible first | refine wp_id ?_ | refine does_id ?_ | refine ops_id ?_ | refine dw_id ?_); refine walk ?_; (repeat' (first | exact trivial | with_reducible refine And.intro ?_ ?_)); all_goals (repeat with_reducible first | refine ImpB.mk fun hb => ?_ | refine ImpK.mk fun hK => ?_ | refine ImpF.mk fun hF => ?_ | refine ImpQ.mk fun hp => ?_ | refine AllE.mk fun p => ?_ | refine AllR.mk fun rest => ?_ | refine AllK.mk fun K => ?_))); repeat' (with_reducible refine And.intro ?_ ?_))
              all_goals first | (show _ ≤ (_ : Int); omega) | (show _ < (_ : Int); omega) | (show _ ≤ (_ : Nat); omega) | (show _ < (_ : Nat); omega) | skip
              refine ⟨(k + 1, g2), ⟨⟨(show k + 1 ≤ es.length by omega), A2, c12, O2, L3⟩, (show es.length - (k + 1) < es.length - k by omega)⟩, ?_⟩
              dsimp only
              rw [hnx2]
              refine at_sameS (show 2 ≤ (g2 ++ [Ch.rows .tra T]).length by rw [List.length_append, L3]; omega) (O2.self.app fun c hc σ => by rw [List.mem_singleton.1 hc]; exact fitC_rows _ _ σ) fun σ hσ => ?_
              have hσ2 : ∀ t, t < L + 1 → σ[t]? = some t := fun z hz => hσ z (by rw [List.length_append, L3]; exact hz)
              simp only [go_sem]
              (repeat' (first | (refine And.intro ?_ ?_) | (with_reducible rfl) | exact hσ2 _ (by omega) | exact trivial))
            | true =>
              rw [hfb] at hnx
              have e4 := And.intro hfb hF
              have hnx2 : trK nw V.get es (k + 1) = T ++ [⟨nw, e.m.id, e.st, y.st, v⟩] := by rw [hnx]; simp
              (have zx1 := @hkd; have zx2 := @hkw; have zx3 := @o; have zx4 := @hpk; have zx5 := @hpl; have zx6 := @hz; have zx7 := @o2; have zx8 := @t2; have zx9 := @t3; have zx10 := @L3; have zx11 := @hLn; all_goals (try ((with_reducible first | refine wp_id ?_ | refine does_id ?_ | refine ops_id ?_ | refine dw_id ?_); refine walk ?_; (repeat' (first | exact trivial | with_reducible refine And.intro ?_ ?_)); all_goals (repeat with_reducible first | refine ImpB.mk fun hb => ?_ | refine ImpK.mk fun hK => ?_ | refine ImpF.mk fun hF => ?_ | refine ImpQ.mk fun hp => ?_ | refine AllE.mk fun p => ?_ | refine AllR.mk fun rest => ?_ | refine AllK.mk fun K => ?_))); repeat' (with_reducible refine And.intro ?_ ?_))
              all_goals first | (show _ ≤ (_ : Int); omega) | (show _ < (_ : Int); omega) | (show _ ≤ (_ : Nat); omega) | (show _ < (_ : Nat); omega) | skip
              refine ⟨(k + 1, g2), ⟨⟨(show k + 1 ≤ es.length by omega), A2, c12, O2, L3⟩, (show es.length - (k + 1) < es.length - k by omega)⟩, ?_⟩
              dsimp only
              rw [hnx2]
              refine at_drop1 (j := 2) (show 2 ≤ g2.length by omega) O2.self rfl ?_
              rw [L3]
              simp only [go_sem]
              (repeat' (first | (refine And.intro ?_ ?_) | (with_reducible rfl) | exact rng_at2 (by omega) | exact rng_at0 | exact trivial))
      · have hkd : decide ((k : Int) < (es.length : Int)) = false := decide_eq_false (by omega)
        have hke : k = es.length := by omega
        subst hke
        rw [mixS_all] at A
        rw [trK_all]
        (have zx1 := @hkd; all_goals (try ((with_reducible first | refine wp_id ?_ | refine does_id ?_ | refine ops_id ?_ | refine dw_id ?_); refine walk ?_; (repeat' (first | exact trivial | with_reducible refine And.intro ?_ ?_)); all_goals (repeat with_reducible first | refine ImpB.mk fun hb => ?_ | refine ImpK.mk fun hK => ?_ | refine ImpF.mk fun hF => ?_ | refine ImpQ.mk fun hp => ?_ | refine AllE.mk fun p => ?_ | refine AllR.mk fun rest => ?_ | refine AllK.mk fun K => ?_))); repeat' (with_reducible refine And.intro ?_ ?_))
        rw [← hgl]
        exact end_srv2Ro A c1 (by simp) (fitC_pack _) hv1 rfl O
  · have d1 : decide (n ≤ 1099511627776) = false := decide_eq_false q1
    rw [if_neg q1] at hnw
    subst hnw
    refine w_body (rs := [.tmp 6]) (tm := [.ptr 0 0, .int .i64 n, .ptr 1 0, .any, .any, .any, .any, .any, .any, .any, .any, .any, .any, .any, .any, .any, .any, .any, .any, .any, .any, .any, .any, .any, .any, .any, .any, .any, .any, .any, .any, .any, .any, .any, .any, .any, .any, .any, .any, .any, .any, .any, .any, .any, .any, .any, .any, .any, .any, .any, .any, .any, .any, .any, .any, .any, .any, .any, .any, .any, .any, .any, .any, .any, .any, .any, .any, .any, .any, .any, .any, .any, .any, .any, .any, .any, .any, .any, .any, .any, .any, .any, .any, .any, .any, .any, .any, .any]) fn_12 rfl rfl rfl rfl fun R hR => ?_
    refine w_openSo hp ?_
    have A0 : Srv _ 0 2 _ now es := SVo_srv (now := now) (mid := [.pack (PW V)]) hp
    have O0 := SVo_ok (now := now) (es := es) (mid := [.pack (PW V)]) (fun c hc => by rw [List.mem_singleton.1 hc]; exact ⟨fitC_pack _, ns_pack _⟩)
    have L0 := SVo_len now es [.pack (PW V)]
    have c10 : hth (SVo now es [.pack (PW V)]) 1 = .pack (PW V) := rfl
    have hv1 : 1 ∉ 2 :: ilv (plc 3 es.length) := by
      rw [ilv_plc]
      intro q
      rcases List.mem_cons.1 q with q | q
      · omega
      · have := List.mem_range'_1.1 q; omega
    obtain ⟨L, hL⟩ : ∃ L, [Ch.pack (PW V)].length + 2 + 2 * es.length = L := ⟨_, rfl⟩
    rw [hL] at L0
    have hL3 : 3 ≤ L := by rw [← hL]; simp
    change Srv _ 0 2 (plc 3 es.length) now es at A0
    generalize plc 3 es.length = ts at A0 hv1
    generalize SVo now es [.pack (PW V)] = g0 at A0 O0 L0 c10 ⊢
    have oo : hth g0 0 = .cells [.bool true, .int .i64 now, .csl 2 es.length 1] := A0.o
    (have zx1 := @d1; have zx2 := @oo; have zx3 := @L0; all_goals (try ((with_reducible first | refine wp_id ?_ | refine does_id ?_ | refine ops_id ?_ | refine dw_id ?_); refine walk ?_; (repeat' (first | exact trivial | with_reducible refine And.intro ?_ ?_)); all_goals (repeat with_reducible first | refine ImpB.mk fun hb => ?_ | refine ImpK.mk fun hK => ?_ | refine ImpF.mk fun hF => ?_ | refine ImpQ.mk fun hp => ?_ | refine AllE.mk fun p => ?_ | refine AllR.mk fun rest => ?_ | refine AllK.mk fun K => ?_))); repeat' (with_reducible refine And.intro ?_ ?_))
    refine Wp.ghost (gh_adopt (s := 7) .tra trivial) ?_
    simp only [go_sem, decide_true, decide_false, Int.reduceToNat, Nat.min_eq_left, Nat.min_eq_right, Int.reducePow, Nat.reducePow, Int.reduceLE, Int.reduceLT, Int.reduceMul, Int.reduceAdd, Int.reduceSub, Int.reduceNeg, Bool.not_true, Bool.not_false, Bool.not_not, ↓reduceIte, Nat.reduceAdd, Nat.reduceSub, Nat.reduceMul, Nat.reduceEqDiff, reduceCtorEq, Nat.reduceLT, Nat.reduceLeDiff, Nat.reduceGT]
    any_goals ((try (refine w_seq fun K hK => ?_)); (try (refine w_block ?_)); refine w_loopG (A := Nat × List Ch) (CkI L ts now V.get es (.pack (PW V))) (fun x => es.length - x.1) (fun x => [(38, .int .i64 x.1), (7, .sl L .tra 0 (trK now V.get es x.1).length)]) (fun x => x.2 ++ [.rows .tra (trK now V.get es x.1)]) ((0, g0)) (ws := ?ws2) (tk := ?tk2) ?hw2 ?ht2 ?hi ?h0 ?LH2; (case hw2 => simp only [go_sem, decide_true, decide_false, Int.reduceToNat, Nat.min_eq_left, Nat.min_eq_right, Int.reducePow, Nat.reducePow, Int.reduceLE, Int.reduceLT, Int.reduceMul, Int.reduceAdd, Int.reduceSub, Int.reduceNeg, Bool.not_true, Bool.not_false, Bool.not_not, ↓reduceIte, Nat.reduceAdd, Nat.reduceSub, Nat.reduceMul, Nat.reduceEqDiff, reduceCtorEq, Nat.reduceLT, Nat.reduceLeDiff, Nat.reduceGT]; exact rfl); (case ht2 => simp only [go_sem, decide_true, decide_false, Int.reduceToNat, Nat.min_eq_left, Nat.min_eq_right, Int.reducePow, Nat.reducePow, Int.reduceLE, Int.reduceLT, Int.reduceMul, Int.reduceAdd, Int.reduceSub, Int.reduceNeg, Bool.not_true, Bool.not_false, Bool.not_not, ↓reduceIte, Nat.reduceAdd, Nat.reduceSub, Nat.reduceMul, Nat.reduceEqDiff, reduceCtorEq, Nat.reduceLT, Nat.reduceLeDiff, Nat.reduceGT]; exact rfl); (case' LH2 => rintro x E t hx hE ht; simp only [go_sem] at ht; subst ht; simp only [go_sem]; try dsimp only at hx))
    case hi => exact ⟨Nat.zero_le _, A0, c10, O0, L0⟩
    case h0 =>
      show At 2 _ (g0 ++ [.rows .tra []]) _ _
      refine at_sameS (show 2 ≤ (g0 ++ [Ch.rows .tra []]).length by rw [List.length_append, L0]; omega) (O0.self.app fun c hc σ => by rw [List.mem_singleton.1 hc]; exact fitC_rows _ _ σ) fun σ hσ => ?_
      have hσ2 : ∀ t, t < L + 1 → σ[t]? = some t := fun z hz => hσ z (by rw [List.length_append, L0]; exact hz)
      have tk0 : (trK now V.get es 0).length = 0 := rfl
      simp only [go_sem, L0, tk0]
      (repeat' (first | (refine And.intro ?_ ?_) | (with_reducible rfl) | exact hσ2 _ (by omega) | exact trivial))
    case LH2 =>
      obtain ⟨k, g⟩ := x
      obtain ⟨hk0, A, c1, O, hgl⟩ := hx
      dsimp only at hk0 A c1 O hgl ⊢
      have htl := trK_len (now := now) (pv := V.get) (es := es) hk0
      have hml := mixS_len (now := now) (pv := V.get) hk0
      by_cases hk : k < es.length
      · have hkd : decide ((k : Int) < (es.length : Int)) = true := decide_eq_true (by omega)
        have hkw : IntKind.i64.wrap ((k : Int) + 1) = ((k + 1 : Nat) : Int) := by rw [wrap_i64 _ (by omega) (by omega)]; omega
        have hkm : k < (mixS now V.get es k).length := by omega
        obtain ⟨hat, hnext⟩ := mixS_at (now := now) (pv := V.get) hk
        have hE1 := hEE k hk
        have hent := A.ent k hkm
        have hdl := A.dl k hkm
        have hap := A.apart hkm hkm
        have hfs := fun x => fdH_srv (x := x) A hkm
        have hlt := A.lt
        have hpk := ptA_at (l := ts) (i := k) (by rw [A.len]; exact hkm)
        have hpl : (ptA ts).length = es.length := by rw [ptA_len, A.len]; exact hml
        have hmem := ilv_mem (ts := ts) (i := k) (by rw [A.len]; exact hkm)
        rw [hat] at hent hdl hfs
        obtain ⟨p, hpe⟩ : ∃ p, (ts.getD k (0, 0)).1 = p := ⟨_, rfl⟩
        obtain ⟨d, hde⟩ : ∃ d, (ts.getD k (0, 0)).2 = d := ⟨_, rfl⟩
        rw [hpe, hde] at hent hap hfs hmem
        rw [hde] at hdl
        rw [hpe] at hpk
        have hpg : p < g.length := hth_lt (by rw [hent]; simp)
        have hp1 : 1 ≠ p := fun q => hv1 (List.mem_cons_of_mem _ (by rw [q]; exact hmem.1))
        have hd1 : 1 ≠ d := fun q => hv1 (List.mem_cons_of_mem _ (by rw [q]; exact hmem.2))
        have hnx := trK_next (now := now) (pv := V.get) hk
        have hskip := mixS_skip (now := now) (pv := V.get) hk
        obtain ⟨e, hee⟩ : ∃ e, eAtS es k = e := ⟨_, rfl⟩
        rw [hee] at hent hdl hfs hE1 hnext hnx hskip
        obtain ⟨T, hT⟩ : ∃ T, trK now V.get es k = T := ⟨_, rfl⟩
        rw [hT] at hnx hskip htl ⊢
        have fA : ∀ l, hth (g ++ l) 0 = .cells [.bool true, .int .i64 now, .csl 2 es.length 1] := fun l => by rw [(A.app l).o, hml]
        have fB : ∀ l, hth (g ++ l) 2 = .crow (ptA ts) := fun l => (A.app l).o1
        have fC : ∀ l, hth (g ++ l) 1 = .pack (PW V) := fun l => by rw [hth_app (hth_lt (by rw [c1]; simp)), c1]
        have fD : ∀ l, hth (g ++ l) p = .cells (enC e d) := fun l => by rw [hth_app hpg, hent]
        unfold enC at fD
        have o := And.intro fA (And.intro fB (And.intro fC fD))
        have t2 := symH g
        rw [hgl] at t2
        cases ho : e.off with
        | true =>
          rw [ho] at fD o
          obtain ⟨s1, s2⟩ := hskip (chkS_off ho)
          cases hv : V.get e.m.param with
          | none =>
            (have zx1 := @hkd; have zx2 := @hkw; have zx3 := @o; have zx4 := @hpk; have zx5 := @hpl; have zx6 := @hz8; have zx7 := @hz; all_goals (try ((with_reducible first | refine wp_id ?_ | refine does_id ?_ | refine ops_id ?_ | refine dw_id ?_); refine walk ?_; (repeat' (first | exact trivial | with_reducible refine And.intro ?_ ?_)); all_goals (repeat with_reducible first | refine ImpB.mk fun hb => ?_ | refine ImpK.mk fun hK => ?_ | refine ImpF.mk fun hF => ?_ | refine ImpQ.mk fun hp => ?_ | refine AllE.mk fun p => ?_ | refine AllR.mk fun rest => ?_ | refine AllK.mk fun K => ?_))); repeat' (with_reducible refine And.intro ?_ ?_))
            all_goals first | (show _ ≤ (_ : Int); omega) | (show _ < (_ : Int); omega) | (show _ ≤ (_ : Nat); omega) | (show _ < (_ : Nat); omega) | skip
            refine ⟨(k + 1, g), ⟨⟨(show k + 1 ≤ es.length by omega), by rw [s1]; exact A, c1, O, hgl⟩, (show es.length - (k + 1) < es.length - k by omega)⟩, ?_⟩
            dsimp only
            rw [s2]
            refine at_sameS (show 2 ≤ (g ++ [Ch.rows .tra T]).length by rw [List.length_append, hgl]; omega) (O.self.app fun c hc σ => by rw [List.mem_singleton.1 hc]; exact fitC_rows _ _ σ) fun σ hσ => ?_
            have hσ2 : ∀ t, t < L + 1 → σ[t]? = some t := fun z hz => hσ z (by rw [List.length_append, hgl]; exact hz)
            simp only [go_sem]
            (repeat' (first | (refine And.intro ?_ ?_) | (with_reducible rfl) | exact hσ2 _ (by omega) | exact trivial))
          | some v =>
            (have zx1 := @hkd; have zx2 := @hkw; have zx3 := @o; have zx4 := @hpk; have zx5 := @hpl; have zx6 := @hz8; have zx7 := @hz; all_goals (try ((with_reducible first | refine wp_id ?_ | refine does_id ?_ | refine ops_id ?_ | refine dw_id ?_); refine walk ?_; (repeat' (first | exact trivial | with_reducible refine And.intro ?_ ?_)); all_goals (repeat with_reducible first | refine ImpB.mk fun hb => ?_ | refine ImpK.mk fun hK => ?_ | refine ImpF.mk fun hF => ?_ | refine ImpQ.mk fun hp => ?_ | refine AllE.mk fun p => ?_ | refine AllR.mk fun rest => ?_ | refine AllK.mk fun K => ?_))); repeat' (with_reducible refine And.intro ?_ ?_))
            all_goals first | (show _ ≤ (_ : Int); omega) | (show _ < (_ : Int); omega) | (show _ ≤ (_ : Nat); omega) | (show _ < (_ : Nat); omega) | skip
            refine ⟨(k + 1, g), ⟨⟨(show k + 1 ≤ es.length by omega), by rw [s1]; exact A, c1, O, hgl⟩, (show es.length - (k + 1) < es.length - k by omega)⟩, ?_⟩
            dsimp only
            rw [s2]
            refine at_sameS (show 2 ≤ (g ++ [Ch.rows .tra T]).length by rw [List.length_append, hgl]; omega) (O.self.app fun c hc σ => by rw [List.mem_singleton.1 hc]; exact fitC_rows _ _ σ) fun σ hσ => ?_
            have hσ2 : ∀ t, t < L + 1 → σ[t]? = some t := fun z hz => hσ z (by rw [List.length_append, hgl]; exact hz)
            simp only [go_sem]
            (repeat' (first | (refine And.intro ?_ ?_) | (with_reducible rfl) | exact hσ2 _ (by omega) | exact trivial))
        | false =>
          rw [ho] at fD o
          cases hv : V.get e.m.param with
          | none =>
            obtain ⟨s1, s2⟩ := hskip (chkS_none hv)
            (have zx1 := @hkd; have zx2 := @hkw; have zx3 := @o; have zx4 := @hpk; have zx5 := @hpl; have zx6 := @hz8; have zx7 := @hz; all_goals (try ((with_reducible first | refine wp_id ?_ | refine does_id ?_ | refine ops_id ?_ | refine dw_id ?_); refine walk ?_; (repeat' (first | exact trivial | with_reducible refine And.intro ?_ ?_)); all_goals (repeat with_reducible first | refine ImpB.mk fun hb => ?_ | refine ImpK.mk fun hK => ?_ | refine ImpF.mk fun hF => ?_ | refine ImpQ.mk fun hp => ?_ | refine AllE.mk fun p => ?_ | refine AllR.mk fun rest => ?_ | refine AllK.mk fun K => ?_))); repeat' (with_reducible refine And.intro ?_ ?_))
            all_goals first | (show _ ≤ (_ : Int); omega) | (show _ < (_ : Int); omega) | (show _ ≤ (_ : Nat); omega) | (show _ < (_ : Nat); omega) | skip
            refine ⟨(k + 1, g), ⟨⟨(show k + 1 ≤ es.length by omega), by rw [s1]; exact A, c1, O, hgl⟩, (show es.length - (k + 1) < es.length - k by omega)⟩, ?_⟩
            dsimp only
            rw [s2]
            refine at_sameS (show 2 ≤ (g ++ [Ch.rows .tra T]).length by rw [List.length_append, hgl]; omega) (O.self.app fun c hc σ => by rw [List.mem_singleton.1 hc]; exact fitC_rows _ _ σ) fun σ hσ => ?_
            have hσ2 : ∀ t, t < L + 1 → σ[t]? = some t := fun z hz => hσ z (by rw [List.length_append, hgl]; exact hz)
            simp only [go_sem]
            (repeat' (first | (refine And.intro ?_ ?_) | (with_reducible rfl) | exact hσ2 _ (by omega) | exact trivial))
          | some v =>
            have hfd := chkS_feed (now := now) hv ho
            rw [hfd] at hnext hnx
            obtain ⟨A2, L2, hoth⟩ := hfs v
            have O2 := fdH_ok (p := p) (d := d) (e := e) (x := v) O hdl.1
            have e1 : hth (g ++ [Ch.rows .tra T]) p = .cells (enC e d) ∧ (e.m.kind = 3 → hth (g ++ [Ch.rows .tra T]) d = .cells (dlV e) ∧ p ≠ d) := ⟨by rw [hth_app hpg, hent], fun q => ⟨by rw [hth_app hdl.1]; exact hdl.2 q, hap.2.1⟩⟩
            have e2 : VR v := VR_get hV hv
            have e3 := hE1.1
            have s1 := hE1.2
            have hF : fdH (g ++ [Ch.rows .tra T]) p d e v = fdH g p d e v ++ [Ch.rows .tra T] := fdH_app hpg hdl.1
            rw [← hnext] at A2
            have hA2 := A2.ent k (by rw [mixS_len (by omega)]; exact hk)
            have hat2 : eAtS (mixS now V.get es (k + 1)) k = nxE e v := by
              rw [hnext]
              show ((mixS now V.get es k).set k (nxE e v)).getD k Sm.zero = _
              rw [List.getD_eq_getElem?_getD, List.getElem?_set_self hkm]; rfl
            rw [hat2, hpe, hde] at hA2
            have hml2 := mixS_len (now := now) (pv := V.get) (es := es) (k := k + 1) (by omega)
            have c12 : hth (fdH g p d e v) 1 = .pack (PW V) := by rw [hoth 1 hp1 hd1, c1]
            obtain ⟨g2, hg2⟩ : ∃ g2, fdH g p d e v = g2 := ⟨_, rfl⟩
            rw [hg2] at hF A2 L2 O2 hA2 c12
            have L3 : g2.length = L := by rw [L2]; exact hgl
            have gA : ∀ l, hth (g2 ++ l) 0 = .cells [.bool true, .int .i64 now, .csl 2 es.length 1] := fun l => by rw [(A2.app l).o, hml2]
            have gD : ∀ l, hth (g2 ++ l) p = .cells (enC (nxE e v) d) := fun l => by rw [hth_app (hth_lt (by rw [hA2]; simp)), hA2]
            unfold enC at gD
            have gm : (nxE e v).m = e.m ∧ (nxE e v).off = false := ⟨rfl, ho⟩
            obtain ⟨y, hy⟩ : ∃ y, nxE e v = y := ⟨_, rfl⟩
            rw [hy] at gD gm hnx
            rw [gm.1, gm.2] at gD
            have o2 := And.intro gA gD
            have hLn : ¬ L = L + 1 := by omega
            have t3 := symH g2
            rw [L3] at t3
            cases hfb : (fdE e v).1 with
            | false =>
              rw [hfb] at hnx
              have e4 := And.intro hfb hF
              have hnx2 : trK now V.get es (k + 1) = T := by rw [hnx]; simp
              (have zx1 := @hkd; have zx2 := @hkw; have zx3 := @o; have zx4 := @hpk; have zx5 := @hpl; have zx6 := @hz; have zx7 := @o2; have zx8 := @t2; have zx9 := @t3; have zx10 := @L3; have zx11 := @hLn; all_goals (try ((with_reducible first | refine wp_id ?_ | refine does_id ?_ | refine ops_id ?_ | refine dw_id ?_); refine walk ?_; (repeat' (first | exact trivial | with_reducible refine And.intro ?_ ?_)); all_goals (repeat with_reducible first | refine ImpB.mk fun hb => ?_ | refine ImpK.mk fun hK => ?_ | refine ImpF.mk fun hF => ?_ | refine ImpQ.mk fun hp => ?_ | refine AllE.mk fun p => ?_ | refine AllR.mk fun rest => ?_ | refine AllK.mk fun K => ?_))); repeat' (with_reducible refine And.intro ?_ ?_))
              all_goals first | (show _ ≤ (_ : Int); omega) | (show _ < (_ : Int); omega) | (show _ ≤ (_ : Nat); omega) | (show _ < (_ : Nat); omega) | skip
              refine ⟨(k + 1, g2), ⟨⟨(show k + 1 ≤ es.length by omega), A2, c12, O2, L3⟩, (show es.length - (k + 1) < es.length - k by omega)⟩, ?_⟩
              dsimp only
              rw [hnx2]
              refine at_sameS (show 2 ≤ (g2 ++ [Ch.rows .tra T]).length by rw [List.length_append, L3]; omega) (O2.self.app fun c hc σ => by rw [List.mem_singleton.1 hc]; exact fitC_rows _ _ σ) fun σ hσ => ?_
              have hσ2 : ∀ t, t < L + 1 → σ[t]? = some t := fun z hz => hσ z (by rw [List.length_append, L3]; exact hz)
              simp only [go_sem]
              (repeat' (first | (refine And.intro ?_ ?_) | (with_reducible rfl) | exact hσ2 _ (by omega) | exact trivial))
            | true =>
              rw [hfb] at hnx
              have e4 := And.intro hfb hF
              have hnx2 : trK now V.get es (k + 1) = T ++ [⟨now, e.m.id, e.st, y.st, v⟩] := by rw [hnx]; simp
              (have zx1 := @hkd; have zx2 := @hkw; have zx3 := @o; have zx4 := @hpk; have zx5 := @hpl; have zx6 := @hz; have zx7 := @o2; have zx8 := @t2; have zx9 := @t3; have zx10 := @L3; have zx11 := @hLn; all_goals (try ((with_reducible first | refine wp_id ?_ | refine does_id ?_ | refine ops_id ?_ | refine dw_id ?_); refine walk ?_; (repeat' (first | exact trivial | with_reducible refine And.intro ?_ ?_)); all_goals (repeat with_reducible first | refine ImpB.mk fun hb => ?_ | refine ImpK.mk fun hK => ?_ | refine ImpF.mk fun hF => ?_ | refine ImpQ.mk fun hp => ?_ | refine AllE.mk fun p => ?_ | refine AllR.mk fun rest => ?_ | refine AllK.mk fun K => ?_))); repeat' (with_reducible refine And.intro ?_ ?_))
              all_goals first | (show _ ≤ (_ : Int); omega) | (show _ < (_ : Int); omega) | (show _ ≤ (_ : Nat); omega) | (show _ < (_ : Nat); omega) | skip
              refine ⟨(k + 1, g2), ⟨⟨(show k + 1 ≤ es.length by omega), A2, c12, O2, L3⟩, (show es.length - (k + 1) < es.length - k by omega)⟩, ?_⟩
              dsimp only
              rw [hnx2]
              refine at_drop1 (j := 2) (show 2 ≤ g2.length by omega) O2.self rfl ?_
              rw [L3]
              simp only [go_sem]
              (repeat' (first | (refine And.intro ?_ ?_) | (with_reducible rfl) | exact rng_at2 (by omega) | exact rng_at0 | exact trivial))
      · have hkd : decide ((k : Int) < (es.length : Int)) = false := decide_eq_false (by omega)
        have hke : k = es.length := by omega
        subst hke
        rw [mixS_all] at A
        rw [trK_all]
        (have zx1 := @hkd; all_goals (try ((with_reducible first | refine wp_id ?_ | refine does_id ?_ | refine ops_id ?_ | refine dw_id ?_); refine walk ?_; (repeat' (first | exact trivial | with_reducible refine And.intro ?_ ?_)); all_goals (repeat with_reducible first | refine ImpB.mk fun hb => ?_ | refine ImpK.mk fun hK => ?_ | refine ImpF.mk fun hF => ?_ | refine ImpQ.mk fun hp => ?_ | refine AllE.mk fun p => ?_ | refine AllR.mk fun rest => ?_ | refine AllK.mk fun K => ?_))); repeat' (with_reducible refine And.intro ?_ ?_))
        rw [← hgl]
        exact end_srv2Ro A c1 (by simp) (fitC_pack _) hv1 rfl O
end Go.V

set_option maxRecDepth 100000
set_option maxHeartbeats 8000000
namespace Go.V
open Go.Proofs
attribute [-go_sem] SL PL
theorem b_find0 {n0 : Nat} {K : KT} {now i : Int} (H : K (.lit (.pointer none)) [.cells [.bool true, .int .i64 now, .lit (.slice none 0 0)], .cells [.int .i64 i]]) : DoesK Try.prog n0 31 [.ptr 0 0, .int .i64 i] [.cells [.bool true, .int .i64 now, .lit (.slice none 0 0)]] K := by
  have hix : ∀ {h : List Ch} {K : KT} {q : Nat}, K (.int .i64 (-1)) h → Does Try.prog 43 [.lit (.slice none 0 0), .fn 44 [.ptr q 0]] h K := fun {h K q} H => by
    refine Does.of_K ?_
    refine w_body (rs := [.tmp 4]) (tm := [.lit (.slice none 0 0), .fn 44 [.ptr q 0], .any, .any, .any, .any, .any, .any, .any, .any, .any, .any, .any, .any, .any, .any, .any, .any, .any]) fn_43 rfl rfl rfl rfl fun R hR => ?_
    (all_goals (try ((with_reducible first | refine wp_id ?_ | refine does_id ?_ | refine ops_id ?_ | refine dw_id ?_); refine walk ?_; (repeat' (first | exact trivial | with_reducible refine And.intro ?_ ?_)); all_goals (repeat with_reducible first | refine ImpB.mk fun hb => ?_ | refine ImpK.mk fun hK => ?_ | refine ImpF.mk fun hF => ?_ | refine ImpQ.mk fun hp => ?_ | refine AllE.mk fun p => ?_ | refine AllR.mk fun rest => ?_ | refine AllK.mk fun K => ?_))); repeat' (with_reducible refine And.intro ?_ ?_))
    any_goals ((try (refine w_seq fun K hK => ?_)); (try (refine w_block ?_)); refine w_loopS (A := Nat) (fun k => k = 0) (fun k => 0) (fun k => [(8, .int .i64 k)]) (0) (ws := ?ws3) (tk := ?tk3) ?hw3 ?ht3 ?hi ?h0 ?LH3; (case hw3 => simp only [go_sem, decide_true, decide_false, Int.reduceToNat, Nat.min_eq_left, Nat.min_eq_right, Int.reducePow, Nat.reducePow, Int.reduceLE, Int.reduceLT, Int.reduceMul, Int.reduceAdd, Int.reduceSub, Int.reduceNeg, Bool.not_true, Bool.not_false, Bool.not_not, ↓reduceIte, Nat.reduceAdd, Nat.reduceSub, Nat.reduceMul, Nat.reduceEqDiff, reduceCtorEq, Nat.reduceLT, Nat.reduceLeDiff, Nat.reduceGT]; exact rfl); (case ht3 => simp only [go_sem, decide_true, decide_false, Int.reduceToNat, Nat.min_eq_left, Nat.min_eq_right, Int.reducePow, Nat.reducePow, Int.reduceLE, Int.reduceLT, Int.reduceMul, Int.reduceAdd, Int.reduceSub, Int.reduceNeg, Bool.not_true, Bool.not_false, Bool.not_not, ↓reduceIte, Nat.reduceAdd, Nat.reduceSub, Nat.reduceMul, Nat.reduceEqDiff, reduceCtorEq, Nat.reduceLT, Nat.reduceLeDiff, Nat.reduceGT]; exact rfl); (case' LH3 => rintro k E t hx hE ht; simp only [go_sem] at ht; subst ht; simp only [go_sem]; try dsimp only at hx))
    case hi => exact rfl
    case h0 => (focus (simp only [go_sem]; (repeat' (first | exact sub_nil | refine sub_cons ?_ ?_)); (any_goals (first | exact .inl rfl | exact .inr rfl)); (try any_goals (refine .inr ?_)); (try any_goals (refine congrArg _ ?_))))
    case LH3 =>
      obtain rfl : k = 0 := hx
      have hkd : decide (((0 : Nat) : Int) < 0) = false := by decide
      (have zx1 := @hkd; all_goals (try ((with_reducible first | refine wp_id ?_ | refine does_id ?_ | refine ops_id ?_ | refine dw_id ?_); refine walk ?_; (repeat' (first | exact trivial | with_reducible refine And.intro ?_ ?_)); all_goals (repeat with_reducible first | refine ImpB.mk fun hb => ?_ | refine ImpK.mk fun hK => ?_ | refine ImpF.mk fun hF => ?_ | refine ImpQ.mk fun hp => ?_ | refine AllE.mk fun p => ?_ | refine AllR.mk fun rest => ?_ | refine AllK.mk fun K => ?_))); repeat' (with_reducible refine And.intro ?_ ?_))
      exact H
  have inst := Ctr.mk (i := 2) (g := 43) @hix
  refine w_body (rs := [.tmp 4]) (tm := [.ptr 0 0, .int .i64 i, .any, .any, .any, .any, .any, .any, .any, .any, .any, .any, .any, .any, .any, .any, .any, .any, .any, .any, .any, .any, .any, .any, .any, .any, .any, .any, .any, .any]) fn_31 rfl rfl rfl rfl fun R hR => ?_
  (all_goals (try ((with_reducible first | refine wp_id ?_ | refine does_id ?_ | refine ops_id ?_ | refine dw_id ?_); refine walk ?_; (repeat' (first | exact trivial | with_reducible refine And.intro ?_ ?_)); all_goals (repeat with_reducible first | refine ImpB.mk fun hb => ?_ | refine ImpK.mk fun hK => ?_ | refine ImpF.mk fun hF => ?_ | refine ImpQ.mk fun hp => ?_ | refine AllE.mk fun p => ?_ | refine AllR.mk fun rest => ?_ | refine AllK.mk fun K => ?_))); repeat' (with_reducible refine And.intro ?_ ?_))
  exact H
theorem c_find0 {K : KT} {now i : Int} (H : K (.lit (.pointer none)) [.cells [.bool true, .int .i64 now, .lit (.slice none 0 0)], .cells [.int .i64 i]]) : Does Try.prog 31 [.ptr 0 0, .int .i64 i] [.cells [.bool true, .int .i64 now, .lit (.slice none 0 0)]] K := Does.of_K (b_find0 H)
abbrev i_find0 := Ctr.mk (i := 4) (g := 31) @c_find0
attribute [instance] i_find0
theorem b_ena0 (now id : Int) (on : Bool) : DoesK Try.prog 1 14 [.ptr 0 0, .int .i64 id, .bool on] [.pack (SV now [])] (EndF 1 (.int .i64 8) ([.pack (SV now [])] ++ [])) := by
  refine DoesK.close ?_
  refine w_body (rs := [.tmp 6]) (tm := [.ptr 0 0, .int .i64 id, .bool on, .any, .any, .any, .any, .any, .any, .any, .any, .any, .any, .any, .any, .any, .any, .any, .any, .any, .any, .any, .any, .any, .any, .any, .any, .any, .any, .any, .any, .any, .any, .any, .any, .any, .any, .any, .any, .any, .any, .any, .any, .any, .any, .any, .any, .any]) fn_14 rfl rfl rfl rfl fun R hR => ?_
  rw [show SV now [] = [.cells [.bool true, .int .i64 now, .lit (.slice none 0 0)]] from rfl]
  refine w_open 0 rfl rfl ?_
  simp only [go_sem, decide_true, decide_false, Int.reduceToNat, Nat.min_eq_left, Nat.min_eq_right, Int.reducePow, Nat.reducePow, Int.reduceLE, Int.reduceLT, Int.reduceMul, Int.reduceAdd, Int.reduceSub, Int.reduceNeg, Bool.not_true, Bool.not_false, Bool.not_not, ↓reduceIte, Nat.reduceAdd, Nat.reduceSub, Nat.reduceMul, Nat.reduceEqDiff, reduceCtorEq, Nat.reduceLT, Nat.reduceLeDiff, Nat.reduceGT]
  (all_goals (try ((with_reducible first | refine wp_id ?_ | refine does_id ?_ | refine ops_id ?_ | refine dw_id ?_); refine walk ?_; (repeat' (first | exact trivial | with_reducible refine And.intro ?_ ?_)); all_goals (repeat with_reducible first | refine ImpB.mk fun hb => ?_ | refine ImpK.mk fun hK => ?_ | refine ImpF.mk fun hF => ?_ | refine ImpQ.mk fun hp => ?_ | refine AllE.mk fun p => ?_ | refine AllR.mk fun rest => ?_ | refine AllK.mk fun K => ?_))); repeat' (with_reducible refine And.intro ?_ ?_))
  (focus (refine ⟨_, _, gh_close (t := 0) (ts := []) (l := SV now []) ⟨⟨_, _, rfl⟩, ?_, by simp⟩, [0], rfl, ?_⟩; all_goals (refine fitq ?_ ?_ ?_ <;> try exact trivial); (try any_goals (refine ⟨?_, ?_⟩)); (try any_goals (with_reducible rfl))))
  all_goals (repeat' (first | (refine And.intro ?_ ?_) | rfl))
theorem b_chk0 (now n : Int) (V : Pv) : DoesK Try.prog 2 12 [.ptr 0 0, .int .i64 n, .ptr 1 0] [.pack (SV now []), .pack (PW V)]
    (EndF 2 (.ro .tra []) ([.pack (SV (nowQ now n) []), .pack (PW V)] ++ [])) := by
  refine DoesK.close ?_
  obtain ⟨nw, hnw⟩ : ∃ z, nowQ now n = z := ⟨_, rfl⟩
  rw [hnw]
  unfold nowQ at hnw
  by_cases q1 : n ≤ 1099511627776
  · have d1 : decide (n ≤ 1099511627776) = true := decide_eq_true q1
    rw [if_pos q1] at hnw
    refine w_body (rs := [.tmp 6]) (tm := [.ptr 0 0, .int .i64 n, .ptr 1 0, .any, .any, .any, .any, .any, .any, .any, .any, .any, .any, .any, .any, .any, .any, .any, .any, .any, .any, .any, .any, .any, .any, .any, .any, .any, .any, .any, .any, .any, .any, .any, .any, .any, .any, .any, .any, .any, .any, .any, .any, .any, .any, .any, .any, .any, .any, .any, .any, .any, .any, .any, .any, .any, .any, .any, .any, .any, .any, .any, .any, .any, .any, .any, .any, .any, .any, .any, .any, .any, .any, .any, .any, .any, .any, .any, .any, .any, .any, .any, .any, .any, .any, .any, .any, .any]) fn_12 rfl rfl rfl rfl fun R hR => ?_
    rw [show SV now [] = [.cells [.bool true, .int .i64 now, .lit (.slice none 0 0)]] from rfl]
    refine w_open 0 rfl rfl ?_
    simp only [go_sem, decide_true, decide_false, Int.reduceToNat, Nat.min_eq_left, Nat.min_eq_right, Int.reducePow, Nat.reducePow, Int.reduceLE, Int.reduceLT, Int.reduceMul, Int.reduceAdd, Int.reduceSub, Int.reduceNeg, Bool.not_true, Bool.not_false, Bool.not_not, ↓reduceIte, Nat.reduceAdd, Nat.reduceSub, Nat.reduceMul, Nat.reduceEqDiff, reduceCtorEq, Nat.reduceLT, Nat.reduceLeDiff, Nat.reduceGT]
    (have zx1 := @d1; have zx2 := @hnw; all_goals (try ((with_reducible first | refine wp_id ?_ | refine does_id ?_ | refine ops_id ?_ | refine dw_id ?_); refine walk ?_; (repeat' (first | exact trivial | with_reducible refine And.intro ?_ ?_)); all_goals (repeat with_reducible first | refine ImpB.mk fun hb => ?_ | refine ImpK.mk fun hK => ?_ | refine ImpF.mk fun hF => ?_ | refine ImpQ.mk fun hp => ?_ | refine AllE.mk fun p => ?_ | refine AllR.mk fun rest => ?_ | refine AllK.mk fun K => ?_))); repeat' (with_reducible refine And.intro ?_ ?_))
    any_goals ((try (refine w_seq fun K hK => ?_)); (try (refine w_block ?_)); refine w_loop (A := Nat) (fun k => k = 0) (fun k => 0) (fun k => [(38, .int .i64 k), (7, .lit (.slice none 0 0))]) (fun k => []) (0) (ws := ?ws1) (tk := ?tk1) ?hw1 ?ht1 ?hi ?h0 ?LH1; (case hw1 => simp only [go_sem, decide_true, decide_false, Int.reduceToNat, Nat.min_eq_left, Nat.min_eq_right, Int.reducePow, Nat.reducePow, Int.reduceLE, Int.reduceLT, Int.reduceMul, Int.reduceAdd, Int.reduceSub, Int.reduceNeg, Bool.not_true, Bool.not_false, Bool.not_not, ↓reduceIte, Nat.reduceAdd, Nat.reduceSub, Nat.reduceMul, Nat.reduceEqDiff, reduceCtorEq, Nat.reduceLT, Nat.reduceLeDiff, Nat.reduceGT]; exact rfl); (case ht1 => simp only [go_sem, decide_true, decide_false, Int.reduceToNat, Nat.min_eq_left, Nat.min_eq_right, Int.reducePow, Nat.reducePow, Int.reduceLE, Int.reduceLT, Int.reduceMul, Int.reduceAdd, Int.reduceSub, Int.reduceNeg, Bool.not_true, Bool.not_false, Bool.not_not, ↓reduceIte, Nat.reduceAdd, Nat.reduceSub, Nat.reduceMul, Nat.reduceEqDiff, reduceCtorEq, Nat.reduceLT, Nat.reduceLeDiff, Nat.reduceGT]; exact rfl); (case' LH1 => rintro k E t hx hE ht; simp only [go_sem] at ht; subst ht; simp only [go_sem]; try dsimp only at hx))
    case hi => exact rfl
    case h0 =>
      (focus (refine ⟨_, _, Gh.refl, [0, 1], rfl, ?_⟩; (refine fitq ?_ ?_ ?_ <;> try exact trivial); (try any_goals (refine ⟨?_, ?_⟩)); (try any_goals (with_reducible rfl))))
      all_goals (repeat' (first | (refine And.intro ?_ ?_) | rfl))
    case LH1 =>
      obtain rfl : k = 0 := hx
      have hkd : decide (((0 : Nat) : Int) < 0) = false := by decide
      (have zx1 := @hkd; all_goals (try ((with_reducible first | refine wp_id ?_ | refine does_id ?_ | refine ops_id ?_ | refine dw_id ?_); refine walk ?_; (repeat' (first | exact trivial | with_reducible refine And.intro ?_ ?_)); all_goals (repeat with_reducible first | refine ImpB.mk fun hb => ?_ | refine ImpK.mk fun hK => ?_ | refine ImpF.mk fun hF => ?_ | refine ImpQ.mk fun hp => ?_ | refine AllE.mk fun p => ?_ | refine AllR.mk fun rest => ?_ | refine AllK.mk fun K => ?_))); repeat' (with_reducible refine And.intro ?_ ?_))
      refine ⟨_, _, Gh.trans (gh_nil (s := 0) .tra trivial) (gh_close (t := 0) (ts := []) (l := SV nw []) ⟨⟨_, _, rfl⟩, ?fca, by simp⟩), [0, 1], rfl, ?fta⟩
      case' fta => (refine fitq ?_ ?_ ?_ <;> try exact trivial)
      case' fca => (try simp only [go_sem, decide_true, decide_false, Int.reduceToNat, Nat.min_eq_left, Nat.min_eq_right, Int.reducePow, Nat.reducePow, Int.reduceLE, Int.reduceLT, Int.reduceMul, Int.reduceAdd, Int.reduceSub, Int.reduceNeg, Bool.not_true, Bool.not_false, Bool.not_not, ↓reduceIte, Nat.reduceAdd, Nat.reduceSub, Nat.reduceMul, Nat.reduceEqDiff, reduceCtorEq, Nat.reduceLT, Nat.reduceLeDiff, Nat.reduceGT])
      all_goals (repeat' (first | (refine And.intro ?_ ?_) | rfl | exact trivial | (simp; done)))
  · have d1 : decide (n ≤ 1099511627776) = false := decide_eq_false q1
    rw [if_neg q1] at hnw
    subst hnw
    refine w_body (rs := [.tmp 6]) (tm := [.ptr 0 0, .int .i64 n, .ptr 1 0, .any, .any, .any, .any, .any, .any, .any, .any, .any, .any, .any, .any, .any, .any, .any, .any, .any, .any, .any, .any, .any, .any, .any, .any, .any, .any, .any, .any, .any, .any, .any, .any, .any, .any, .any, .any, .any, .any, .any, .any, .any, .any, .any, .any, .any, .any, .any, .any, .any, .any, .any, .any, .any, .any, .any, .any, .any, .any, .any, .any, .any, .any, .any, .any, .any, .any, .any, .any, .any, .any, .any, .any, .any, .any, .any, .any, .any, .any, .any, .any, .any, .any, .any, .any, .any]) fn_12 rfl rfl rfl rfl fun R hR => ?_
    rw [show SV now [] = [.cells [.bool true, .int .i64 now, .lit (.slice none 0 0)]] from rfl]
    refine w_open 0 rfl rfl ?_
    simp only [go_sem, decide_true, decide_false, Int.reduceToNat, Nat.min_eq_left, Nat.min_eq_right, Int.reducePow, Nat.reducePow, Int.reduceLE, Int.reduceLT, Int.reduceMul, Int.reduceAdd, Int.reduceSub, Int.reduceNeg, Bool.not_true, Bool.not_false, Bool.not_not, ↓reduceIte, Nat.reduceAdd, Nat.reduceSub, Nat.reduceMul, Nat.reduceEqDiff, reduceCtorEq, Nat.reduceLT, Nat.reduceLeDiff, Nat.reduceGT]
    (have zx1 := @d1; all_goals (try ((with_reducible first | refine wp_id ?_ | refine does_id ?_ | refine ops_id ?_ | refine dw_id ?_); refine walk ?_; (repeat' (first | exact trivial | with_reducible refine And.intro ?_ ?_)); all_goals (repeat with_reducible first | refine ImpB.mk fun hb => ?_ | refine ImpK.mk fun hK => ?_ | refine ImpF.mk fun hF => ?_ | refine ImpQ.mk fun hp => ?_ | refine AllE.mk fun p => ?_ | refine AllR.mk fun rest => ?_ | refine AllK.mk fun K => ?_))); repeat' (with_reducible refine And.intro ?_ ?_))
    any_goals ((try (refine w_seq fun K hK => ?_)); (try (refine w_block ?_)); refine w_loop (A := Nat) (fun k => k = 0) (fun k => 0) (fun k => [(38, .int .i64 k), (7, .lit (.slice none 0 0))]) (fun k => []) (0) (ws := ?ws2) (tk := ?tk2) ?hw2 ?ht2 ?hi_1 ?h0_1 ?LH2; (case hw2 => simp only [go_sem, decide_true, decide_false, Int.reduceToNat, Nat.min_eq_left, Nat.min_eq_right, Int.reducePow, Nat.reducePow, Int.reduceLE, Int.reduceLT, Int.reduceMul, Int.reduceAdd, Int.reduceSub, Int.reduceNeg, Bool.not_true, Bool.not_false, Bool.not_not, ↓reduceIte, Nat.reduceAdd, Nat.reduceSub, Nat.reduceMul, Nat.reduceEqDiff, reduceCtorEq, Nat.reduceLT, Nat.reduceLeDiff, Nat.reduceGT]; exact rfl); (case ht2 => simp only [go_sem, decide_true, decide_false, Int.reduceToNat, Nat.min_eq_left, Nat.min_eq_right, Int.reducePow, Nat.reducePow, Int.reduceLE, Int.reduceLT, Int.reduceMul, Int.reduceAdd, Int.reduceSub, Int.reduceNeg, Bool.not_true, Bool.not_false, Bool.not_not, ↓reduceIte, Nat.reduceAdd, Nat.reduceSub, Nat.reduceMul, Nat.reduceEqDiff, reduceCtorEq, Nat.reduceLT, Nat.reduceLeDiff, Nat.reduceGT]; exact rfl); (case' LH2 => rintro k E t hx hE ht; simp only [go_sem] at ht; subst ht; simp only [go_sem]; try dsimp only at hx))
    case hi_1 => exact rfl
    case h0_1 =>
      (focus (refine ⟨_, _, Gh.refl, [0, 1], rfl, ?_⟩; (refine fitq ?_ ?_ ?_ <;> try exact trivial); (try any_goals (refine ⟨?_, ?_⟩)); (try any_goals (with_reducible rfl))))
      all_goals (repeat' (first | (refine And.intro ?_ ?_) | rfl))
    case LH2 =>
      obtain rfl : k = 0 := hx
      have hkd : decide (((0 : Nat) : Int) < 0) = false := by decide
      (have zx1 := @hkd; all_goals (try ((with_reducible first | refine wp_id ?_ | refine does_id ?_ | refine ops_id ?_ | refine dw_id ?_); refine walk ?_; (repeat' (first | exact trivial | with_reducible refine And.intro ?_ ?_)); all_goals (repeat with_reducible first | refine ImpB.mk fun hb => ?_ | refine ImpK.mk fun hK => ?_ | refine ImpF.mk fun hF => ?_ | refine ImpQ.mk fun hp => ?_ | refine AllE.mk fun p => ?_ | refine AllR.mk fun rest => ?_ | refine AllK.mk fun K => ?_))); repeat' (with_reducible refine And.intro ?_ ?_))
      refine ⟨_, _, Gh.trans (gh_nil (s := 0) .tra trivial) (gh_close (t := 0) (ts := []) (l := SV now []) ⟨⟨_, _, rfl⟩, ?fcb, by simp⟩), [0, 1], rfl, ?ftb⟩
      case' ftb => (refine fitq ?_ ?_ ?_ <;> try exact trivial)
      case' fcb => (try simp only [go_sem, decide_true, decide_false, Int.reduceToNat, Nat.min_eq_left, Nat.min_eq_right, Int.reducePow, Nat.reducePow, Int.reduceLE, Int.reduceLT, Int.reduceMul, Int.reduceAdd, Int.reduceSub, Int.reduceNeg, Bool.not_true, Bool.not_false, Bool.not_not, ↓reduceIte, Nat.reduceAdd, Nat.reduceSub, Nat.reduceMul, Nat.reduceEqDiff, reduceCtorEq, Nat.reduceLT, Nat.reduceLeDiff, Nat.reduceGT])
      all_goals (repeat' (first | (refine And.intro ?_ ?_) | rfl | exact trivial | (simp; done)))
/-- a service that may be used -/
structure OkS (es : List Sm) : Prop where
  max : es.length ≤ 256
  srt : SrtE es
  ck : ∀ k, k < es.length → okE (eAtS es k).m
  rn : ∀ k, k < es.length → VR (eAtS es k).last ∧ 0 ≤ (eAtS es k).run ∧ (eAtS es k).run ≤ 1000000
theorem b_enaW (now : Int) (es : List Sm) (id : Int) (on : Bool) (a : OkS es) :
    DoesK Try.prog 1 14 [.ptr 0 0, .int .i64 id, .bool on] [.pack (SV now es)] (EndF 1 (.int .i64 (enaR es id)) ([.pack (SV now (enaL id on es))] ++ [])) := by
  by_cases hn : es.length = 0
  · obtain rfl := List.eq_nil_of_length_eq_zero hn
    exact b_ena0 now id on
  · exact b_enaS now es id on (by omega) a.max a.srt a.ck
theorem b_chkW (now n : Int) (es : List Sm) (V : Pv) (a : OkS es) (hV : okPv V) :
    DoesK Try.prog 2 12 [.ptr 0 0, .int .i64 n, .ptr 1 0] [.pack (SV now es), .pack (PW V)]
      (EndF 2 (.ro .tra (chkO (nowQ now n) V.get es)) ([.pack (SV (nowQ now n) (chkL (nowQ now n) V.get es)), .pack (PW V)] ++ [])) := by
  by_cases hn : es.length = 0
  · obtain rfl := List.eq_nil_of_length_eq_zero hn
    exact b_chk0 now n V
  · exact b_chkE now n es V (by omega) a.max hV a.rn
theorem c_enaW {h : List Ch} {K : KT} {u : Nat} {now id r : Int} {es es2 : List Sm} {on : Bool} (H : K (.int .i64 r) (h.set u (.pack (SV now es2)))) (o : hth h u = .pack (SV now es)) (e1 : OkS es) (e2 : enaR es id = r ∧ enaL id on es = es2) : Does Try.prog 14 [.ptr u 0, .int .i64 id, .bool on] h K :=
  frame_obj0 (b_enaW now es id on e1) o (by simp) (fitC_pack _) (br_cons (br_ptr rfl) (br_cons br_int (br_cons br_bool br_nil))) (.inl rfl) (fun _ => rfl) rfl (by rw [e2.1, e2.2]; exact H)
abbrev i_enaW := Ctr.mk (i := 0) (g := 14) @c_enaW
attribute [instance] i_enaW
theorem c_chkW {h : List Ch} {K : KT} {u p : Nat} {now n nw : Int} {es es2 : List Sm} {V : Pv} {out : List Tra} (H : K (.ro .tra out) ((h.set u (.pack (SV nw es2))).set p (.pack (PW V)))) (o : hth h u = .pack (SV now es)) (o1 : hth h p = .pack (PW V)) (e1 : OkS es) (e2 : okPv V) (e3 : nowQ now n = nw ∧ chkO nw V.get es = out ∧ chkL nw V.get es = es2) (s2 : u ≠ p) : Does Try.prog 12 [.ptr u 0, .int .i64 n, .ptr p 0] h K :=
  frame_two0 (b_chkW now n es V e1 e2) o o1 s2 (by simp) (by simp) (fitC_pack _) (fitC_pack _) (br_cons (br_ptr rfl) (br_cons br_int (br_cons (br_ptr rfl) br_nil))) rfl (fun _ => rfl) (fun _ => rfl) rfl (by rw [e3.1, e3.2.1, e3.2.2]; exact H)
abbrev i_chkW := Ctr.mk (i := 1) (g := 12) @c_chkW
attribute [instance] i_chkW
end Go.V
