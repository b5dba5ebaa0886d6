/-
  monitor.find in a service of any size.
  monitor.Enable in a service of any size.
  monitor: feed of an entry with any checker, in any memory.
-/
import Derived.Test.YtifighagbpjogaaPart16
set_option linter.unusedVariables false
set_option linter.unusedSimpArgs false
set_option maxRecDepth 100000
set_option maxHeartbeats 8000000
namespace Go.V
open Go.Proofs
attribute [-go_sem] SL PL
theorem k_eqS {n0 : Nat} {h : List Ch} {K : KT} {e q : Nat} {id i : Int} {rest : List AV} (o : hth h e = .cells (.int .i64 id :: rest)) (o1 : hth h q = .cells [.int .i64 i]) (H : K (.bool (decide (id = i))) h) : DoesK Try.prog n0 44 [.ptr e 0, .ptr q 0] h K := by
  refine w_body (rs := [.tmp 3]) (tm := [.ptr e 0, .ptr q 0, .any, .any, .any, .any, .any, .any, .any, .any, .any]) fn_44 rfl rfl rfl rfl fun R hR => ?_
  (have zx1 := @o; have zx2 := @o1; all_goals (try ((with_reducible first | refine wp_id ?_ | refine does_id ?_ | refine ops_id ?_); refine walk ?_; (repeat' (first | exact trivial | with_reducible refine And.intro ?_ ?_)); all_goals (repeat with_reducible first | refine ImpB.mk fun hb => ?_ | refine ImpK.mk fun hK => ?_ | refine ImpF.mk fun hF => ?_ | refine ImpQ.mk fun hp => ?_ | refine AllE.mk fun p => ?_ | refine AllR.mk fun rest => ?_ | refine AllK.mk fun K => ?_))); repeat' (with_reducible refine And.intro ?_ ?_))
  · exact H
  · exact Nat.succ_pos _
theorem c_eqS {h : List Ch} {K : KT} {e q : Nat} {id i : Int} {rest : List AV} (H : K (.bool (decide (id = i))) h) (o : hth h e = .cells (.int .i64 id :: rest)) (o1 : hth h q = .cells [.int .i64 i]) : Does Try.prog 44 [.ptr e 0, .ptr q 0] h K := Does.of_K (k_eqS o o1 H)
abbrev i_eqS := Ctr.mk (i := 1) (g := 44) @c_eqS
attribute [instance] i_eqS
/-- where a monitor is -/
def fixE : List Sm → Int → Nat
  | [], _ => 0
  | e :: es, id => if e.m.id = id then 0 else fixE es id + 1
theorem fixE_le : ∀ (es : List Sm) (id : Int), fixE es id ≤ es.length
  | [], _ => Nat.le_refl _
  | e :: es, id => by
    unfold fixE
    have := fixE_le es id
    split
    · omega
    · rw [List.length_cons]; omega
theorem fixE_at {id : Int} : ∀ {es : List Sm} {k : Nat}, k < es.length → (∀ j, j < k → ¬ (eAtS es j).m.id = id) → (eAtS es k).m.id = id → fixE es id = k
  | [], _, h, _, _ => by simp at h
  | e :: es, 0, _, _, h => by unfold fixE; exact if_pos h
  | e :: es, k + 1, h, h1, h2 => by
    unfold fixE
    rw [if_neg (show ¬ e.m.id = id from h1 0 (Nat.succ_pos _)), fixE_at (k := k) (by simpa using h) (fun j hj => h1 (j + 1) (by omega)) h2]
theorem fixE_none {id : Int} : ∀ {es : List Sm}, (∀ j, j < es.length → ¬ (eAtS es j).m.id = id) → fixE es id = es.length
  | [], _ => rfl
  | e :: es, h => by
    unfold fixE
    rw [if_neg (show ¬ e.m.id = id from h 0 (by simp)), fixE_none (es := es) (fun j hj => h (j + 1) (by simpa using hj)), List.length_cons]
theorem fixE_lt {id : Int} : ∀ {es : List Sm}, fixE es id < es.length → (eAtS es (fixE es id)).m.id = id
  | [], h => by simp at h
  | e :: es, h => by
    unfold fixE at h ⊢
    by_cases c : e.m.id = id
    · rw [if_pos c]; exact c
    · rw [if_neg c] at h ⊢
      exact fixE_lt (es := es) (by simpa using h)
theorem fixE_ge {id : Int} : ∀ {es : List Sm}, ¬ fixE es id < es.length → ∀ j, j < es.length → ¬ (eAtS es j).m.id = id
  | [], _, _, h => by simp at h
  | e :: es, h, j, hj => by
    unfold fixE at h
    by_cases c : e.m.id = id
    · rw [if_pos c] at h; simp at h
    · rw [if_neg c] at h
      cases j with
      | zero => exact c
      | succ j => exact fixE_ge (es := es) (by simpa using h) j (by simpa using hj)
def ixV (es : List Sm) (id : Int) : Int := if fixE es id < es.length then (fixE es id : Int) else -1
theorem k_ixS {n0 : Nat} {h : List Ch} {K : KT} {u v q n : Nat} {ts : List (Nat × Nat)} {now : Int} {es : List Sm} {i : Int} (A : Srv h u v ts now es) (hn : n = es.length) (hl : es.length ≤ 256) (o2 : hth h q = .cells [.int .i64 i]) (H : K (.int .i64 (ixV es i)) h) : DoesK Try.prog n0 43 [.csl v n 1, .fn 44 [.ptr q 0]] h K := by
  subst hn
  have o := A.o1
  refine w_body (rs := [.tmp 4]) (tm := [.csl v es.length 1, .fn 44 [.ptr q 0], .any, .any, .any, .any, .any, .any, .any, .any, .any, .any, .any, .any, .any, .any, .any, .any, .any]) fn_43 rfl rfl rfl rfl fun R hR => ?_
  (all_goals (try ((with_reducible first | refine wp_id ?_ | refine does_id ?_ | refine ops_id ?_); refine walk ?_; (repeat' (first | exact trivial | with_reducible refine And.intro ?_ ?_)); all_goals (repeat with_reducible first | refine ImpB.mk fun hb => ?_ | refine ImpK.mk fun hK => ?_ | refine ImpF.mk fun hF => ?_ | refine ImpQ.mk fun hp => ?_ | refine AllE.mk fun p => ?_ | refine AllR.mk fun rest => ?_ | refine AllK.mk fun K => ?_))); repeat' (with_reducible refine And.intro ?_ ?_))
  any_goals ((try (refine w_seq fun K hK => ?_)); (try (refine w_block ?_)); refine w_loopS (A := Nat) (fun k => k ≤ es.length ∧ ∀ j, j < k → ¬ (eAtS es j).m.id = i) (fun k => es.length - k) (fun k => [(8, .int .i64 k)]) (0) (ws := ?ws1) (tk := ?tk1) ?hw1 ?ht1 ?hi ?h0 ?LH1; (case hw1 => simp only [go_sem, decide_true, decide_false, Int.reduceToNat, Nat.min_eq_left, Nat.min_eq_right, Int.reducePow, Nat.reducePow, Int.reduceLE, Int.reduceLT, Int.reduceMul, Int.reduceAdd, Int.reduceSub, Int.reduceNeg, Bool.not_true, Bool.not_false, Bool.not_not, ↓reduceIte, Nat.reduceAdd, Nat.reduceSub, Nat.reduceMul, Nat.reduceEqDiff, reduceCtorEq, Nat.reduceLT, Nat.reduceLeDiff, Nat.reduceGT]; exact rfl); (case ht1 => simp only [go_sem, decide_true, decide_false, Int.reduceToNat, Nat.min_eq_left, Nat.min_eq_right, Int.reducePow, Nat.reducePow, Int.reduceLE, Int.reduceLT, Int.reduceMul, Int.reduceAdd, Int.reduceSub, Int.reduceNeg, Bool.not_true, Bool.not_false, Bool.not_not, ↓reduceIte, Nat.reduceAdd, Nat.reduceSub, Nat.reduceMul, Nat.reduceEqDiff, reduceCtorEq, Nat.reduceLT, Nat.reduceLeDiff, Nat.reduceGT]; exact rfl); (case' LH1 => rintro k E t hx hE ht; simp only [go_sem] at ht; subst ht; simp only [go_sem]; try dsimp only at hx))
  case hi => exact ⟨Nat.zero_le _, fun j hj => absurd hj (Nat.not_lt_zero j)⟩
  case h0 => (focus (simp only [go_sem]; (repeat' (first | exact sub_nil | refine sub_cons ?_ ?_)); (any_goals (first | exact .inl rfl | exact .inr rfl)); (try any_goals (refine .inr ?_)); (try any_goals (refine congrArg _ ?_))))
  case LH1 =>
    obtain ⟨hk0, hne⟩ := hx
    by_cases hk : k < es.length
    · have hkd : decide ((k : Int) < (es.length : Int)) = true := decide_eq_true (by omega)
      have hw : IntKind.i64.wrap ((k : Int) + 1) = ((k + 1 : Nat) : Int) := by rw [wrap_i64 _ (by omega) (by omega)]; omega
      have hp := ptA_at (l := ts) (i := k) (by rw [A.len]; exact hk)
      have he := A.ent k hk
      obtain ⟨p, hpe⟩ : ∃ p, (ts.getD k (0, 0)).1 = p := ⟨_, rfl⟩
      rw [hpe] at hp he
      have hpl : (ptA ts).length = es.length := by rw [ptA_len, A.len]
      obtain ⟨x, hxe⟩ : ∃ x, eAtS es k = x := ⟨_, rfl⟩
      rw [hxe] at he
      obtain ⟨rest, hr⟩ : ∃ rest, enC x (ts.getD k (0, 0)).2 = .int .i64 x.m.id :: rest := ⟨_, rfl⟩
      rw [hr] at he
      (have zx1 := @hkd; have zx2 := @hw; have zx3 := @o; have zx4 := @o2; have zx5 := @hp; have zx6 := @he; have zx7 := @hpl; all_goals (try ((with_reducible first | refine wp_id ?_ | refine does_id ?_ | refine ops_id ?_); refine walk ?_; (repeat' (first | exact trivial | with_reducible refine And.intro ?_ ?_)); all_goals (repeat with_reducible first | refine ImpB.mk fun hb => ?_ | refine ImpK.mk fun hK => ?_ | refine ImpF.mk fun hF => ?_ | refine ImpQ.mk fun hp => ?_ | refine AllE.mk fun p => ?_ | refine AllR.mk fun rest => ?_ | refine AllK.mk fun K => ?_))); repeat' (with_reducible refine And.intro ?_ ?_))
      all_goals first | (show _ ≤ (_ : Int); omega) | (show _ < (_ : Int); omega) | (show _ ≤ (_ : Nat); omega) | (show _ < (_ : Nat); omega) | skip
      · have hf : fixE es i = k := fixE_at hk hne (by rw [hxe]; exact of_decide_eq_true hb)
        unfold ixV at H
        rw [hf, if_pos hk] at H
        exact H
      · refine ⟨k + 1, ⟨⟨by first | omega | (dsimp only; omega), fun j hj => ?_⟩, by first | omega | (dsimp only; omega)⟩, ?_, rfl⟩
        · by_cases c : j = k
          · rw [c, hxe]; exact of_decide_eq_false hb
          · exact hne j (by omega)
        (focus (simp only [go_sem]; (repeat' (first | exact sub_nil | refine sub_cons ?_ ?_)); (any_goals (first | exact .inl rfl | exact .inr rfl)); (try any_goals (refine .inr ?_)); (try any_goals (refine congrArg _ ?_))))
    · have hkd : decide ((k : Int) < (es.length : Int)) = false := decide_eq_false (by omega)
      (have zx1 := @hkd; all_goals (try ((with_reducible first | refine wp_id ?_ | refine does_id ?_ | refine ops_id ?_); refine walk ?_; (repeat' (first | exact trivial | with_reducible refine And.intro ?_ ?_)); all_goals (repeat with_reducible first | refine ImpB.mk fun hb => ?_ | refine ImpK.mk fun hK => ?_ | refine ImpF.mk fun hF => ?_ | refine ImpQ.mk fun hp => ?_ | refine AllE.mk fun p => ?_ | refine AllR.mk fun rest => ?_ | refine AllK.mk fun K => ?_))); repeat' (with_reducible refine And.intro ?_ ?_))
      have hf : fixE es i = es.length := fixE_none fun j hj => hne j (by omega)
      unfold ixV at H
      rw [hf, if_neg (by omega)] at H
      exact H
theorem c_ixS {h : List Ch} {K : KT} {u v q n : Nat} {ts : List (Nat × Nat)} {now : Int} {es : List Sm} {i : Int} (H : K (.int .i64 (ixV es i)) h) (e1 : Srv h u v ts now es) (o : hth h q = .cells [.int .i64 i]) (s1 : n = es.length) (s2 : es.length ≤ 256) : Does Try.prog 43 [.csl v n 1, .fn 44 [.ptr q 0]] h K := Does.of_K (k_ixS e1 s1 s2 o H)
abbrev i_ixS := Ctr.mk (i := 1) (g := 43) @c_ixS
attribute [instance] i_ixS
def ptV (ts : List (Nat × Nat)) (es : List Sm) (id : Int) : AV := if fixE es id < es.length then .ptr (ts.getD (fixE es id) (0, 0)).1 0 else .lit (.pointer none)
theorem k_findS {n0 : Nat} {h : List Ch} {K : KT} {u v : Nat} {ts : List (Nat × Nat)} {now : Int} {es : List Sm} {i : Int} (A : Srv h u v ts now es) (hl : es.length ≤ 256) (H : K (ptV ts es i) (h ++ [.cells [.int .i64 i]])) : DoesK Try.prog n0 31 [.ptr u 0, .int .i64 i] h K := by
  have A1 := A.app [.cells [.int .i64 i]]
  have t2 := symH h
  have o : (∀ l, hth (h ++ l) u = .cells [.bool true, .int .i64 now, .csl v es.length 1]) ∧ (∀ l, hth (h ++ l) v = .crow (ptA ts)) := ⟨fun l => (A.app l).o, fun l => (A.app l).o1⟩
  have o2 : hth (h ++ [.cells [.int .i64 i]]) h.length = .cells [.int .i64 i] := hth_app_r (j := 0)
  have hpl : (ptA ts).length = es.length := by rw [ptA_len, A.len]
  by_cases c : fixE es i < es.length
  · have hv : ixV es i = (fixE es i : Int) := if_pos c
    have hd : decide ((0 : Int) ≤ (fixE es i : Int)) = true := decide_eq_true (Int.natCast_nonneg _)
    have hp := ptA_at (l := ts) (i := fixE es i) (by rw [A.len]; exact c)
    rw [show ptV ts es i = .ptr (ts.getD (fixE es i) (0, 0)).1 0 from if_pos c] at H
    obtain ⟨k, hk⟩ : ∃ k, fixE es i = k := ⟨_, rfl⟩
    rw [hk] at c hv hd hp H
    obtain ⟨p, hpe⟩ : ∃ p, (ts.getD k (0, 0)).1 = p := ⟨_, rfl⟩
    rw [hpe] at hp H
    refine w_body (rs := [.tmp 4]) (tm := [.ptr u 0, .int .i64 i, .any, .any, .any, .any, .any, .any, .any, .any, .any, .any, .any, .any, .any, .any, .any, .any, .any, .any, .any, .any, .any, .any, .any, .any, .any, .any, .any, .any]) fn_31 rfl rfl rfl rfl fun R hR => ?_
    (have zx1 := @o; have zx2 := @t2; have zx3 := @hv; have zx4 := @hd; have zx5 := @hp; have zx6 := @hpl; all_goals (try ((with_reducible first | refine wp_id ?_ | refine does_id ?_ | refine ops_id ?_); refine walk ?_; (repeat' (first | exact trivial | with_reducible refine And.intro ?_ ?_)); all_goals (repeat with_reducible first | refine ImpB.mk fun hb => ?_ | refine ImpK.mk fun hK => ?_ | refine ImpF.mk fun hF => ?_ | refine ImpQ.mk fun hp => ?_ | refine AllE.mk fun p => ?_ | refine AllR.mk fun rest => ?_ | refine AllK.mk fun K => ?_))); repeat' (with_reducible refine And.intro ?_ ?_))
    all_goals first | (show _ ≤ (_ : Int); omega) | (show _ < (_ : Int); omega) | (show _ ≤ (_ : Nat); omega) | (show _ < (_ : Nat); omega) | skip
    exact H
  · have hv : ixV es i = -1 := if_neg c
    rw [show ptV ts es i = .lit (.pointer none) from if_neg c] at H
    refine w_body (rs := [.tmp 4]) (tm := [.ptr u 0, .int .i64 i, .any, .any, .any, .any, .any, .any, .any, .any, .any, .any, .any, .any, .any, .any, .any, .any, .any, .any, .any, .any, .any, .any, .any, .any, .any, .any, .any, .any]) fn_31 rfl rfl rfl rfl fun R hR => ?_
    (have zx1 := @o; have zx2 := @t2; have zx3 := @hv; have zx4 := @hpl; all_goals (try ((with_reducible first | refine wp_id ?_ | refine does_id ?_ | refine ops_id ?_); refine walk ?_; (repeat' (first | exact trivial | with_reducible refine And.intro ?_ ?_)); all_goals (repeat with_reducible first | refine ImpB.mk fun hb => ?_ | refine ImpK.mk fun hK => ?_ | refine ImpF.mk fun hF => ?_ | refine ImpQ.mk fun hp => ?_ | refine AllE.mk fun p => ?_ | refine AllR.mk fun rest => ?_ | refine AllK.mk fun K => ?_))); repeat' (with_reducible refine And.intro ?_ ?_))
    all_goals first | (show _ ≤ (_ : Int); omega) | (show _ < (_ : Int); omega) | (show _ ≤ (_ : Nat); omega) | (show _ < (_ : Nat); omega) | skip
    exact H
end Go.V

set_option maxRecDepth 100000
set_option maxHeartbeats 8000000
namespace Go.V
open Go.Proofs
attribute [-go_sem] SL PL
theorem nodup_setN {l : List Nat} {i x : Nat} (h : l.Nodup) (hx : x ∉ l) : (l.set i x).Nodup := by
  rw [List.Nodup, List.pairwise_iff_getElem] at h ⊢
  intro a b ha hb hab
  rw [List.length_set] at ha hb
  rw [List.getElem_set, List.getElem_set]
  by_cases c1 : i = a
  · rw [if_pos c1]
    by_cases c2 : i = b
    · omega
    · rw [if_neg c2]
      intro q
      exact hx (by rw [q]; exact List.getElem_mem hb)
  · rw [if_neg c1]
    by_cases c2 : i = b
    · rw [if_pos c2]
      intro q
      exact hx (by rw [← q]; exact List.getElem_mem ha)
    · rw [if_neg c2]
      exact h a b ha hb hab
theorem ilv_set : ∀ {ts : List (Nat × Nat)} {k d : Nat}, k < ts.length → ilv (ts.set k ((ts.getD k (0, 0)).1, d)) = (ilv ts).set (2 * k + 1) d
  | [], _, _, h => by simp at h
  | t :: ts, 0, d, _ => rfl
  | t :: ts, k + 1, d, h => by
    have := ilv_set (ts := ts) (k := k) (d := d) (by simpa using h)
    rw [show 2 * (k + 1) + 1 = (2 * k + 1) + 1 + 1 by omega]
    show t.1 :: t.2 :: ilv (ts.set k ((ts.getD k (0, 0)).1, d)) = t.1 :: t.2 :: (ilv ts).set (2 * k + 1) d
    rw [this]
theorem ilv_len : ∀ (ts : List (Nat × Nat)), (ilv ts).length = 2 * ts.length
  | [] => rfl
  | t :: ts => by rw [ilv, List.length_cons, List.length_cons, ilv_len, List.length_cons]; omega
theorem ptA_set {ts : List (Nat × Nat)} {k d : Nat} : ptA (ts.set k ((ts.getD k (0, 0)).1, d)) = ptA ts := by
  induction ts generalizing k with
  | nil => rfl
  | cons t ts ih =>
    cases k with
    | zero => rfl
    | succ k =>
      show AV.ptr t.1 0 :: ptA (ts.set k ((ts.getD k (0, 0)).1, d)) = AV.ptr t.1 0 :: ptA ts
      rw [ih]
theorem getD_setN {α : Type} {l : List α} {i j : Nat} {x d : α} : (l.set i x).getD j d = if i = j ∧ j < l.length then x else l.getD j d := by
  rw [List.getD_eq_getElem?_getD, List.getD_eq_getElem?_getD]
  by_cases c : i = j
  · subst c
    by_cases c2 : i < l.length
    · rw [if_pos ⟨rfl, c2⟩, List.getElem?_set_self c2]; rfl
    · rw [if_neg (fun q => c2 q.2), List.getElem?_eq_none (by rw [List.length_set]; omega), List.getElem?_eq_none (by omega)]
  · rw [if_neg (fun q => c q.1), List.getElem?_set_ne c]
/-- the places are apart -/
theorem Srv.apart {h : List Ch} {u v : Nat} {ts : List (Nat × Nat)} {now : Int} {es : List Sm} (A : Srv h u v ts now es) {i j : Nat} (hi : i < es.length) (hj : j < es.length) :
    ((ts.getD i (0, 0)).1 ≠ u ∧ (ts.getD i (0, 0)).1 ≠ v ∧ (ts.getD i (0, 0)).2 ≠ u ∧ (ts.getD i (0, 0)).2 ≠ v) ∧ (ts.getD i (0, 0)).1 ≠ (ts.getD j (0, 0)).2 ∧ (i ≠ j → (ts.getD i (0, 0)).1 ≠ (ts.getD j (0, 0)).1 ∧ (ts.getD i (0, 0)).2 ≠ (ts.getD j (0, 0)).2) := by
  obtain ⟨m1, m2⟩ := List.nodup_cons.1 A.nd
  obtain ⟨m3, m4⟩ := List.nodup_cons.1 m2
  have hi' : i < ts.length := by rw [A.len]; exact hi
  have hj' : j < ts.length := by rw [A.len]; exact hj
  obtain ⟨i1, i2⟩ := ilv_mem hi'
  obtain ⟨a1, a2⟩ := ilv_at hi'
  obtain ⟨b1, b2⟩ := ilv_at hj'
  have hl := ilv_len ts
  rw [List.Nodup, List.pairwise_iff_getElem] at m4
  have key : ∀ p q x y, (ilv ts)[p]? = some x → (ilv ts)[q]? = some y → p ≠ q → x ≠ y := fun p q x y hp hq hne he => by
    obtain ⟨lp, ep⟩ := List.getElem?_eq_some_iff.1 hp
    obtain ⟨lq, eq⟩ := List.getElem?_eq_some_iff.1 hq
    rcases Nat.lt_or_gt_of_ne hne with c | c
    · exact m4 p q lp lq c (by rw [ep, eq, he])
    · exact m4 q p lq lp c (by rw [ep, eq, he])
  refine ⟨⟨fun q => m1 (by rw [← q]; exact List.mem_cons_of_mem _ i1), fun q => m3 (by rw [← q]; exact i1), fun q => m1 (by rw [← q]; exact List.mem_cons_of_mem _ i2), fun q => m3 (by rw [← q]; exact i2)⟩, key _ _ _ _ a1 b2 (by omega), fun hne => ⟨key _ _ _ _ a1 b1 (by omega), key _ _ _ _ a2 b2 (by omega)⟩⟩
/-- one entry is changed -/
theorem Srv.put {h h' : List Ch} {u v k d' : Nat} {ts : List (Nat × Nat)} {now : Int} {es : List Sm} {e' : Sm} (A : Srv h u v ts now es) (hk : k < es.length) (hl : h.length ≤ h'.length)
    (hs : ∀ t, t < h.length → t ≠ (ts.getD k (0, 0)).1 → t ≠ (ts.getD k (0, 0)).2 → hth h' t = hth h t) (he : hth h' (ts.getD k (0, 0)).1 = .cells (enC e' d')) (hd : d' < h'.length ∧ (e'.m.kind = 3 → hth h' d' = .cells (dlV e'))) (n : d' = (ts.getD k (0, 0)).2 ∨ h.length ≤ d') :
    Srv h' u v (ts.set k ((ts.getD k (0, 0)).1, d')) now (es.set k e') := by
  have hlt := A.lt
  have hk' : k < ts.length := by rw [A.len]; exact hk
  have ak := (A.apart hk hk).1
  refine ⟨by rw [List.length_set]; exact A.pos, ?_, ?_, by rw [List.length_set, List.length_set, A.len], fun i hi => ?_, fun i hi => ?_, ?_⟩
  · rw [hs u (hlt u (by simp)) (Ne.symm ak.1) (Ne.symm ak.2.2.1), A.o, List.length_set]
  · rw [hs v (hlt v (by simp)) (Ne.symm ak.2.1) (Ne.symm ak.2.2.2), A.o1, ptA_set]
  · rw [List.length_set] at hi
    have hi' : i < ts.length := by rw [A.len]; exact hi
    show hth h' ((ts.set k ((ts.getD k (0, 0)).1, d')).getD i (0, 0)).1 = .cells (enC ((es.set k e').getD i Sm.zero) ((ts.set k ((ts.getD k (0, 0)).1, d')).getD i (0, 0)).2)
    rw [getD_setN, getD_setN]
    by_cases c : k = i
    · subst c
      rw [if_pos ⟨rfl, hi'⟩, if_pos ⟨rfl, hi⟩]
      exact he
    · rw [if_neg (fun q => c q.1), if_neg (fun q => c q.1)]
      have ap := A.apart hi hk
      rw [hs _ (hlt _ (List.mem_cons_of_mem _ (List.mem_cons_of_mem _ (ilv_mem hi').1))) (ap.2.2 (Ne.symm c)).1 ap.2.1]
      exact A.ent i hi
  · rw [List.length_set] at hi
    have hi' : i < ts.length := by rw [A.len]; exact hi
    show ((ts.set k ((ts.getD k (0, 0)).1, d')).getD i (0, 0)).2 < h'.length ∧ (((es.set k e').getD i Sm.zero).m.kind = 3 → hth h' ((ts.set k ((ts.getD k (0, 0)).1, d')).getD i (0, 0)).2 = .cells (dlV ((es.set k e').getD i Sm.zero)))
    rw [getD_setN, getD_setN]
    by_cases c : k = i
    · subst c
      rw [if_pos ⟨rfl, hi'⟩, if_pos ⟨rfl, hi⟩]
      exact hd
    · rw [if_neg (fun q => c q.1), if_neg (fun q => c q.1)]
      have ap := A.apart hi hk
      have ap2 := A.apart hk hi
      refine ⟨by have := (A.dl i hi).1; omega, fun q => ?_⟩
      rw [hs _ (hlt _ (List.mem_cons_of_mem _ (List.mem_cons_of_mem _ (ilv_mem hi').2))) (Ne.symm ap2.2.1) (ap.2.2 (Ne.symm c)).2]
      exact (A.dl i hi).2 q
  · have nd := A.nd
    rw [ilv_set hk']
    rcases n with n | n
    · have e : (ilv ts).set (2 * k + 1) d' = ilv ts := by
        obtain ⟨lp, ep⟩ := List.getElem?_eq_some_iff.1 (ilv_at hk').2
        rw [n, ← ep]
        exact List.set_getElem_self lp
      rw [e]; exact nd
    · have : (u :: v :: ilv ts).set (2 * k + 1 + 1 + 1) d' = u :: v :: (ilv ts).set (2 * k + 1) d' := rfl
      rw [← this]
      exact nodup_setN nd (fun q => by have := hlt _ q; omega)
theorem symP {h : List Ch} {p : Nat} (hp : p < h.length) : ((∀ l c, (h ++ l).set p c = h.set p c ++ l) ∧ (∀ l c, hth (h.set p c ++ l) p = c) ∧ (∀ l c c', (h.set p c ++ l).set p c' = h.set p c' ++ l)) ∧ (∀ l c, hth (h.set p c ++ l) h.length = hth l 0) ∧ (∀ l c j, hth (h.set p c ++ l) (h.length + j) = hth l j) ∧ ∀ l l' c, h.set p c ++ l ++ l' = h.set p c ++ (l ++ l') := by
  refine ⟨⟨fun l c => List.set_append_left _ _ hp, fun l c => ?_, fun l c c' => ?_⟩, fun l c => ?_, fun l c j => ?_, fun l l' c => List.append_assoc _ _ _⟩
  · rw [hth_app (by rw [List.length_set]; exact hp)]
    exact hth_set_eq hp
  · rw [List.set_append_left _ _ (by rw [List.length_set]; exact hp), List.set_set]
  · have e : (h.set p c).length = h.length := List.length_set
    rw [← e]; exact hth_app_r (j := 0)
  · have e : (h.set p c).length = h.length := List.length_set
    rw [← e]; exact hth_app_r
end Go.V

set_option maxRecDepth 100000
set_option maxHeartbeats 8000000
namespace Go.V
open Go.Proofs
attribute [-go_sem] SL PL
/-- the values that a parameter may have -/
structure VR (v : Int) : Prop where
  lo : -2147483648 ≤ v
  hi : v < 4294967296
def rsE (lo v : Int) : Int := if v = lo then 1 else 4
theorem b_echk (lo v : Int) : DoesK Try.prog 0 68 [.agg [.int .i64 lo], .int .i64 v] [] (EndF 0 (.int .i64 (rsE lo v)) []) := by
  refine DoesK.close ?_
  unfold rsE
  by_cases c1 : v = lo
  · have d1 : decide (v = lo) = true := decide_eq_true c1
    rw [if_pos c1]
    refine w_body (rs := [.tmp 4]) (tm := [.agg [.int .i64 lo], .int .i64 v, .any, .any, .any, .any, .any, .any, .any]) fn_68 rfl rfl rfl rfl fun R hR => ?_
    (have zx1 := @d1; all_goals (try ((with_reducible first | refine wp_id ?_ | refine does_id ?_ | refine ops_id ?_ | refine dw_id ?_); refine walk ?_; (repeat' (first | exact trivial | with_reducible refine And.intro ?_ ?_)); all_goals (repeat with_reducible first | refine ImpB.mk fun hb => ?_ | refine ImpK.mk fun hK => ?_ | refine ImpF.mk fun hF => ?_ | refine ImpQ.mk fun hp => ?_ | refine AllE.mk fun p => ?_ | refine AllR.mk fun rest => ?_ | refine AllK.mk fun K => ?_))); repeat' (with_reducible refine And.intro ?_ ?_))
    (focus (refine ⟨_, _, Gh.refl, [], rfl, ?_⟩; (refine fitq ?_ ?_ ?_ <;> try exact trivial); (try any_goals (refine ⟨?_, ?_⟩)); (try any_goals (with_reducible rfl))))
  · have d1 : decide (v = lo) = false := decide_eq_false c1
    rw [if_neg c1]
    refine w_body (rs := [.tmp 4]) (tm := [.agg [.int .i64 lo], .int .i64 v, .any, .any, .any, .any, .any, .any, .any]) fn_68 rfl rfl rfl rfl fun R hR => ?_
    (have zx1 := @d1; all_goals (try ((with_reducible first | refine wp_id ?_ | refine does_id ?_ | refine ops_id ?_ | refine dw_id ?_); refine walk ?_; (repeat' (first | exact trivial | with_reducible refine And.intro ?_ ?_)); all_goals (repeat with_reducible first | refine ImpB.mk fun hb => ?_ | refine ImpK.mk fun hK => ?_ | refine ImpF.mk fun hF => ?_ | refine ImpQ.mk fun hp => ?_ | refine AllE.mk fun p => ?_ | refine AllR.mk fun rest => ?_ | refine AllK.mk fun K => ?_))); repeat' (with_reducible refine And.intro ?_ ?_))
    (focus (refine ⟨_, _, Gh.refl, [], rfl, ?_⟩; (refine fitq ?_ ?_ ?_ <;> try exact trivial); (try any_goals (refine ⟨?_, ?_⟩)); (try any_goals (with_reducible rfl))))
theorem c_echk {h : List Ch} {K : KT} {lo v : Int} (H : K (.int .i64 (rsE lo v)) h) : Does Try.prog 68 [.agg [.int .i64 lo], .int .i64 v] h K :=
  frame_pure (b_echk lo v) (br_cons (br_agg (br_cons br_int br_nil)) (br_cons br_int br_nil)) (.inr rfl) (fun _ => rfl) H
abbrev i_echk := Ctr.mk (i := 0) (g := 68) @c_echk
attribute [instance] i_echk
theorem symQ {h : List Ch} {p : Nat} (hp : p < h.length) : (∀ c, hth (h.set p c) p = c) ∧ ∀ c c', (h.set p c).set p c' = h.set p c' :=
  ⟨fun c => hth_set_eq hp, fun c c' => List.set_set ..⟩
theorem k_dchkS {n0 : Nat} {K : KT} {h : List Ch} {d : Nat} {most last v : Int} {bg : Bool} (q1 : VR v) (q2 : VR last) (o : hth h d = .cells (dlL most bg last)) (H : K (.int .i64 (rsD most bg last v)) (h.set d (.cells (dlL most true v)))) : DoesK Try.prog n0 66 [.ptr d 0, .int .i64 v] h K := by
  obtain ⟨q11, q12⟩ := q1
  obtain ⟨q21, q22⟩ := q2
  have hw : IntKind.i64.wrap (max v last - min v last) = max v last - min v last := wrap_i64 _ (by omega) (by omega)
  have t2 := symQ (h := h) (p := d) (hth_lt (by rw [o]; simp))
  cases bg
  · have hr : rsD most false last v = 1 := by unfold rsD; rw [if_neg (fun q => by cases q.1)]
    rw [hr] at H
    refine w_body (rs := [.tmp 4]) (tm := [.ptr d 0, .int .i64 v, .any, .any, .any, .any, .any, .any, .any, .any, .any, .any, .any, .any, .any, .any, .any, .any, .any, .any, .any, .any, .any, .any, .any, .any, .any, .any, .any, .any, .any, .any, .any, .any, .any, .any, .any, .any, .any]) fn_66 rfl rfl rfl rfl fun R hR => ?_
    (have zx1 := @hw; have zx2 := @o; have zx3 := @t2; all_goals (try ((with_reducible first | refine wp_id ?_ | refine does_id ?_ | refine ops_id ?_ | refine dw_id ?_); refine walk ?_; (repeat' (first | exact trivial | with_reducible refine And.intro ?_ ?_)); all_goals (repeat with_reducible first | refine ImpB.mk fun hb => ?_ | refine ImpK.mk fun hK => ?_ | refine ImpF.mk fun hF => ?_ | refine ImpQ.mk fun hp => ?_ | refine AllE.mk fun p => ?_ | refine AllR.mk fun rest => ?_ | refine AllK.mk fun K => ?_))); repeat' (with_reducible refine And.intro ?_ ?_))
    all_goals exact H
  · by_cases c : most < max v last - min v last
    · have hr : rsD most true last v = 4 := by unfold rsD; rw [if_pos ⟨rfl, c⟩]
      rw [hr] at H
      have hd : decide (max v last - min v last ≤ most) = false := decide_eq_false (by omega)
      refine w_body (rs := [.tmp 4]) (tm := [.ptr d 0, .int .i64 v, .any, .any, .any, .any, .any, .any, .any, .any, .any, .any, .any, .any, .any, .any, .any, .any, .any, .any, .any, .any, .any, .any, .any, .any, .any, .any, .any, .any, .any, .any, .any, .any, .any, .any, .any, .any, .any]) fn_66 rfl rfl rfl rfl fun R hR => ?_
      (have zx1 := @hw; have zx2 := @hd; have zx3 := @o; have zx4 := @t2; all_goals (try ((with_reducible first | refine wp_id ?_ | refine does_id ?_ | refine ops_id ?_ | refine dw_id ?_); refine walk ?_; (repeat' (first | exact trivial | with_reducible refine And.intro ?_ ?_)); all_goals (repeat with_reducible first | refine ImpB.mk fun hb => ?_ | refine ImpK.mk fun hK => ?_ | refine ImpF.mk fun hF => ?_ | refine ImpQ.mk fun hp => ?_ | refine AllE.mk fun p => ?_ | refine AllR.mk fun rest => ?_ | refine AllK.mk fun K => ?_))); repeat' (with_reducible refine And.intro ?_ ?_))
      all_goals exact H
    · have hr : rsD most true last v = 1 := by unfold rsD; rw [if_neg (fun q => c q.2)]
      rw [hr] at H
      have hd : decide (max v last - min v last ≤ most) = true := decide_eq_true (by omega)
      refine w_body (rs := [.tmp 4]) (tm := [.ptr d 0, .int .i64 v, .any, .any, .any, .any, .any, .any, .any, .any, .any, .any, .any, .any, .any, .any, .any, .any, .any, .any, .any, .any, .any, .any, .any, .any, .any, .any, .any, .any, .any, .any, .any, .any, .any, .any, .any, .any, .any]) fn_66 rfl rfl rfl rfl fun R hR => ?_
      (have zx1 := @hw; have zx2 := @hd; have zx3 := @o; have zx4 := @t2; all_goals (try ((with_reducible first | refine wp_id ?_ | refine does_id ?_ | refine ops_id ?_ | refine dw_id ?_); refine walk ?_; (repeat' (first | exact trivial | with_reducible refine And.intro ?_ ?_)); all_goals (repeat with_reducible first | refine ImpB.mk fun hb => ?_ | refine ImpK.mk fun hK => ?_ | refine ImpF.mk fun hF => ?_ | refine ImpQ.mk fun hp => ?_ | refine AllE.mk fun p => ?_ | refine AllR.mk fun rest => ?_ | refine AllK.mk fun K => ?_))); repeat' (with_reducible refine And.intro ?_ ?_))
      all_goals exact H
theorem c_dchkS {K : KT} {h : List Ch} {d : Nat} {most last v : Int} {bg : Bool} (H : K (.int .i64 (rsD most bg last v)) (h.set d (.cells (dlL most true v)))) (o : hth h d = .cells (dlL most bg last)) (e1 : VR v) (e2 : VR last) : Does Try.prog 66 [.ptr d 0, .int .i64 v] h K := Does.of_K (k_dchkS e1 e2 o H)
abbrev i_dchkS := Ctr.mk (i := 0) (g := 66) @c_dchkS
attribute [instance] i_dchkS
/-- what a value makes of an entry -/
abbrev fdE (e : Sm) (v : Int) : Bool × Int × Int × Int := fdR e.m.rep e.st e.res e.run (resE e.m e.bg e.last v)
def nxE (e : Sm) (v : Int) : Sm := ⟨e.m, e.off, (fdE e v).2.1, (fdE e v).2.2.1, (fdE e v).2.2.2, true, v⟩
def fdH (h : List Ch) (p d : Nat) (e : Sm) (v : Int) : List Ch := (if e.m.kind = 3 then h.set d (.cells (dlV (nxE e v))) else h).set p (.cells (enC (nxE e v) d))
abbrev enX (m : Mon) (c : AV) (off : Bool) (st res run : Int) : List AV := [.int .i64 m.id, .int .i64 m.param, .int .i64 m.kind, .int .i64 m.low, .int .i64 m.high, .int .i64 m.rep, .int .i64 m.ev, .int .i64 m.sev, c, .bool off, .int .i64 st, .int .i64 res, .int .i64 run]
theorem k_feedSL {n0 : Nat} {h : List Ch} {K : KT} {p : Nat} {m : Mon} {off : Bool} {st res run v : Int} {t : Bool} {st2 res2 run2 : Int} (o : hth h p = .cells (enX m (.ifc 103 (.agg [.int .i64 m.low, .int .i64 m.high])) off st res run)) (e : fdR m.rep st res run (rsL m.low m.high v) = (t, st2, res2, run2)) (h0 : 0 ≤ run ∧ run ≤ 1000000) (H : K (.bool t) (h.set p (.cells (enX m (.ifc 103 (.agg [.int .i64 m.low, .int .i64 m.high])) off st2 res2 run2)))) : DoesK Try.prog n0 30 [.ptr p 0, .int .i64 v] h K := by
  have t2 := symQ (h := h) (p := p) (hth_lt (by rw [o]; simp))
  obtain ⟨r, hr⟩ : ∃ r, rsL m.low m.high v = r := ⟨_, rfl⟩
  rw [hr] at e
  unfold fdR at e
  by_cases c1 : r = res
  · have d1 : decide (¬ r = res) = false := decide_eq_false (fun q => q c1)
    rw [if_pos c1] at e
    have hw : IntKind.i64.wrap (run + 1) = run + 1 := wrap_i64 _ (by omega) (by omega)
    by_cases c2 : run + 1 < m.rep
    · have d2 : decide (run + 1 < m.rep) = true := decide_eq_true c2
      rw [if_pos (.inl c2)] at e
      cases e
      subst c1
      refine w_body (rs := [.tmp 4]) (tm := [.ptr p 0, .int .i64 v, .any, .any, .any, .any, .any, .any, .any, .any, .any, .any, .any, .any, .any, .any, .any, .any, .any, .any, .any, .any, .any, .any, .any, .any, .any, .any, .any, .any, .any, .any, .any, .any, .any, .any, .any, .any, .any, .any, .any, .any, .any, .any, .any, .any, .any, .any, .any, .any, .any, .any, .any, .any]) fn_30 rfl rfl rfl rfl fun R hR => ?_
      (have zx1 := @hr; have zx2 := @d1; have zx3 := @d2; have zx4 := @hw; have zx5 := @o; have zx6 := @t2; all_goals (try ((with_reducible first | refine wp_id ?_ | refine does_id ?_ | refine ops_id ?_ | refine dw_id ?_); refine walk ?_; (repeat' (first | exact trivial | with_reducible refine And.intro ?_ ?_)); all_goals (repeat with_reducible first | refine ImpB.mk fun hb => ?_ | refine ImpK.mk fun hK => ?_ | refine ImpF.mk fun hF => ?_ | refine ImpQ.mk fun hp => ?_ | refine AllE.mk fun p => ?_ | refine AllR.mk fun rest => ?_ | refine AllK.mk fun K => ?_))); repeat' (with_reducible refine And.intro ?_ ?_))
      all_goals exact H
    · have d2 : decide (run + 1 < m.rep) = false := decide_eq_false c2
      by_cases c3 : st = r
      · have d3 : decide (st = r) = true := decide_eq_true c3
        rw [if_pos (.inr c3)] at e
        cases e
        subst c1
        refine w_body (rs := [.tmp 4]) (tm := [.ptr p 0, .int .i64 v, .any, .any, .any, .any, .any, .any, .any, .any, .any, .any, .any, .any, .any, .any, .any, .any, .any, .any, .any, .any, .any, .any, .any, .any, .any, .any, .any, .any, .any, .any, .any, .any, .any, .any, .any, .any, .any, .any, .any, .any, .any, .any, .any, .any, .any, .any, .any, .any, .any, .any, .any, .any]) fn_30 rfl rfl rfl rfl fun R hR => ?_
        (have zx1 := @hr; have zx2 := @d1; have zx3 := @d2; have zx4 := @d3; have zx5 := @hw; have zx6 := @o; have zx7 := @t2; all_goals (try ((with_reducible first | refine wp_id ?_ | refine does_id ?_ | refine ops_id ?_ | refine dw_id ?_); refine walk ?_; (repeat' (first | exact trivial | with_reducible refine And.intro ?_ ?_)); all_goals (repeat with_reducible first | refine ImpB.mk fun hb => ?_ | refine ImpK.mk fun hK => ?_ | refine ImpF.mk fun hF => ?_ | refine ImpQ.mk fun hp => ?_ | refine AllE.mk fun p => ?_ | refine AllR.mk fun rest => ?_ | refine AllK.mk fun K => ?_))); repeat' (with_reducible refine And.intro ?_ ?_))
        all_goals exact H
      · have d3 : decide (st = r) = false := decide_eq_false c3
        rw [if_neg (fun q => q.elim c2 c3)] at e
        cases e
        subst c1
        refine w_body (rs := [.tmp 4]) (tm := [.ptr p 0, .int .i64 v, .any, .any, .any, .any, .any, .any, .any, .any, .any, .any, .any, .any, .any, .any, .any, .any, .any, .any, .any, .any, .any, .any, .any, .any, .any, .any, .any, .any, .any, .any, .any, .any, .any, .any, .any, .any, .any, .any, .any, .any, .any, .any, .any, .any, .any, .any, .any, .any, .any, .any, .any, .any]) fn_30 rfl rfl rfl rfl fun R hR => ?_
        (have zx1 := @hr; have zx2 := @d1; have zx3 := @d2; have zx4 := @d3; have zx5 := @hw; have zx6 := @o; have zx7 := @t2; all_goals (try ((with_reducible first | refine wp_id ?_ | refine does_id ?_ | refine ops_id ?_ | refine dw_id ?_); refine walk ?_; (repeat' (first | exact trivial | with_reducible refine And.intro ?_ ?_)); all_goals (repeat with_reducible first | refine ImpB.mk fun hb => ?_ | refine ImpK.mk fun hK => ?_ | refine ImpF.mk fun hF => ?_ | refine ImpQ.mk fun hp => ?_ | refine AllE.mk fun p => ?_ | refine AllR.mk fun rest => ?_ | refine AllK.mk fun K => ?_))); repeat' (with_reducible refine And.intro ?_ ?_))
        all_goals exact H
  · have d1 : decide (¬ r = res) = true := decide_eq_true c1
    rw [if_neg c1] at e
    have hw : IntKind.i64.wrap 1 = (1 : Int) := by decide
    by_cases c2 : (1 : Int) < m.rep
    · have d2 : decide ((1 : Int) < m.rep) = true := decide_eq_true c2
      rw [if_pos (.inl c2)] at e
      cases e
      refine w_body (rs := [.tmp 4]) (tm := [.ptr p 0, .int .i64 v, .any, .any, .any, .any, .any, .any, .any, .any, .any, .any, .any, .any, .any, .any, .any, .any, .any, .any, .any, .any, .any, .any, .any, .any, .any, .any, .any, .any, .any, .any, .any, .any, .any, .any, .any, .any, .any, .any, .any, .any, .any, .any, .any, .any, .any, .any, .any, .any, .any, .any, .any, .any]) fn_30 rfl rfl rfl rfl fun R hR => ?_
      (have zx1 := @hr; have zx2 := @d1; have zx3 := @d2; have zx4 := @hw; have zx5 := @o; have zx6 := @t2; all_goals (try ((with_reducible first | refine wp_id ?_ | refine does_id ?_ | refine ops_id ?_ | refine dw_id ?_); refine walk ?_; (repeat' (first | exact trivial | with_reducible refine And.intro ?_ ?_)); all_goals (repeat with_reducible first | refine ImpB.mk fun hb => ?_ | refine ImpK.mk fun hK => ?_ | refine ImpF.mk fun hF => ?_ | refine ImpQ.mk fun hp => ?_ | refine AllE.mk fun p => ?_ | refine AllR.mk fun rest => ?_ | refine AllK.mk fun K => ?_))); repeat' (with_reducible refine And.intro ?_ ?_))
      all_goals exact H
    · have d2 : decide ((1 : Int) < m.rep) = false := decide_eq_false c2
      by_cases c3 : st = r
      · have d3 : decide (st = r) = true := decide_eq_true c3
        rw [if_pos (.inr c3)] at e
        cases e
        refine w_body (rs := [.tmp 4]) (tm := [.ptr p 0, .int .i64 v, .any, .any, .any, .any, .any, .any, .any, .any, .any, .any, .any, .any, .any, .any, .any, .any, .any, .any, .any, .any, .any, .any, .any, .any, .any, .any, .any, .any, .any, .any, .any, .any, .any, .any, .any, .any, .any, .any, .any, .any, .any, .any, .any, .any, .any, .any, .any, .any, .any, .any, .any, .any]) fn_30 rfl rfl rfl rfl fun R hR => ?_
        (have zx1 := @hr; have zx2 := @d1; have zx3 := @d2; have zx4 := @d3; have zx5 := @hw; have zx6 := @o; have zx7 := @t2; all_goals (try ((with_reducible first | refine wp_id ?_ | refine does_id ?_ | refine ops_id ?_ | refine dw_id ?_); refine walk ?_; (repeat' (first | exact trivial | with_reducible refine And.intro ?_ ?_)); all_goals (repeat with_reducible first | refine ImpB.mk fun hb => ?_ | refine ImpK.mk fun hK => ?_ | refine ImpF.mk fun hF => ?_ | refine ImpQ.mk fun hp => ?_ | refine AllE.mk fun p => ?_ | refine AllR.mk fun rest => ?_ | refine AllK.mk fun K => ?_))); repeat' (with_reducible refine And.intro ?_ ?_))
        all_goals exact H
      · have d3 : decide (st = r) = false := decide_eq_false c3
        rw [if_neg (fun q => q.elim c2 c3)] at e
        cases e
        refine w_body (rs := [.tmp 4]) (tm := [.ptr p 0, .int .i64 v, .any, .any, .any, .any, .any, .any, .any, .any, .any, .any, .any, .any, .any, .any, .any, .any, .any, .any, .any, .any, .any, .any, .any, .any, .any, .any, .any, .any, .any, .any, .any, .any, .any, .any, .any, .any, .any, .any, .any, .any, .any, .any, .any, .any, .any, .any, .any, .any, .any, .any, .any, .any]) fn_30 rfl rfl rfl rfl fun R hR => ?_
        (have zx1 := @hr; have zx2 := @d1; have zx3 := @d2; have zx4 := @d3; have zx5 := @hw; have zx6 := @o; have zx7 := @t2; all_goals (try ((with_reducible first | refine wp_id ?_ | refine does_id ?_ | refine ops_id ?_ | refine dw_id ?_); refine walk ?_; (repeat' (first | exact trivial | with_reducible refine And.intro ?_ ?_)); all_goals (repeat with_reducible first | refine ImpB.mk fun hb => ?_ | refine ImpK.mk fun hK => ?_ | refine ImpF.mk fun hF => ?_ | refine ImpQ.mk fun hp => ?_ | refine AllE.mk fun p => ?_ | refine AllR.mk fun rest => ?_ | refine AllK.mk fun K => ?_))); repeat' (with_reducible refine And.intro ?_ ?_))
        all_goals exact H
theorem k_feedSE {n0 : Nat} {h : List Ch} {K : KT} {p : Nat} {m : Mon} {off : Bool} {st res run v : Int} {t : Bool} {st2 res2 run2 : Int} (o : hth h p = .cells (enX m (.ifc 105 (.agg [.int .i64 m.low])) off st res run)) (e : fdR m.rep st res run (rsE m.low v) = (t, st2, res2, run2)) (h0 : 0 ≤ run ∧ run ≤ 1000000) (H : K (.bool t) (h.set p (.cells (enX m (.ifc 105 (.agg [.int .i64 m.low])) off st2 res2 run2)))) : DoesK Try.prog n0 30 [.ptr p 0, .int .i64 v] h K := by
  have t2 := symQ (h := h) (p := p) (hth_lt (by rw [o]; simp))
  obtain ⟨r, hr⟩ : ∃ r, rsE m.low v = r := ⟨_, rfl⟩
  rw [hr] at e
  unfold fdR at e
  by_cases c1 : r = res
  · have d1 : decide (¬ r = res) = false := decide_eq_false (fun q => q c1)
    rw [if_pos c1] at e
    have hw : IntKind.i64.wrap (run + 1) = run + 1 := wrap_i64 _ (by omega) (by omega)
    by_cases c2 : run + 1 < m.rep
    · have d2 : decide (run + 1 < m.rep) = true := decide_eq_true c2
      rw [if_pos (.inl c2)] at e
      cases e
      subst c1
      refine w_body (rs := [.tmp 4]) (tm := [.ptr p 0, .int .i64 v, .any, .any, .any, .any, .any, .any, .any, .any, .any, .any, .any, .any, .any, .any, .any, .any, .any, .any, .any, .any, .any, .any, .any, .any, .any, .any, .any, .any, .any, .any, .any, .any, .any, .any, .any, .any, .any, .any, .any, .any, .any, .any, .any, .any, .any, .any, .any, .any, .any, .any, .any, .any]) fn_30 rfl rfl rfl rfl fun R hR => ?_
      (have zx1 := @hr; have zx2 := @d1; have zx3 := @d2; have zx4 := @hw; have zx5 := @o; have zx6 := @t2; all_goals (try ((with_reducible first | refine wp_id ?_ | refine does_id ?_ | refine ops_id ?_ | refine dw_id ?_); refine walk ?_; (repeat' (first | exact trivial | with_reducible refine And.intro ?_ ?_)); all_goals (repeat with_reducible first | refine ImpB.mk fun hb => ?_ | refine ImpK.mk fun hK => ?_ | refine ImpF.mk fun hF => ?_ | refine ImpQ.mk fun hp => ?_ | refine AllE.mk fun p => ?_ | refine AllR.mk fun rest => ?_ | refine AllK.mk fun K => ?_))); repeat' (with_reducible refine And.intro ?_ ?_))
      all_goals exact H
    · have d2 : decide (run + 1 < m.rep) = false := decide_eq_false c2
      by_cases c3 : st = r
      · have d3 : decide (st = r) = true := decide_eq_true c3
        rw [if_pos (.inr c3)] at e
        cases e
        subst c1
        refine w_body (rs := [.tmp 4]) (tm := [.ptr p 0, .int .i64 v, .any, .any, .any, .any, .any, .any, .any, .any, .any, .any, .any, .any, .any, .any, .any, .any, .any, .any, .any, .any, .any, .any, .any, .any, .any, .any, .any, .any, .any, .any, .any, .any, .any, .any, .any, .any, .any, .any, .any, .any, .any, .any, .any, .any, .any, .any, .any, .any, .any, .any, .any, .any]) fn_30 rfl rfl rfl rfl fun R hR => ?_
        (have zx1 := @hr; have zx2 := @d1; have zx3 := @d2; have zx4 := @d3; have zx5 := @hw; have zx6 := @o; have zx7 := @t2; all_goals (try ((with_reducible first | refine wp_id ?_ | refine does_id ?_ | refine ops_id ?_ | refine dw_id ?_); refine walk ?_; (repeat' (first | exact trivial | with_reducible refine And.intro ?_ ?_)); all_goals (repeat with_reducible first | refine ImpB.mk fun hb => ?_ | refine ImpK.mk fun hK => ?_ | refine ImpF.mk fun hF => ?_ | refine ImpQ.mk fun hp => ?_ | refine AllE.mk fun p => ?_ | refine AllR.mk fun rest => ?_ | refine AllK.mk fun K => ?_))); repeat' (with_reducible refine And.intro ?_ ?_))
        all_goals exact H
      · have d3 : decide (st = r) = false := decide_eq_false c3
        rw [if_neg (fun q => q.elim c2 c3)] at e
        cases e
        subst c1
        refine w_body (rs := [.tmp 4]) (tm := [.ptr p 0, .int .i64 v, .any, .any, .any, .any, .any, .any, .any, .any, .any, .any, .any, .any, .any, .any, .any, .any, .any, .any, .any, .any, .any, .any, .any, .any, .any, .any, .any, .any, .any, .any, .any, .any, .any, .any, .any, .any, .any, .any, .any, .any, .any, .any, .any, .any, .any, .any, .any, .any, .any, .any, .any, .any]) fn_30 rfl rfl rfl rfl fun R hR => ?_
        (have zx1 := @hr; have zx2 := @d1; have zx3 := @d2; have zx4 := @d3; have zx5 := @hw; have zx6 := @o; have zx7 := @t2; all_goals (try ((with_reducible first | refine wp_id ?_ | refine does_id ?_ | refine ops_id ?_ | refine dw_id ?_); refine walk ?_; (repeat' (first | exact trivial | with_reducible refine And.intro ?_ ?_)); all_goals (repeat with_reducible first | refine ImpB.mk fun hb => ?_ | refine ImpK.mk fun hK => ?_ | refine ImpF.mk fun hF => ?_ | refine ImpQ.mk fun hp => ?_ | refine AllE.mk fun p => ?_ | refine AllR.mk fun rest => ?_ | refine AllK.mk fun K => ?_))); repeat' (with_reducible refine And.intro ?_ ?_))
        all_goals exact H
  · have d1 : decide (¬ r = res) = true := decide_eq_true c1
    rw [if_neg c1] at e
    have hw : IntKind.i64.wrap 1 = (1 : Int) := by decide
    by_cases c2 : (1 : Int) < m.rep
    · have d2 : decide ((1 : Int) < m.rep) = true := decide_eq_true c2
      rw [if_pos (.inl c2)] at e
      cases e
      refine w_body (rs := [.tmp 4]) (tm := [.ptr p 0, .int .i64 v, .any, .any, .any, .any, .any, .any, .any, .any, .any, .any, .any, .any, .any, .any, .any, .any, .any, .any, .any, .any, .any, .any, .any, .any, .any, .any, .any, .any, .any, .any, .any, .any, .any, .any, .any, .any, .any, .any, .any, .any, .any, .any, .any, .any, .any, .any, .any, .any, .any, .any, .any, .any]) fn_30 rfl rfl rfl rfl fun R hR => ?_
      (have zx1 := @hr; have zx2 := @d1; have zx3 := @d2; have zx4 := @hw; have zx5 := @o; have zx6 := @t2; all_goals (try ((with_reducible first | refine wp_id ?_ | refine does_id ?_ | refine ops_id ?_ | refine dw_id ?_); refine walk ?_; (repeat' (first | exact trivial | with_reducible refine And.intro ?_ ?_)); all_goals (repeat with_reducible first | refine ImpB.mk fun hb => ?_ | refine ImpK.mk fun hK => ?_ | refine ImpF.mk fun hF => ?_ | refine ImpQ.mk fun hp => ?_ | refine AllE.mk fun p => ?_ | refine AllR.mk fun rest => ?_ | refine AllK.mk fun K => ?_))); repeat' (with_reducible refine And.intro ?_ ?_))
      all_goals exact H
    · have d2 : decide ((1 : Int) < m.rep) = false := decide_eq_false c2
      by_cases c3 : st = r
      · have d3 : decide (st = r) = true := decide_eq_true c3
        rw [if_pos (.inr c3)] at e
        cases e
        refine w_body (rs := [.tmp 4]) (tm := [.ptr p 0, .int .i64 v, .any, .any, .any, .any, .any, .any, .any, .any, .any, .any, .any, .any, .any, .any, .any, .any, .any, .any, .any, .any, .any, .any, .any, .any, .any, .any, .any, .any, .any, .any, .any, .any, .any, .any, .any, .any, .any, .any, .any, .any, .any, .any, .any, .any, .any, .any, .any, .any, .any, .any, .any, .any]) fn_30 rfl rfl rfl rfl fun R hR => ?_
        (have zx1 := @hr; have zx2 := @d1; have zx3 := @d2; have zx4 := @d3; have zx5 := @hw; have zx6 := @o; have zx7 := @t2; all_goals (try ((with_reducible first | refine wp_id ?_ | refine does_id ?_ | refine ops_id ?_ | refine dw_id ?_); refine walk ?_; (repeat' (first | exact trivial | with_reducible refine And.intro ?_ ?_)); all_goals (repeat with_reducible first | refine ImpB.mk fun hb => ?_ | refine ImpK.mk fun hK => ?_ | refine ImpF.mk fun hF => ?_ | refine ImpQ.mk fun hp => ?_ | refine AllE.mk fun p => ?_ | refine AllR.mk fun rest => ?_ | refine AllK.mk fun K => ?_))); repeat' (with_reducible refine And.intro ?_ ?_))
        all_goals exact H
      · have d3 : decide (st = r) = false := decide_eq_false c3
        rw [if_neg (fun q => q.elim c2 c3)] at e
        cases e
        refine w_body (rs := [.tmp 4]) (tm := [.ptr p 0, .int .i64 v, .any, .any, .any, .any, .any, .any, .any, .any, .any, .any, .any, .any, .any, .any, .any, .any, .any, .any, .any, .any, .any, .any, .any, .any, .any, .any, .any, .any, .any, .any, .any, .any, .any, .any, .any, .any, .any, .any, .any, .any, .any, .any, .any, .any, .any, .any, .any, .any, .any, .any, .any, .any]) fn_30 rfl rfl rfl rfl fun R hR => ?_
        (have zx1 := @hr; have zx2 := @d1; have zx3 := @d2; have zx4 := @d3; have zx5 := @hw; have zx6 := @o; have zx7 := @t2; all_goals (try ((with_reducible first | refine wp_id ?_ | refine does_id ?_ | refine ops_id ?_ | refine dw_id ?_); refine walk ?_; (repeat' (first | exact trivial | with_reducible refine And.intro ?_ ?_)); all_goals (repeat with_reducible first | refine ImpB.mk fun hb => ?_ | refine ImpK.mk fun hK => ?_ | refine ImpF.mk fun hF => ?_ | refine ImpQ.mk fun hp => ?_ | refine AllE.mk fun p => ?_ | refine AllR.mk fun rest => ?_ | refine AllK.mk fun K => ?_))); repeat' (with_reducible refine And.intro ?_ ?_))
        all_goals exact H
theorem k_feedSD {n0 : Nat} {h : List Ch} {K : KT} {p : Nat} {m : Mon} {off : Bool} {st res run v : Int} {t : Bool} {st2 res2 run2 : Int} {d : Nat} {bg : Bool} {last : Int} (o : hth h p = .cells (enX m (.ifc 98 (.ptr d 0)) off st res run)) (o1 : hth h d = .cells (dlL m.high bg last)) (hpd : p ≠ d) (q1 : VR v) (q2 : VR last) (e : fdR m.rep st res run (rsD m.high bg last v) = (t, st2, res2, run2)) (h0 : 0 ≤ run ∧ run ≤ 1000000) (H : K (.bool t) ((h.set d (.cells (dlL m.high true v))).set p (.cells (enX m (.ifc 98 (.ptr d 0)) off st2 res2 run2)))) : DoesK Try.prog n0 30 [.ptr p 0, .int .i64 v] h K := by
  have hpl : p < h.length := hth_lt (by rw [o]; simp)
  have t2 := symQ (h := h.set d (.cells (dlL m.high true v))) (p := p) (by rw [List.length_set]; exact hpl)
  have o2 : hth (h.set d (.cells (dlL m.high true v))) p = .cells (enX m (.ifc 98 (.ptr d 0)) off st res run) := by rw [hth_set_ne (Ne.symm hpd), o]
  obtain ⟨r, hr⟩ : ∃ r, rsD m.high bg last v = r := ⟨_, rfl⟩
  rw [hr] at e
  unfold fdR at e
  by_cases c1 : r = res
  · have d1 : decide (¬ r = res) = false := decide_eq_false (fun q => q c1)
    rw [if_pos c1] at e
    have hw : IntKind.i64.wrap (run + 1) = run + 1 := wrap_i64 _ (by omega) (by omega)
    by_cases c2 : run + 1 < m.rep
    · have d2 : decide (run + 1 < m.rep) = true := decide_eq_true c2
      rw [if_pos (.inl c2)] at e
      cases e
      subst c1
      refine w_body (rs := [.tmp 4]) (tm := [.ptr p 0, .int .i64 v, .any, .any, .any, .any, .any, .any, .any, .any, .any, .any, .any, .any, .any, .any, .any, .any, .any, .any, .any, .any, .any, .any, .any, .any, .any, .any, .any, .any, .any, .any, .any, .any, .any, .any, .any, .any, .any, .any, .any, .any, .any, .any, .any, .any, .any, .any, .any, .any, .any, .any, .any, .any]) fn_30 rfl rfl rfl rfl fun R hR => ?_
      (have zx1 := @hr; have zx2 := @d1; have zx3 := @d2; have zx4 := @hw; have zx5 := @o; have zx6 := @o1; have zx7 := @t2; have zx8 := @o2; all_goals (try ((with_reducible first | refine wp_id ?_ | refine does_id ?_ | refine ops_id ?_ | refine dw_id ?_); refine walk ?_; (repeat' (first | exact trivial | with_reducible refine And.intro ?_ ?_)); all_goals (repeat with_reducible first | refine ImpB.mk fun hb => ?_ | refine ImpK.mk fun hK => ?_ | refine ImpF.mk fun hF => ?_ | refine ImpQ.mk fun hp => ?_ | refine AllE.mk fun p => ?_ | refine AllR.mk fun rest => ?_ | refine AllK.mk fun K => ?_))); repeat' (with_reducible refine And.intro ?_ ?_))
      all_goals exact H
    · have d2 : decide (run + 1 < m.rep) = false := decide_eq_false c2
      by_cases c3 : st = r
      · have d3 : decide (st = r) = true := decide_eq_true c3
        rw [if_pos (.inr c3)] at e
        cases e
        subst c1
        refine w_body (rs := [.tmp 4]) (tm := [.ptr p 0, .int .i64 v, .any, .any, .any, .any, .any, .any, .any, .any, .any, .any, .any, .any, .any, .any, .any, .any, .any, .any, .any, .any, .any, .any, .any, .any, .any, .any, .any, .any, .any, .any, .any, .any, .any, .any, .any, .any, .any, .any, .any, .any, .any, .any, .any, .any, .any, .any, .any, .any, .any, .any, .any, .any]) fn_30 rfl rfl rfl rfl fun R hR => ?_
        (have zx1 := @hr; have zx2 := @d1; have zx3 := @d2; have zx4 := @d3; have zx5 := @hw; have zx6 := @o; have zx7 := @o1; have zx8 := @t2; have zx9 := @o2; all_goals (try ((with_reducible first | refine wp_id ?_ | refine does_id ?_ | refine ops_id ?_ | refine dw_id ?_); refine walk ?_; (repeat' (first | exact trivial | with_reducible refine And.intro ?_ ?_)); all_goals (repeat with_reducible first | refine ImpB.mk fun hb => ?_ | refine ImpK.mk fun hK => ?_ | refine ImpF.mk fun hF => ?_ | refine ImpQ.mk fun hp => ?_ | refine AllE.mk fun p => ?_ | refine AllR.mk fun rest => ?_ | refine AllK.mk fun K => ?_))); repeat' (with_reducible refine And.intro ?_ ?_))
        all_goals exact H
      · have d3 : decide (st = r) = false := decide_eq_false c3
        rw [if_neg (fun q => q.elim c2 c3)] at e
        cases e
        subst c1
        refine w_body (rs := [.tmp 4]) (tm := [.ptr p 0, .int .i64 v, .any, .any, .any, .any, .any, .any, .any, .any, .any, .any, .any, .any, .any, .any, .any, .any, .any, .any, .any, .any, .any, .any, .any, .any, .any, .any, .any, .any, .any, .any, .any, .any, .any, .any, .any, .any, .any, .any, .any, .any, .any, .any, .any, .any, .any, .any, .any, .any, .any, .any, .any, .any]) fn_30 rfl rfl rfl rfl fun R hR => ?_
        (have zx1 := @hr; have zx2 := @d1; have zx3 := @d2; have zx4 := @d3; have zx5 := @hw; have zx6 := @o; have zx7 := @o1; have zx8 := @t2; have zx9 := @o2; all_goals (try ((with_reducible first | refine wp_id ?_ | refine does_id ?_ | refine ops_id ?_ | refine dw_id ?_); refine walk ?_; (repeat' (first | exact trivial | with_reducible refine And.intro ?_ ?_)); all_goals (repeat with_reducible first | refine ImpB.mk fun hb => ?_ | refine ImpK.mk fun hK => ?_ | refine ImpF.mk fun hF => ?_ | refine ImpQ.mk fun hp => ?_ | refine AllE.mk fun p => ?_ | refine AllR.mk fun rest => ?_ | refine AllK.mk fun K => ?_))); repeat' (with_reducible refine And.intro ?_ ?_))
        all_goals exact H
  · have d1 : decide (¬ r = res) = true := decide_eq_true c1
    rw [if_neg c1] at e
    have hw : IntKind.i64.wrap 1 = (1 : Int) := by decide
    by_cases c2 : (1 : Int) < m.rep
    · have d2 : decide ((1 : Int) < m.rep) = true := decide_eq_true c2
      rw [if_pos (.inl c2)] at e
      cases e
      refine w_body (rs := [.tmp 4]) (tm := [.ptr p 0, .int .i64 v, .any, .any, .any, .any, .any, .any, .any, .any, .any, .any, .any, .any, .any, .any, .any, .any, .any, .any, .any, .any, .any, .any, .any, .any, .any, .any, .any, .any, .any, .any, .any, .any, .any, .any, .any, .any, .any, .any, .any, .any, .any, .any, .any, .any, .any, .any, .any, .any, .any, .any, .any, .any]) fn_30 rfl rfl rfl rfl fun R hR => ?_
      (have zx1 := @hr; have zx2 := @d1; have zx3 := @d2; have zx4 := @hw; have zx5 := @o; have zx6 := @o1; have zx7 := @t2; have zx8 := @o2; all_goals (try ((with_reducible first | refine wp_id ?_ | refine does_id ?_ | refine ops_id ?_ | refine dw_id ?_); refine walk ?_; (repeat' (first | exact trivial | with_reducible refine And.intro ?_ ?_)); all_goals (repeat with_reducible first | refine ImpB.mk fun hb => ?_ | refine ImpK.mk fun hK => ?_ | refine ImpF.mk fun hF => ?_ | refine ImpQ.mk fun hp => ?_ | refine AllE.mk fun p => ?_ | refine AllR.mk fun rest => ?_ | refine AllK.mk fun K => ?_))); repeat' (with_reducible refine And.intro ?_ ?_))
      all_goals exact H
    · have d2 : decide ((1 : Int) < m.rep) = false := decide_eq_false c2
      by_cases c3 : st = r
      · have d3 : decide (st = r) = true := decide_eq_true c3
        rw [if_pos (.inr c3)] at e
        cases e
        refine w_body (rs := [.tmp 4]) (tm := [.ptr p 0, .int .i64 v, .any, .any, .any, .any, .any, .any, .any, .any, .any, .any, .any, .any, .any, .any, .any, .any, .any, .any, .any, .any, .any, .any, .any, .any, .any, .any, .any, .any, .any, .any, .any, .any, .any, .any, .any, .any, .any, .any, .any, .any, .any, .any, .any, .any, .any, .any, .any, .any, .any, .any, .any, .any]) fn_30 rfl rfl rfl rfl fun R hR => ?_
        (have zx1 := @hr; have zx2 := @d1; have zx3 := @d2; have zx4 := @d3; have zx5 := @hw; have zx6 := @o; have zx7 := @o1; have zx8 := @t2; have zx9 := @o2; all_goals (try ((with_reducible first | refine wp_id ?_ | refine does_id ?_ | refine ops_id ?_ | refine dw_id ?_); refine walk ?_; (repeat' (first | exact trivial | with_reducible refine And.intro ?_ ?_)); all_goals (repeat with_reducible first | refine ImpB.mk fun hb => ?_ | refine ImpK.mk fun hK => ?_ | refine ImpF.mk fun hF => ?_ | refine ImpQ.mk fun hp => ?_ | refine AllE.mk fun p => ?_ | refine AllR.mk fun rest => ?_ | refine AllK.mk fun K => ?_))); repeat' (with_reducible refine And.intro ?_ ?_))
        all_goals exact H
      · have d3 : decide (st = r) = false := decide_eq_false c3
        rw [if_neg (fun q => q.elim c2 c3)] at e
        cases e
        refine w_body (rs := [.tmp 4]) (tm := [.ptr p 0, .int .i64 v, .any, .any, .any, .any, .any, .any, .any, .any, .any, .any, .any, .any, .any, .any, .any, .any, .any, .any, .any, .any, .any, .any, .any, .any, .any, .any, .any, .any, .any, .any, .any, .any, .any, .any, .any, .any, .any, .any, .any, .any, .any, .any, .any, .any, .any, .any, .any, .any, .any, .any, .any, .any]) fn_30 rfl rfl rfl rfl fun R hR => ?_
        (have zx1 := @hr; have zx2 := @d1; have zx3 := @d2; have zx4 := @d3; have zx5 := @hw; have zx6 := @o; have zx7 := @o1; have zx8 := @t2; have zx9 := @o2; all_goals (try ((with_reducible first | refine wp_id ?_ | refine does_id ?_ | refine ops_id ?_ | refine dw_id ?_); refine walk ?_; (repeat' (first | exact trivial | with_reducible refine And.intro ?_ ?_)); all_goals (repeat with_reducible first | refine ImpB.mk fun hb => ?_ | refine ImpK.mk fun hK => ?_ | refine ImpF.mk fun hF => ?_ | refine ImpQ.mk fun hp => ?_ | refine AllE.mk fun p => ?_ | refine AllR.mk fun rest => ?_ | refine AllK.mk fun K => ?_))); repeat' (with_reducible refine And.intro ?_ ?_))
        all_goals exact H
theorem k_feedS {n0 : Nat} {h : List Ch} {K : KT} {p d : Nat} {e : Sm} {v : Int} (he : hth h p = .cells (enC e d)) (hd : e.m.kind = 3 → hth h d = .cells (dlV e) ∧ p ≠ d) (q1 : VR v) (q2 : VR e.last) (h0 : 0 ≤ e.run ∧ e.run ≤ 1000000) (H : K (.bool (fdE e v).1) (fdH h p d e v)) : DoesK Try.prog n0 30 [.ptr p 0, .int .i64 v] h K := by
  obtain ⟨m, off, st, res, run, bg, last⟩ := e
  obtain ⟨t, st2, res2, run2⟩ : ∃ x, fdE ⟨m, off, st, res, run, bg, last⟩ v = x := ⟨_, rfl⟩
  unfold fdH nxE at H
  by_cases c3 : m.kind = 3
  · have hc : ckA m d = .ifc 98 (.ptr d 0) := if_pos c3
    have hr : resE m bg last v = rsD m.high bg last v := if_pos c3
    obtain ⟨g1, g2⟩ := hd c3
    dsimp only at H q2 h0
    rw [if_pos c3] at H
    refine k_feedSD (m := m) (d := d) (off := off) (bg := bg) (last := last) (st := st) (res := res) (run := run) ?_ g1 g2 q1 q2 (e := rfl) h0 ?_
    · rw [he]; show Ch.cells (enX m (ckA m d) off st res run) = _; rw [hc]
    · rw [← hr]
      have H2 := H
      unfold enC dlV at H2
      dsimp only at H2
      rw [hc] at H2
      exact H2
  · by_cases c2 : m.kind = 2
    · have hc : ckA m d = .ifc 105 (.agg [.int .i64 m.low]) := by unfold ckA; rw [if_neg c3, if_pos c2]
      have hr : resE m bg last v = rsE m.low v := by unfold resE; rw [if_neg c3, if_pos c2]; rfl
      dsimp only at H q2 h0
      rw [if_neg c3] at H
      refine k_feedSE (m := m) (off := off) (st := st) (res := res) (run := run) ?_ (e := rfl) h0 ?_
      · rw [he]; show Ch.cells (enX m (ckA m d) off st res run) = _; rw [hc]
      · rw [← hr]
        have H2 := H
        unfold enC at H2
        dsimp only at H2
        rw [hc] at H2
        exact H2
    · have hc : ckA m d = .ifc 103 (.agg [.int .i64 m.low, .int .i64 m.high]) := by unfold ckA; rw [if_neg c3, if_neg c2]
      have hr : resE m bg last v = rsL m.low m.high v := by unfold resE; rw [if_neg c3, if_neg c2]
      dsimp only at H q2 h0
      rw [if_neg c3] at H
      refine k_feedSL (m := m) (off := off) (st := st) (res := res) (run := run) ?_ (e := rfl) h0 ?_
      · rw [he]; show Ch.cells (enX m (ckA m d) off st res run) = _; rw [hc]
      · rw [← hr]
        have H2 := H
        unfold enC at H2
        dsimp only at H2
        rw [hc] at H2
        exact H2
end Go.V
