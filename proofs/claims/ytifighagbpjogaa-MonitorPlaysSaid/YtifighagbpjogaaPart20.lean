/-
  monitor: what MonitorChains keeps from call to call (plain).
  monitor: Check without a pool; State and Monitor at any number.
-/
import Derived.Test.YtifighagbpjogaaPart19
set_option linter.unusedVariables false
set_option linter.unusedSimpArgs false
set_option maxRecDepth 100000
set_option maxHeartbeats 8000000
namespace Go.V
open Go.Proofs
/-- a list that is replaced up to a place -/
def mx {α : Type} (a b : List α) (k : Nat) : List α := a.take k ++ b.drop k
abbrev offL (es : List Sm) : List Bool := es.map (·.off)
theorem mem_at {es : List Sm} {k : Nat} (hk : k < es.length) : eAtS es k ∈ es := by
  have e : eAtS es k = es[k] := by show es.getD k Sm.zero = _; rw [List.getD_eq_getElem?_getD, List.getElem?_eq_getElem hk]; rfl
  rw [e]; exact List.getElem_mem hk
theorem mAt_map {es : List Sm} {l : List Mon} (h : es.map (·.m) = l) {k : Nat} (hk : k < es.length) : mAt l k = (eAtS es k).m := by
  subst h
  show (es.map (·.m)).getD k Mon.zero = (es.getD k Sm.zero).m
  rw [List.getD_eq_getElem?_getD, List.getElem?_map, List.getD_eq_getElem?_getD, List.getElem?_eq_getElem hk]; rfl
/-- the ids ascend -/
theorem okM_lt {l : List Mon} (h : ∀ k, k < l.length → okM l k) {i : Nat} : ∀ {j : Nat}, i < j → j < l.length → (mAt l i).id < (mAt l j).id
  | 0, hij, _ => absurd hij (Nat.not_lt_zero _)
  | j + 1, hij, hj => by
    have h1 : (mAt l j).id < (mAt l (j + 1)).id := by
      rcases (h (j + 1) hj).or_ with q | q
      · omega
      · exact q
    by_cases c : i = j
    · rw [c]; exact h1
    · exact Int.lt_trans (okM_lt h (by omega) (by omega)) h1
/-- the state between two calls -/
structure S36 where
  now : Int
  es : List Sm
  V : Pv
  tm : Int
structure ChI (l : List Mon) (k : Nat) (s : S36) : Prop where
  ms : s.es.map (·.m) = l
  z : ∀ e ∈ s.es, e.off = true → e.st = 0
  V : okPv s.V
  rn : ∀ e ∈ s.es, VR e.last ∧ 0 ≤ e.run ∧ e.run ≤ k
  tm : s.tm ≤ s.now
theorem ms_len {es : List Sm} {l : List Mon} (h : es.map (·.m) = l) : es.length = l.length := by rw [← h, List.length_map]
theorem OkS.of {l : List Mon} {es : List Sm} {k : Nat} (hm : es.map (·.m) = l) (ho : ∀ k, k < l.length → okM l k) (hl : l.length ≤ 256) (hk : k ≤ 1000000) (rn : ∀ e ∈ es, VR e.last ∧ 0 ≤ e.run ∧ e.run ≤ k) : OkS es := by
  have hn := ms_len hm
  refine ⟨by omega, ?_, fun i hi => ?_, fun i hi => ?_⟩
  · rw [SrtE, List.pairwise_iff_getElem]
    intro i j hi hj hij
    have e1 : ∀ {k : Nat} (hk : k < es.length), eAtS es k = es[k] := fun {k} hk => by show es.getD k Sm.zero = _; rw [List.getD_eq_getElem?_getD, List.getElem?_eq_getElem hk]; rfl
    rw [← e1 hi, ← e1 hj, ← mAt_map hm hi, ← mAt_map hm hj]
    exact okM_lt ho hij (by omega)
  · rw [← mAt_map hm hi]
    exact (ho i (by omega)).ck
  · have := rn _ (mem_at hi)
    exact ⟨this.1, this.2.1, by omega⟩
theorem VR0 : VR 0 := ⟨by omega, by omega⟩
theorem okPv_set {V : Pv} (h : okPv V) (id v : Int) : okPv (V.set id v) := by
  unfold Pv.set
  split
  · rename_i q
    have hv : VR v := by
      unfold inP inS inU at q
      split at q
      · rw [Bool.and_eq_true, decide_eq_true_eq, decide_eq_true_eq] at q
        exact ⟨by omega, by omega⟩
      · split at q
        · rw [Bool.and_eq_true, decide_eq_true_eq, decide_eq_true_eq] at q
          exact ⟨by omega, by omega⟩
        · split at q
          · rw [Bool.and_eq_true, decide_eq_true_eq, decide_eq_true_eq] at q
            exact ⟨by omega, by omega⟩
          · cases q
    split
    · exact ⟨hv, h.b, h.c, h.d⟩
    · split
      · exact ⟨h.a, hv, h.c, h.d⟩
      · split
        · exact ⟨h.a, h.b, hv, h.d⟩
        · exact ⟨h.a, h.b, h.c, hv⟩
  · exact h
theorem fdR_run {rep st res run r : Int} : (fdR rep st res run r).2.2.2 = if r = res then run + 1 else 1 := by
  unfold fdR
  split <;> split <;> rfl
theorem chkS_rn {nw : Int} {pv : Int → Option Int} {e : Sm} {k : Nat} (hV : ∀ t v, pv t = some v → VR v) (h : VR e.last ∧ 0 ≤ e.run ∧ e.run ≤ k) : VR (chkS nw pv e).1.last ∧ 0 ≤ (chkS nw pv e).1.run ∧ (chkS nw pv e).1.run ≤ ((k + 1 : Nat) : Int) := by
  obtain ⟨h1, h2, h3⟩ := h
  unfold chkS
  cases hv : pv e.m.param with
  | none => exact ⟨h1, h2, by show e.run ≤ ((k + 1 : Nat) : Int); omega⟩
  | some v =>
    dsimp only
    split
    · exact ⟨h1, h2, by show e.run ≤ ((k + 1 : Nat) : Int); omega⟩
    · refine ⟨hV _ _ hv, ?_, ?_⟩ <;> (dsimp only; rw [fdR_run]; split <;> omega)
theorem ChI.mono {l : List Mon} {k : Nat} {s : S36} (h : ChI l k s) : ChI l (k + 1) s := ⟨h.ms, h.z, h.V, fun e he => by have := h.rn e he; exact ⟨this.1, this.2.1, by omega⟩, h.tm⟩
theorem ChI.set {l : List Mon} {k : Nat} {now tm : Int} {es : List Sm} {V : Pv} (h : ChI l k ⟨now, es, V, tm⟩) (id v : Int) : ChI l (k + 1) ⟨now, es, V.set id v, tm⟩ := by
  have := h.mono
  exact ⟨this.ms, this.z, okPv_set h.V id v, this.rn, this.tm⟩
theorem enaS_m (on : Bool) (e : Sm) : (enaS on e).m = e.m := by unfold enaS; split <;> rfl
theorem enaS_off (on : Bool) (e : Sm) : (enaS on e).off = !on := by
  unfold enaS
  split
  · rename_i c; rw [c.1]; rfl
  · rfl
theorem enaS_z {on : Bool} {e : Sm} (hz : e.off = true → e.st = 0) : ((enaS on e).off = true → (enaS on e).st = 0) ∧ ((enaS on e).off = false → (enaS on e).st = e.st) := by
  rw [enaS_off]
  cases on with
  | true => exact ⟨fun q => (by cases q), fun _ => by unfold enaS; rw [if_neg (fun q => by cases q.1)]⟩
  | false =>
    refine ⟨fun _ => ?_, fun q => (by cases q)⟩
    unfold enaS
    cases ho : e.off with
    | false => rw [if_pos ⟨rfl, rfl⟩]
    | true => rw [if_neg (fun q => by cases q.2)]; exact hz ho
theorem enaL_z {id : Int} {on : Bool} {es : List Sm} (hz : ∀ e ∈ es, e.off = true → e.st = 0) : ∀ e ∈ enaL id on es, e.off = true → e.st = 0 := fun e he => by
  obtain ⟨x, hx, rfl⟩ := List.mem_map.1 he
  split
  · exact (enaS_z (hz x hx)).1
  · exact hz x hx
theorem enaL_m {id : Int} {on : Bool} {es : List Sm} : (enaL id on es).map (·.m) = es.map (·.m) := by
  unfold enaL
  rw [List.map_map]
  refine List.map_congr_left fun e _ => ?_
  show (if e.m.id = id then enaS on e else e).m = e.m
  split
  · exact enaS_m on e
  · rfl
theorem ChI.ena {l : List Mon} {k : Nat} {now tm : Int} {es : List Sm} {V : Pv} (h : ChI l k ⟨now, es, V, tm⟩) (id : Int) (on : Bool) : ChI l (k + 1) ⟨now, enaL id on es, V, tm⟩ := by
  refine ⟨by show (enaL id on es).map (·.m) = l; rw [enaL_m]; exact h.ms, enaL_z h.z, h.V, fun e he => ?_, h.tm⟩
  obtain ⟨x, hx, rfl⟩ := List.mem_map.1 he
  have h1 := h.mono.rn x hx
  split
  · unfold enaS
    split
    · exact ⟨VR0, Int.le_refl _, by show (0 : Int) ≤ ((k + 1 : Nat) : Int); omega⟩
    · exact h1
  · exact h1
theorem chkL_m {nw : Int} {pv : Int → Option Int} {es : List Sm} : (chkL nw pv es).map (·.m) = es.map (·.m) ∧ offL (chkL nw pv es) = offL es := by
  unfold chkL
  constructor
  · rw [List.map_map]; exact List.map_congr_left fun e _ => (chkS_m nw pv e).1
  · show (es.map fun e => (chkS nw pv e).1).map (fun x : Sm => x.off) = es.map (fun x : Sm => x.off)
    rw [List.map_map]; exact List.map_congr_left fun e _ => (chkS_m nw pv e).2
theorem ChI.chk {l : List Mon} {k : Nat} {now tm tm' : Int} {es : List Sm} {V : Pv} (h : ChI l k ⟨now, es, V, tm⟩) {nw : Int} (ht : tm' ≤ nw) : ChI l (k + 1) ⟨nw, chkL nw V.get es, V, tm'⟩ := by
  refine ⟨by show (chkL nw V.get es).map (·.m) = l; rw [chkL_m.1]; exact h.ms, fun e he ho => ?_, h.V, fun e he => ?_, ht⟩
  · obtain ⟨x, hx, rfl⟩ := List.mem_map.1 he
    have h1 := chkS_m nw V.get x
    rw [h1.2] at ho
    rcases chkS_cases nw V.get x with ⟨-, q⟩ | ⟨v, -, -, q⟩
    · rw [q]; exact h.z x hx ho
    · rw [ho] at q; cases q
  · obtain ⟨x, hx, rfl⟩ := List.mem_map.1 he
    exact chkS_rn (fun t v => VR_get h.V) (h.rn x hx)
theorem chkO_len {nw : Int} {pv : Int → Option Int} {es : List Sm} : (chkO nw pv es).length ≤ es.length := by
  rw [← trK_all]
  exact trK_len (Nat.le_refl _)
theorem ChI.init (l : List Mon) : ChI l 0 ⟨0, l.map mkS, ⟨0, 0, 0, 0⟩, 0⟩ := by
  refine ⟨?_, fun e he _ => ?_, ⟨VR0, VR0, VR0, VR0⟩, fun e he => ?_, Int.le_refl _⟩
  · show (l.map mkS).map (·.m) = l
    rw [List.map_map]
    exact List.map_id l
  · obtain ⟨x, _, rfl⟩ := List.mem_map.1 he; rfl
  · obtain ⟨x, _, rfl⟩ := List.mem_map.1 he
    exact ⟨VR0, Int.le_refl _, Int.le_refl _⟩
end Go.V

set_option maxRecDepth 100000
set_option maxHeartbeats 8000000
namespace Go.V
open Go.Proofs
attribute [-go_sem] SL PL
theorem b_defNil (t : Int) : DoesK Try.prog 0 27 [.lit (.pointer none), .int .i64 t] [] (EndF 0 (.tup [.lit (.pointer none), .int .i64 2]) []) := by
  refine DoesK.close ?_
  have hu : ∀ {h : List Ch} {K : KT}, K (.bool false) h → Does Try.prog 41 [.lit (.pointer none)] h K := fun {h K} H => by
    refine Does.of_K ?_
    refine w_body (rs := [.tmp 2]) (tm := [.lit (.pointer none), .any, .any, .any, .any, .any, .any, .any, .any, .any, .any]) fn_41 rfl rfl rfl rfl fun R hR => ?_
    (all_goals (try ((with_reducible first | refine wp_id ?_ | refine does_id ?_ | refine ops_id ?_ | refine dw_id ?_); refine walk ?_; (repeat' (first | exact trivial | with_reducible refine And.intro ?_ ?_)); all_goals (repeat with_reducible first | refine ImpB.mk fun hb => ?_ | refine ImpK.mk fun hK => ?_ | refine ImpF.mk fun hF => ?_ | refine ImpQ.mk fun hp => ?_ | refine AllE.mk fun p => ?_ | refine AllR.mk fun rest => ?_ | refine AllK.mk fun K => ?_))); repeat' (with_reducible refine And.intro ?_ ?_))
    exact H
  have inst := Ctr.mk (i := 1) (g := 41) @hu
  refine w_body (rs := [.tmp 4, .tmp 5]) (tm := [.lit (.pointer none), .int .i64 t, .any, .any, .any, .any, .any, .any, .any, .any, .any, .any, .any, .any, .any, .any, .any, .any, .any, .any, .any, .any, .any, .any, .any, .any, .any, .any]) fn_27 rfl rfl rfl rfl fun R hR => ?_
  (all_goals (try ((with_reducible first | refine wp_id ?_ | refine does_id ?_ | refine ops_id ?_ | refine dw_id ?_); refine walk ?_; (repeat' (first | exact trivial | with_reducible refine And.intro ?_ ?_)); all_goals (repeat with_reducible first | refine ImpB.mk fun hb => ?_ | refine ImpK.mk fun hK => ?_ | refine ImpF.mk fun hF => ?_ | refine ImpQ.mk fun hp => ?_ | refine AllE.mk fun p => ?_ | refine AllR.mk fun rest => ?_ | refine AllK.mk fun K => ?_))); repeat' (with_reducible refine And.intro ?_ ?_))
  (focus (refine ⟨_, _, Gh.refl, [], rfl, ?_⟩; (refine fitq ?_ ?_ ?_ <;> try exact trivial); (try any_goals (refine ⟨?_, ?_⟩)); (try any_goals (with_reducible rfl))))
  all_goals (repeat' (first | (refine And.intro ?_ ?_) | rfl))
theorem c_defNil {h : List Ch} {K : KT} {t : Int} (H : K (.tup [.lit (.pointer none), .int .i64 2]) h) : Does Try.prog 27 [.lit (.pointer none), .int .i64 t] h K :=
  frame_pure (b_defNil t) (br_cons br_lit (br_cons br_int br_nil)) (.inl rfl) (fun _ => rfl) H
abbrev i_defNil := Ctr.mk (i := 2) (g := 27) @c_defNil
attribute [instance] i_defNil
theorem b_getNil (t : Int) : DoesK Try.prog 0 29 [.lit (.pointer none), .int .i64 t] [] (EndF 0 (.tup [.int .i64 0, .int .i64 2]) []) := by
  refine DoesK.close ?_
  have hz : decide (¬ (2 : Int) = 0) = true := by decide
  refine w_body (rs := [.tmp 4, .tmp 5]) (tm := [.lit (.pointer none), .int .i64 t, .any, .any, .any, .any, .any, .any, .any, .any, .any, .any, .any, .any, .any, .any, .any, .any, .any, .any, .any]) fn_29 rfl rfl rfl rfl fun R hR => ?_
  (have zx1 := @hz; all_goals (try ((with_reducible first | refine wp_id ?_ | refine does_id ?_ | refine ops_id ?_ | refine dw_id ?_); refine walk ?_; (repeat' (first | exact trivial | with_reducible refine And.intro ?_ ?_)); all_goals (repeat with_reducible first | refine ImpB.mk fun hb => ?_ | refine ImpK.mk fun hK => ?_ | refine ImpF.mk fun hF => ?_ | refine ImpQ.mk fun hp => ?_ | refine AllE.mk fun p => ?_ | refine AllR.mk fun rest => ?_ | refine AllK.mk fun K => ?_))); repeat' (with_reducible refine And.intro ?_ ?_))
  (focus (refine ⟨_, _, Gh.refl, [], rfl, ?_⟩; (refine fitq ?_ ?_ ?_ <;> try exact trivial); (try any_goals (refine ⟨?_, ?_⟩)); (try any_goals (with_reducible rfl))))
  all_goals (repeat' (first | (refine And.intro ?_ ?_) | rfl))
theorem c_getNil {h : List Ch} {K : KT} {t : Int} (H : K (.tup [.int .i64 0, .int .i64 2]) h) : Does Try.prog 29 [.lit (.pointer none), .int .i64 t] h K :=
  frame_pure (b_getNil t) (br_cons br_lit (br_cons br_int br_nil)) (.inl rfl) (fun _ => rfl) H
abbrev i_getNil := Ctr.mk (i := 3) (g := 29) @c_getNil
attribute [instance] i_getNil
theorem end_srvNil {g : List Ch} {v : Nat} {ts : List (Nat × Nat)} {now : Int} {es : List Sm} {e : Ety} (a : Srv g 0 v ts now es) : ∃ v' h2, Gh [.lit (.slice none 0 0)] g [v'] h2 ∧ EndF 1 (.ro e []) ([.pack (SV now es)] ++ []) v' h2 := by
  have hc : hth (closeH g 0 (v :: ilv ts) (SV now es)) 0 = .pack (SV now es) := by
    unfold closeH
    exact hth_set_eq (by rw [goneH_len]; exact a.lt 0 (by simp))
  refine ⟨_, _, Gh.trans (gh_nil (s := 0) e trivial) (gh_close a.shut), [0], rfl, ⟨fit_ro _ e [], trivial⟩, ⟨hth_lt (by rw [hc]; simp), by rw [hc]; exact rfl, trivial⟩, by simp⟩
theorem b_chkNE (now n : Int) (es : List Sm) (hp : 0 < es.length) (hl : es.length ≤ 256) :
    DoesK Try.prog 1 12 [.ptr 0 0, .int .i64 n, .lit (.pointer none)] [.pack (SV now es)] (EndF 1 (.ro .tra []) ([.pack (SV (nowQ now n) es)] ++ [])) := by
  refine DoesK.close ?_
  obtain ⟨nw, hnw⟩ : ∃ z, nowQ now n = z := ⟨_, rfl⟩
  rw [hnw]
  unfold nowQ at hnw
  have hz2 : decide (¬ (2 : Int) = 0) = true := by decide
  by_cases q1 : n ≤ 1099511627776
  · have d1 : decide (n ≤ 1099511627776) = true := decide_eq_true q1
    rw [if_pos q1] at hnw
    refine w_body (rs := [.tmp 6]) (tm := [.ptr 0 0, .int .i64 n, .lit (.pointer none), .any, .any, .any, .any, .any, .any, .any, .any, .any, .any, .any, .any, .any, .any, .any, .any, .any, .any, .any, .any, .any, .any, .any, .any, .any, .any, .any, .any, .any, .any, .any, .any, .any, .any, .any, .any, .any, .any, .any, .any, .any, .any, .any, .any, .any, .any, .any, .any, .any, .any, .any, .any, .any, .any, .any, .any, .any, .any, .any, .any, .any, .any, .any, .any, .any, .any, .any, .any, .any, .any, .any, .any, .any, .any, .any, .any, .any, .any, .any, .any, .any, .any, .any, .any, .any]) fn_12 rfl rfl rfl rfl fun R hR => ?_
    refine w_openS hp ?_
    have A0 := srv_open (now := now) hp
    generalize SV now es = gg at A0 ⊢
    generalize plc 2 es.length = ts at A0
    have oo : hth gg 0 = .cells [.bool true, .int .i64 now, .csl 1 es.length 1] := A0.o
    have A := A0.time (now' := nw)
    have o3 : hth (gg.set 0 (.cells [.bool true, .int .i64 nw, .csl 1 es.length 1])) 0 = .cells [.bool true, .int .i64 nw, .csl 1 es.length 1] := A.o
    clear A0
    obtain ⟨g, hg0⟩ : ∃ g0, gg.set 0 (.cells [.bool true, .int .i64 nw, .csl 1 es.length 1]) = g0 := ⟨_, rfl⟩
    rw [hg0] at A o3
    (have zx1 := @d1; have zx2 := @hnw; have zx3 := @oo; have zx4 := @hg0; have zx5 := @o3; all_goals (try ((with_reducible first | refine wp_id ?_ | refine does_id ?_ | refine ops_id ?_ | refine dw_id ?_); refine walk ?_; (repeat' (first | exact trivial | with_reducible refine And.intro ?_ ?_)); all_goals (repeat with_reducible first | refine ImpB.mk fun hb => ?_ | refine ImpK.mk fun hK => ?_ | refine ImpF.mk fun hF => ?_ | refine ImpQ.mk fun hp => ?_ | refine AllE.mk fun p => ?_ | refine AllR.mk fun rest => ?_ | refine AllK.mk fun K => ?_))); repeat' (with_reducible refine And.intro ?_ ?_))
    any_goals ((try (refine w_seq fun K hK => ?_)); (try (refine w_block ?_)); refine w_loopS (A := Nat) (fun k => k ≤ es.length) (fun k => es.length - k) (fun k => [(38, .int .i64 k), (7, .lit (.slice none 0 0))]) (0) (ws := ?ws3) (tk := ?tk3) ?hw3 ?ht3 ?hi ?h0 ?LH3; (case hw3 => simp only [go_sem, decide_true, decide_false, Int.reduceToNat, Nat.min_eq_left, Nat.min_eq_right, Int.reducePow, Nat.reducePow, Int.reduceLE, Int.reduceLT, Int.reduceMul, Int.reduceAdd, Int.reduceSub, Int.reduceNeg, Bool.not_true, Bool.not_false, Bool.not_not, ↓reduceIte, Nat.reduceAdd, Nat.reduceSub, Nat.reduceMul, Nat.reduceEqDiff, reduceCtorEq, Nat.reduceLT, Nat.reduceLeDiff, Nat.reduceGT]; exact rfl); (case ht3 => simp only [go_sem, decide_true, decide_false, Int.reduceToNat, Nat.min_eq_left, Nat.min_eq_right, Int.reducePow, Nat.reducePow, Int.reduceLE, Int.reduceLT, Int.reduceMul, Int.reduceAdd, Int.reduceSub, Int.reduceNeg, Bool.not_true, Bool.not_false, Bool.not_not, ↓reduceIte, Nat.reduceAdd, Nat.reduceSub, Nat.reduceMul, Nat.reduceEqDiff, reduceCtorEq, Nat.reduceLT, Nat.reduceLeDiff, Nat.reduceGT]; exact rfl); (case' LH3 => rintro k E t hx hE ht; simp only [go_sem] at ht; subst ht; simp only [go_sem]; try dsimp only at hx))
    case hi => exact Nat.zero_le _
    case h0 => (focus (simp only [go_sem]; (repeat' (first | exact sub_nil | refine sub_cons ?_ ?_)); (any_goals (first | exact .inl rfl | exact .inr rfl)); (try any_goals (refine .inr ?_)); (try any_goals (refine congrArg _ ?_))))
    case LH3 =>
      have hk0 : k ≤ es.length := hx
      by_cases hk : k < es.length
      · have hkd : decide ((k : Int) < (es.length : Int)) = true := decide_eq_true (by omega)
        have hkw : IntKind.i64.wrap ((k : Int) + 1) = ((k + 1 : Nat) : Int) := by rw [wrap_i64 _ (by omega) (by omega)]; omega
        have hpk := ptA_at (l := ts) (i := k) (by rw [A.len]; exact hk)
        have hpl : (ptA ts).length = es.length := by rw [ptA_len, A.len]
        have hent := A.ent k hk
        have o1 := A.o1
        obtain ⟨p, hpe⟩ : ∃ p, (ts.getD k (0, 0)).1 = p := ⟨_, rfl⟩
        obtain ⟨d, hde⟩ : ∃ d, (ts.getD k (0, 0)).2 = d := ⟨_, rfl⟩
        rw [hpe, hde] at hent
        rw [hpe] at hpk
        unfold enC at hent
        obtain ⟨e, hee⟩ : ∃ e, eAtS es k = e := ⟨_, rfl⟩
        rw [hee] at hent
        cases ho : e.off with
        | true =>
          rw [ho] at hent
          (have zx1 := @hkd; have zx2 := @hkw; have zx3 := @o1; have zx4 := @hent; have zx5 := @hpk; have zx6 := @hpl; have zx7 := @hz2; all_goals (try ((with_reducible first | refine wp_id ?_ | refine does_id ?_ | refine ops_id ?_ | refine dw_id ?_); refine walk ?_; (repeat' (first | exact trivial | with_reducible refine And.intro ?_ ?_)); all_goals (repeat with_reducible first | refine ImpB.mk fun hb => ?_ | refine ImpK.mk fun hK => ?_ | refine ImpF.mk fun hF => ?_ | refine ImpQ.mk fun hp => ?_ | refine AllE.mk fun p => ?_ | refine AllR.mk fun rest => ?_ | refine AllK.mk fun K => ?_))); repeat' (with_reducible refine And.intro ?_ ?_))
          all_goals first | (show _ ≤ (_ : Int); omega) | (show _ < (_ : Int); omega) | (show _ ≤ (_ : Nat); omega) | (show _ < (_ : Nat); omega) | skip
          refine ⟨k + 1, ⟨(show k + 1 ≤ es.length by omega), (show es.length - (k + 1) < es.length - k by omega)⟩, ?_, rfl⟩
          (focus (simp only [go_sem]; (repeat' (first | exact sub_nil | refine sub_cons ?_ ?_)); (any_goals (first | exact .inl rfl | exact .inr rfl)); (try any_goals (refine .inr ?_)); (try any_goals (refine congrArg _ ?_))))
        | false =>
          rw [ho] at hent
          (have zx1 := @hkd; have zx2 := @hkw; have zx3 := @o1; have zx4 := @hent; have zx5 := @hpk; have zx6 := @hpl; have zx7 := @hz2; all_goals (try ((with_reducible first | refine wp_id ?_ | refine does_id ?_ | refine ops_id ?_ | refine dw_id ?_); refine walk ?_; (repeat' (first | exact trivial | with_reducible refine And.intro ?_ ?_)); all_goals (repeat with_reducible first | refine ImpB.mk fun hb => ?_ | refine ImpK.mk fun hK => ?_ | refine ImpF.mk fun hF => ?_ | refine ImpQ.mk fun hp => ?_ | refine AllE.mk fun p => ?_ | refine AllR.mk fun rest => ?_ | refine AllK.mk fun K => ?_))); repeat' (with_reducible refine And.intro ?_ ?_))
          all_goals first | (show _ ≤ (_ : Int); omega) | (show _ < (_ : Int); omega) | (show _ ≤ (_ : Nat); omega) | (show _ < (_ : Nat); omega) | skip
          refine ⟨k + 1, ⟨(show k + 1 ≤ es.length by omega), (show es.length - (k + 1) < es.length - k by omega)⟩, ?_, rfl⟩
          (focus (simp only [go_sem]; (repeat' (first | exact sub_nil | refine sub_cons ?_ ?_)); (any_goals (first | exact .inl rfl | exact .inr rfl)); (try any_goals (refine .inr ?_)); (try any_goals (refine congrArg _ ?_))))
      · have hkd : decide ((k : Int) < (es.length : Int)) = false := decide_eq_false (by omega)
        (have zx1 := @hkd; all_goals (try ((with_reducible first | refine wp_id ?_ | refine does_id ?_ | refine ops_id ?_ | refine dw_id ?_); refine walk ?_; (repeat' (first | exact trivial | with_reducible refine And.intro ?_ ?_)); all_goals (repeat with_reducible first | refine ImpB.mk fun hb => ?_ | refine ImpK.mk fun hK => ?_ | refine ImpF.mk fun hF => ?_ | refine ImpQ.mk fun hp => ?_ | refine AllE.mk fun p => ?_ | refine AllR.mk fun rest => ?_ | refine AllK.mk fun K => ?_))); repeat' (with_reducible refine And.intro ?_ ?_))
        exact end_srvNil A
  · have d1 : decide (n ≤ 1099511627776) = false := decide_eq_false q1
    rw [if_neg q1] at hnw
    subst hnw
    refine w_body (rs := [.tmp 6]) (tm := [.ptr 0 0, .int .i64 n, .lit (.pointer none), .any, .any, .any, .any, .any, .any, .any, .any, .any, .any, .any, .any, .any, .any, .any, .any, .any, .any, .any, .any, .any, .any, .any, .any, .any, .any, .any, .any, .any, .any, .any, .any, .any, .any, .any, .any, .any, .any, .any, .any, .any, .any, .any, .any, .any, .any, .any, .any, .any, .any, .any, .any, .any, .any, .any, .any, .any, .any, .any, .any, .any, .any, .any, .any, .any, .any, .any, .any, .any, .any, .any, .any, .any, .any, .any, .any, .any, .any, .any, .any, .any, .any, .any, .any, .any]) fn_12 rfl rfl rfl rfl fun R hR => ?_
    refine w_openS hp ?_
    have A := srv_open (now := now) hp
    generalize SV now es = g at A ⊢
    generalize plc 2 es.length = ts at A
    have oo : hth g 0 = .cells [.bool true, .int .i64 now, .csl 1 es.length 1] := A.o
    (have zx1 := @d1; have zx2 := @oo; all_goals (try ((with_reducible first | refine wp_id ?_ | refine does_id ?_ | refine ops_id ?_ | refine dw_id ?_); refine walk ?_; (repeat' (first | exact trivial | with_reducible refine And.intro ?_ ?_)); all_goals (repeat with_reducible first | refine ImpB.mk fun hb => ?_ | refine ImpK.mk fun hK => ?_ | refine ImpF.mk fun hF => ?_ | refine ImpQ.mk fun hp => ?_ | refine AllE.mk fun p => ?_ | refine AllR.mk fun rest => ?_ | refine AllK.mk fun K => ?_))); repeat' (with_reducible refine And.intro ?_ ?_))
    any_goals ((try (refine w_seq fun K hK => ?_)); (try (refine w_block ?_)); refine w_loopS (A := Nat) (fun k => k ≤ es.length) (fun k => es.length - k) (fun k => [(38, .int .i64 k), (7, .lit (.slice none 0 0))]) (0) (ws := ?ws4) (tk := ?tk4) ?hw4 ?ht4 ?hi_1 ?h0_1 ?LH4; (case hw4 => simp only [go_sem, decide_true, decide_false, Int.reduceToNat, Nat.min_eq_left, Nat.min_eq_right, Int.reducePow, Nat.reducePow, Int.reduceLE, Int.reduceLT, Int.reduceMul, Int.reduceAdd, Int.reduceSub, Int.reduceNeg, Bool.not_true, Bool.not_false, Bool.not_not, ↓reduceIte, Nat.reduceAdd, Nat.reduceSub, Nat.reduceMul, Nat.reduceEqDiff, reduceCtorEq, Nat.reduceLT, Nat.reduceLeDiff, Nat.reduceGT]; exact rfl); (case ht4 => simp only [go_sem, decide_true, decide_false, Int.reduceToNat, Nat.min_eq_left, Nat.min_eq_right, Int.reducePow, Nat.reducePow, Int.reduceLE, Int.reduceLT, Int.reduceMul, Int.reduceAdd, Int.reduceSub, Int.reduceNeg, Bool.not_true, Bool.not_false, Bool.not_not, ↓reduceIte, Nat.reduceAdd, Nat.reduceSub, Nat.reduceMul, Nat.reduceEqDiff, reduceCtorEq, Nat.reduceLT, Nat.reduceLeDiff, Nat.reduceGT]; exact rfl); (case' LH4 => rintro k E t hx hE ht; simp only [go_sem] at ht; subst ht; simp only [go_sem]; try dsimp only at hx))
    case hi_1 => exact Nat.zero_le _
    case h0_1 => (focus (simp only [go_sem]; (repeat' (first | exact sub_nil | refine sub_cons ?_ ?_)); (any_goals (first | exact .inl rfl | exact .inr rfl)); (try any_goals (refine .inr ?_)); (try any_goals (refine congrArg _ ?_))))
    case LH4 =>
      have hk0 : k ≤ es.length := hx
      by_cases hk : k < es.length
      · have hkd : decide ((k : Int) < (es.length : Int)) = true := decide_eq_true (by omega)
        have hkw : IntKind.i64.wrap ((k : Int) + 1) = ((k + 1 : Nat) : Int) := by rw [wrap_i64 _ (by omega) (by omega)]; omega
        have hpk := ptA_at (l := ts) (i := k) (by rw [A.len]; exact hk)
        have hpl : (ptA ts).length = es.length := by rw [ptA_len, A.len]
        have hent := A.ent k hk
        have o1 := A.o1
        obtain ⟨p, hpe⟩ : ∃ p, (ts.getD k (0, 0)).1 = p := ⟨_, rfl⟩
        obtain ⟨d, hde⟩ : ∃ d, (ts.getD k (0, 0)).2 = d := ⟨_, rfl⟩
        rw [hpe, hde] at hent
        rw [hpe] at hpk
        unfold enC at hent
        obtain ⟨e, hee⟩ : ∃ e, eAtS es k = e := ⟨_, rfl⟩
        rw [hee] at hent
        cases ho : e.off with
        | true =>
          rw [ho] at hent
          (have zx1 := @hkd; have zx2 := @hkw; have zx3 := @o1; have zx4 := @hent; have zx5 := @hpk; have zx6 := @hpl; have zx7 := @hz2; all_goals (try ((with_reducible first | refine wp_id ?_ | refine does_id ?_ | refine ops_id ?_ | refine dw_id ?_); refine walk ?_; (repeat' (first | exact trivial | with_reducible refine And.intro ?_ ?_)); all_goals (repeat with_reducible first | refine ImpB.mk fun hb => ?_ | refine ImpK.mk fun hK => ?_ | refine ImpF.mk fun hF => ?_ | refine ImpQ.mk fun hp => ?_ | refine AllE.mk fun p => ?_ | refine AllR.mk fun rest => ?_ | refine AllK.mk fun K => ?_))); repeat' (with_reducible refine And.intro ?_ ?_))
          all_goals first | (show _ ≤ (_ : Int); omega) | (show _ < (_ : Int); omega) | (show _ ≤ (_ : Nat); omega) | (show _ < (_ : Nat); omega) | skip
          refine ⟨k + 1, ⟨(show k + 1 ≤ es.length by omega), (show es.length - (k + 1) < es.length - k by omega)⟩, ?_, rfl⟩
          (focus (simp only [go_sem]; (repeat' (first | exact sub_nil | refine sub_cons ?_ ?_)); (any_goals (first | exact .inl rfl | exact .inr rfl)); (try any_goals (refine .inr ?_)); (try any_goals (refine congrArg _ ?_))))
        | false =>
          rw [ho] at hent
          (have zx1 := @hkd; have zx2 := @hkw; have zx3 := @o1; have zx4 := @hent; have zx5 := @hpk; have zx6 := @hpl; have zx7 := @hz2; all_goals (try ((with_reducible first | refine wp_id ?_ | refine does_id ?_ | refine ops_id ?_ | refine dw_id ?_); refine walk ?_; (repeat' (first | exact trivial | with_reducible refine And.intro ?_ ?_)); all_goals (repeat with_reducible first | refine ImpB.mk fun hb => ?_ | refine ImpK.mk fun hK => ?_ | refine ImpF.mk fun hF => ?_ | refine ImpQ.mk fun hp => ?_ | refine AllE.mk fun p => ?_ | refine AllR.mk fun rest => ?_ | refine AllK.mk fun K => ?_))); repeat' (with_reducible refine And.intro ?_ ?_))
          all_goals first | (show _ ≤ (_ : Int); omega) | (show _ < (_ : Int); omega) | (show _ ≤ (_ : Nat); omega) | (show _ < (_ : Nat); omega) | skip
          refine ⟨k + 1, ⟨(show k + 1 ≤ es.length by omega), (show es.length - (k + 1) < es.length - k by omega)⟩, ?_, rfl⟩
          (focus (simp only [go_sem]; (repeat' (first | exact sub_nil | refine sub_cons ?_ ?_)); (any_goals (first | exact .inl rfl | exact .inr rfl)); (try any_goals (refine .inr ?_)); (try any_goals (refine congrArg _ ?_))))
      · have hkd : decide ((k : Int) < (es.length : Int)) = false := decide_eq_false (by omega)
        (have zx1 := @hkd; all_goals (try ((with_reducible first | refine wp_id ?_ | refine does_id ?_ | refine ops_id ?_ | refine dw_id ?_); refine walk ?_; (repeat' (first | exact trivial | with_reducible refine And.intro ?_ ?_)); all_goals (repeat with_reducible first | refine ImpB.mk fun hb => ?_ | refine ImpK.mk fun hK => ?_ | refine ImpF.mk fun hF => ?_ | refine ImpQ.mk fun hp => ?_ | refine AllE.mk fun p => ?_ | refine AllR.mk fun rest => ?_ | refine AllK.mk fun K => ?_))); repeat' (with_reducible refine And.intro ?_ ?_))
        exact end_srvNil A
theorem b_chkN0 (now n : Int) : DoesK Try.prog 1 12 [.ptr 0 0, .int .i64 n, .lit (.pointer none)] [.pack (SV now [])] (EndF 1 (.ro .tra []) ([.pack (SV (nowQ now n) [])] ++ [])) := by
  refine DoesK.close ?_
  obtain ⟨nw, hnw⟩ : ∃ z, nowQ now n = z := ⟨_, rfl⟩
  rw [hnw]
  unfold nowQ at hnw
  by_cases q1 : n ≤ 1099511627776
  · have d1 : decide (n ≤ 1099511627776) = true := decide_eq_true q1
    rw [if_pos q1] at hnw
    refine w_body (rs := [.tmp 6]) (tm := [.ptr 0 0, .int .i64 n, .lit (.pointer none), .any, .any, .any, .any, .any, .any, .any, .any, .any, .any, .any, .any, .any, .any, .any, .any, .any, .any, .any, .any, .any, .any, .any, .any, .any, .any, .any, .any, .any, .any, .any, .any, .any, .any, .any, .any, .any, .any, .any, .any, .any, .any, .any, .any, .any, .any, .any, .any, .any, .any, .any, .any, .any, .any, .any, .any, .any, .any, .any, .any, .any, .any, .any, .any, .any, .any, .any, .any, .any, .any, .any, .any, .any, .any, .any, .any, .any, .any, .any, .any, .any, .any, .any, .any, .any]) fn_12 rfl rfl rfl rfl fun R hR => ?_
    rw [show SV now [] = [.cells [.bool true, .int .i64 now, .lit (.slice none 0 0)]] from rfl]
    refine w_open 0 rfl rfl ?_
    simp only [go_sem, decide_true, decide_false, Int.reduceToNat, Nat.min_eq_left, Nat.min_eq_right, Int.reducePow, Nat.reducePow, Int.reduceLE, Int.reduceLT, Int.reduceMul, Int.reduceAdd, Int.reduceSub, Int.reduceNeg, Bool.not_true, Bool.not_false, Bool.not_not, ↓reduceIte, Nat.reduceAdd, Nat.reduceSub, Nat.reduceMul, Nat.reduceEqDiff, reduceCtorEq, Nat.reduceLT, Nat.reduceLeDiff, Nat.reduceGT]
    (have zx1 := @d1; have zx2 := @hnw; all_goals (try ((with_reducible first | refine wp_id ?_ | refine does_id ?_ | refine ops_id ?_ | refine dw_id ?_); refine walk ?_; (repeat' (first | exact trivial | with_reducible refine And.intro ?_ ?_)); all_goals (repeat with_reducible first | refine ImpB.mk fun hb => ?_ | refine ImpK.mk fun hK => ?_ | refine ImpF.mk fun hF => ?_ | refine ImpQ.mk fun hp => ?_ | refine AllE.mk fun p => ?_ | refine AllR.mk fun rest => ?_ | refine AllK.mk fun K => ?_))); repeat' (with_reducible refine And.intro ?_ ?_))
    any_goals ((try (refine w_seq fun K hK => ?_)); (try (refine w_block ?_)); refine w_loop (A := Nat) (fun k => k = 0) (fun k => 0) (fun k => [(38, .int .i64 k), (7, .lit (.slice none 0 0))]) (fun k => []) (0) (ws := ?ws1) (tk := ?tk1) ?hw1 ?ht1 ?hi ?h0 ?LH1; (case hw1 => simp only [go_sem, decide_true, decide_false, Int.reduceToNat, Nat.min_eq_left, Nat.min_eq_right, Int.reducePow, Nat.reducePow, Int.reduceLE, Int.reduceLT, Int.reduceMul, Int.reduceAdd, Int.reduceSub, Int.reduceNeg, Bool.not_true, Bool.not_false, Bool.not_not, ↓reduceIte, Nat.reduceAdd, Nat.reduceSub, Nat.reduceMul, Nat.reduceEqDiff, reduceCtorEq, Nat.reduceLT, Nat.reduceLeDiff, Nat.reduceGT]; exact rfl); (case ht1 => simp only [go_sem, decide_true, decide_false, Int.reduceToNat, Nat.min_eq_left, Nat.min_eq_right, Int.reducePow, Nat.reducePow, Int.reduceLE, Int.reduceLT, Int.reduceMul, Int.reduceAdd, Int.reduceSub, Int.reduceNeg, Bool.not_true, Bool.not_false, Bool.not_not, ↓reduceIte, Nat.reduceAdd, Nat.reduceSub, Nat.reduceMul, Nat.reduceEqDiff, reduceCtorEq, Nat.reduceLT, Nat.reduceLeDiff, Nat.reduceGT]; exact rfl); (case' LH1 => rintro k E t hx hE ht; simp only [go_sem] at ht; subst ht; simp only [go_sem]; try dsimp only at hx))
    case hi => exact rfl
    case h0 =>
      (focus (refine ⟨_, _, Gh.refl, [0], rfl, ?_⟩; (refine fitq ?_ ?_ ?_ <;> try exact trivial); (try any_goals (refine ⟨?_, ?_⟩)); (try any_goals (with_reducible rfl))))
      all_goals (repeat' (first | (refine And.intro ?_ ?_) | rfl))
    case LH1 =>
      obtain rfl : k = 0 := hx
      have hkd : decide (((0 : Nat) : Int) < 0) = false := by decide
      (have zx1 := @hkd; all_goals (try ((with_reducible first | refine wp_id ?_ | refine does_id ?_ | refine ops_id ?_ | refine dw_id ?_); refine walk ?_; (repeat' (first | exact trivial | with_reducible refine And.intro ?_ ?_)); all_goals (repeat with_reducible first | refine ImpB.mk fun hb => ?_ | refine ImpK.mk fun hK => ?_ | refine ImpF.mk fun hF => ?_ | refine ImpQ.mk fun hp => ?_ | refine AllE.mk fun p => ?_ | refine AllR.mk fun rest => ?_ | refine AllK.mk fun K => ?_))); repeat' (with_reducible refine And.intro ?_ ?_))
      refine ⟨_, _, Gh.trans (gh_nil (s := 0) .tra trivial) (gh_close (t := 0) (ts := []) (l := SV nw []) ⟨⟨_, _, rfl⟩, ?fc1, by simp⟩), [0], rfl, ?ft1⟩
      case' ft1 => (refine fitq ?_ ?_ ?_ <;> try exact trivial)
      case' fc1 => (try simp only [go_sem, decide_true, decide_false, Int.reduceToNat, Nat.min_eq_left, Nat.min_eq_right, Int.reducePow, Nat.reducePow, Int.reduceLE, Int.reduceLT, Int.reduceMul, Int.reduceAdd, Int.reduceSub, Int.reduceNeg, Bool.not_true, Bool.not_false, Bool.not_not, ↓reduceIte, Nat.reduceAdd, Nat.reduceSub, Nat.reduceMul, Nat.reduceEqDiff, reduceCtorEq, Nat.reduceLT, Nat.reduceLeDiff, Nat.reduceGT])
      all_goals (repeat' (first | (refine And.intro ?_ ?_) | rfl | exact trivial | (simp; done)))
  · have d1 : decide (n ≤ 1099511627776) = false := decide_eq_false q1
    rw [if_neg q1] at hnw
    subst hnw
    refine w_body (rs := [.tmp 6]) (tm := [.ptr 0 0, .int .i64 n, .lit (.pointer none), .any, .any, .any, .any, .any, .any, .any, .any, .any, .any, .any, .any, .any, .any, .any, .any, .any, .any, .any, .any, .any, .any, .any, .any, .any, .any, .any, .any, .any, .any, .any, .any, .any, .any, .any, .any, .any, .any, .any, .any, .any, .any, .any, .any, .any, .any, .any, .any, .any, .any, .any, .any, .any, .any, .any, .any, .any, .any, .any, .any, .any, .any, .any, .any, .any, .any, .any, .any, .any, .any, .any, .any, .any, .any, .any, .any, .any, .any, .any, .any, .any, .any, .any, .any, .any]) fn_12 rfl rfl rfl rfl fun R hR => ?_
    rw [show SV now [] = [.cells [.bool true, .int .i64 now, .lit (.slice none 0 0)]] from rfl]
    refine w_open 0 rfl rfl ?_
    simp only [go_sem, decide_true, decide_false, Int.reduceToNat, Nat.min_eq_left, Nat.min_eq_right, Int.reducePow, Nat.reducePow, Int.reduceLE, Int.reduceLT, Int.reduceMul, Int.reduceAdd, Int.reduceSub, Int.reduceNeg, Bool.not_true, Bool.not_false, Bool.not_not, ↓reduceIte, Nat.reduceAdd, Nat.reduceSub, Nat.reduceMul, Nat.reduceEqDiff, reduceCtorEq, Nat.reduceLT, Nat.reduceLeDiff, Nat.reduceGT]
    (have zx1 := @d1; all_goals (try ((with_reducible first | refine wp_id ?_ | refine does_id ?_ | refine ops_id ?_ | refine dw_id ?_); refine walk ?_; (repeat' (first | exact trivial | with_reducible refine And.intro ?_ ?_)); all_goals (repeat with_reducible first | refine ImpB.mk fun hb => ?_ | refine ImpK.mk fun hK => ?_ | refine ImpF.mk fun hF => ?_ | refine ImpQ.mk fun hp => ?_ | refine AllE.mk fun p => ?_ | refine AllR.mk fun rest => ?_ | refine AllK.mk fun K => ?_))); repeat' (with_reducible refine And.intro ?_ ?_))
    any_goals ((try (refine w_seq fun K hK => ?_)); (try (refine w_block ?_)); refine w_loop (A := Nat) (fun k => k = 0) (fun k => 0) (fun k => [(38, .int .i64 k), (7, .lit (.slice none 0 0))]) (fun k => []) (0) (ws := ?ws2) (tk := ?tk2) ?hw2 ?ht2 ?hi_1 ?h0_1 ?LH2; (case hw2 => simp only [go_sem, decide_true, decide_false, Int.reduceToNat, Nat.min_eq_left, Nat.min_eq_right, Int.reducePow, Nat.reducePow, Int.reduceLE, Int.reduceLT, Int.reduceMul, Int.reduceAdd, Int.reduceSub, Int.reduceNeg, Bool.not_true, Bool.not_false, Bool.not_not, ↓reduceIte, Nat.reduceAdd, Nat.reduceSub, Nat.reduceMul, Nat.reduceEqDiff, reduceCtorEq, Nat.reduceLT, Nat.reduceLeDiff, Nat.reduceGT]; exact rfl); (case ht2 => simp only [go_sem, decide_true, decide_false, Int.reduceToNat, Nat.min_eq_left, Nat.min_eq_right, Int.reducePow, Nat.reducePow, Int.reduceLE, Int.reduceLT, Int.reduceMul, Int.reduceAdd, Int.reduceSub, Int.reduceNeg, Bool.not_true, Bool.not_false, Bool.not_not, ↓reduceIte, Nat.reduceAdd, Nat.reduceSub, Nat.reduceMul, Nat.reduceEqDiff, reduceCtorEq, Nat.reduceLT, Nat.reduceLeDiff, Nat.reduceGT]; exact rfl); (case' LH2 => rintro k E t hx hE ht; simp only [go_sem] at ht; subst ht; simp only [go_sem]; try dsimp only at hx))
    case hi_1 => exact rfl
    case h0_1 =>
      (focus (refine ⟨_, _, Gh.refl, [0], rfl, ?_⟩; (refine fitq ?_ ?_ ?_ <;> try exact trivial); (try any_goals (refine ⟨?_, ?_⟩)); (try any_goals (with_reducible rfl))))
      all_goals (repeat' (first | (refine And.intro ?_ ?_) | rfl))
    case LH2 =>
      obtain rfl : k = 0 := hx
      have hkd : decide (((0 : Nat) : Int) < 0) = false := by decide
      (have zx1 := @hkd; all_goals (try ((with_reducible first | refine wp_id ?_ | refine does_id ?_ | refine ops_id ?_ | refine dw_id ?_); refine walk ?_; (repeat' (first | exact trivial | with_reducible refine And.intro ?_ ?_)); all_goals (repeat with_reducible first | refine ImpB.mk fun hb => ?_ | refine ImpK.mk fun hK => ?_ | refine ImpF.mk fun hF => ?_ | refine ImpQ.mk fun hp => ?_ | refine AllE.mk fun p => ?_ | refine AllR.mk fun rest => ?_ | refine AllK.mk fun K => ?_))); repeat' (with_reducible refine And.intro ?_ ?_))
      refine ⟨_, _, Gh.trans (gh_nil (s := 0) .tra trivial) (gh_close (t := 0) (ts := []) (l := SV now []) ⟨⟨_, _, rfl⟩, ?fc2, by simp⟩), [0], rfl, ?ft2⟩
      case' ft2 => (refine fitq ?_ ?_ ?_ <;> try exact trivial)
      case' fc2 => (try simp only [go_sem, decide_true, decide_false, Int.reduceToNat, Nat.min_eq_left, Nat.min_eq_right, Int.reducePow, Nat.reducePow, Int.reduceLE, Int.reduceLT, Int.reduceMul, Int.reduceAdd, Int.reduceSub, Int.reduceNeg, Bool.not_true, Bool.not_false, Bool.not_not, ↓reduceIte, Nat.reduceAdd, Nat.reduceSub, Nat.reduceMul, Nat.reduceEqDiff, reduceCtorEq, Nat.reduceLT, Nat.reduceLeDiff, Nat.reduceGT])
      all_goals (repeat' (first | (refine And.intro ?_ ?_) | rfl | exact trivial | (simp; done)))
theorem c_chkN {h : List Ch} {K : KT} {u : Nat} {now n nw : Int} {es : List Sm} (H : K (.ro .tra []) (h.set u (.pack (SV nw es)))) (o : hth h u = .pack (SV now es)) (e1 : OkS es) (e3 : nowQ now n = nw) : Does Try.prog 12 [.ptr u 0, .int .i64 n, .lit (.pointer none)] h K := by
  subst e3
  by_cases hn : es.length = 0
  · obtain rfl := List.eq_nil_of_length_eq_zero hn
    exact frame_obj0 (b_chkN0 now n) o (by simp) (fitC_pack _) (br_cons (br_ptr rfl) (br_cons br_int (br_cons br_lit br_nil))) (.inl rfl) (fun _ => rfl) rfl H
  · exact frame_obj0 (b_chkNE now n es (by omega) e1.max) o (by simp) (fitC_pack _) (br_cons (br_ptr rfl) (br_cons br_int (br_cons br_lit br_nil))) (.inl rfl) (fun _ => rfl) rfl H
abbrev i_chkN := Ctr.mk (i := 2) (g := 12) @c_chkN
attribute [instance] i_chkN
/-- State and Monitor -/
def stQ (es : List Sm) (id : Int) : Int := if fixE es id < es.length then (eAtS es (fixE es id)).st else 0
theorem b_stateP (now : Int) (es : List Sm) (id : Int) (k : Nat) (hp : 0 < es.length) (hl : es.length ≤ 256) (hf : AtE es id k) :
    DoesK Try.prog 1 13 [.ptr 0 0, .int .i64 id] [.pack (SV now es)] (EndF 1 (.int .i64 (eAtS es k).st) ([.pack (SV now es)] ++ [])) := by
  refine DoesK.close ?_
  have hk := hf.lt
  refine w_body (rs := [.tmp 4]) (tm := [.ptr 0 0, .int .i64 id, .any, .any, .any, .any, .any, .any, .any, .any, .any, .any, .any, .any, .any]) fn_13 rfl rfl rfl rfl fun R hR => ?_
  refine w_openS hp ?_
  have A := srv_open (now := now) hp
  generalize SV now es = h at A ⊢
  generalize plc 2 es.length = ts at A
  obtain ⟨p, hpe⟩ : ∃ p, (ts.getD k (0, 0)).1 = p := ⟨_, rfl⟩
  have he := A.ent k hk
  rw [hpe] at he
  have t1 : ∀ l, hth (h ++ l) p = _ := fun l => (hth_app (hth_lt (by rw [he]; simp))).trans he
  unfold enC at t1
  (have zx1 := @t1; all_goals (try ((with_reducible first | refine wp_id ?_ | refine does_id ?_ | refine ops_id ?_ | refine dw_id ?_); refine walk ?_; (repeat' (first | exact trivial | with_reducible refine And.intro ?_ ?_)); all_goals (repeat with_reducible first | refine ImpB.mk fun hb => ?_ | refine ImpK.mk fun hK => ?_ | refine ImpF.mk fun hF => ?_ | refine ImpQ.mk fun hp => ?_ | refine AllE.mk fun p => ?_ | refine AllR.mk fun rest => ?_ | refine AllK.mk fun K => ?_))); repeat' (with_reducible refine And.intro ?_ ?_))
  exact end_srv (A.app _) ⟨rfl, rfl⟩
theorem b_stateN (now : Int) (es : List Sm) (id : Int) (hp : 0 < es.length) (hl : es.length ≤ 256) (hf : NoE es id) :
    DoesK Try.prog 1 13 [.ptr 0 0, .int .i64 id] [.pack (SV now es)] (EndF 1 (.int .i64 0) ([.pack (SV now es)] ++ [])) := by
  refine DoesK.close ?_
  refine w_body (rs := [.tmp 4]) (tm := [.ptr 0 0, .int .i64 id, .any, .any, .any, .any, .any, .any, .any, .any, .any, .any, .any, .any, .any]) fn_13 rfl rfl rfl rfl fun R hR => ?_
  refine w_openS hp ?_
  have A := srv_open (now := now) hp
  generalize SV now es = h at A ⊢
  generalize plc 2 es.length = ts at A
  (all_goals (try ((with_reducible first | refine wp_id ?_ | refine does_id ?_ | refine ops_id ?_ | refine dw_id ?_); refine walk ?_; (repeat' (first | exact trivial | with_reducible refine And.intro ?_ ?_)); all_goals (repeat with_reducible first | refine ImpB.mk fun hb => ?_ | refine ImpK.mk fun hK => ?_ | refine ImpF.mk fun hF => ?_ | refine ImpQ.mk fun hp => ?_ | refine AllE.mk fun p => ?_ | refine AllR.mk fun rest => ?_ | refine AllK.mk fun K => ?_))); repeat' (with_reducible refine And.intro ?_ ?_))
  exact end_srv (A.app _) ⟨rfl, rfl⟩
theorem b_state0 (now id : Int) : DoesK Try.prog 1 13 [.ptr 0 0, .int .i64 id] [.pack (SV now [])] (EndF 1 (.int .i64 0) ([.pack (SV now [])] ++ [])) := by
  refine DoesK.close ?_
  refine w_body (rs := [.tmp 4]) (tm := [.ptr 0 0, .int .i64 id, .any, .any, .any, .any, .any, .any, .any, .any, .any, .any, .any, .any, .any]) fn_13 rfl rfl rfl rfl fun R hR => ?_
  rw [show SV now [] = [.cells [.bool true, .int .i64 now, .lit (.slice none 0 0)]] from rfl]
  refine w_open 0 rfl rfl ?_
  simp only [go_sem, decide_true, decide_false, Int.reduceToNat, Nat.min_eq_left, Nat.min_eq_right, Int.reducePow, Nat.reducePow, Int.reduceLE, Int.reduceLT, Int.reduceMul, Int.reduceAdd, Int.reduceSub, Int.reduceNeg, Bool.not_true, Bool.not_false, Bool.not_not, ↓reduceIte, Nat.reduceAdd, Nat.reduceSub, Nat.reduceMul, Nat.reduceEqDiff, reduceCtorEq, Nat.reduceLT, Nat.reduceLeDiff, Nat.reduceGT]
  (all_goals (try ((with_reducible first | refine wp_id ?_ | refine does_id ?_ | refine ops_id ?_ | refine dw_id ?_); refine walk ?_; (repeat' (first | exact trivial | with_reducible refine And.intro ?_ ?_)); all_goals (repeat with_reducible first | refine ImpB.mk fun hb => ?_ | refine ImpK.mk fun hK => ?_ | refine ImpF.mk fun hF => ?_ | refine ImpQ.mk fun hp => ?_ | refine AllE.mk fun p => ?_ | refine AllR.mk fun rest => ?_ | refine AllK.mk fun K => ?_))); repeat' (with_reducible refine And.intro ?_ ?_))
  (focus (refine ⟨_, _, gh_close (t := 0) (ts := []) (l := SV now []) ⟨⟨_, _, rfl⟩, ?_, by simp⟩, [0], rfl, ?_⟩; all_goals (refine fitq ?_ ?_ ?_ <;> try exact trivial); (try any_goals (refine ⟨?_, ?_⟩)); (try any_goals (with_reducible rfl))))
  all_goals (repeat' (first | (refine And.intro ?_ ?_) | rfl))
theorem c_stateS {h : List Ch} {K : KT} {u : Nat} {now id r : Int} {es : List Sm} (H : K (.int .i64 r) h) (o : hth h u = .pack (SV now es)) (e1 : OkS es) (e2 : stQ es id = r) : Does Try.prog 13 [.ptr u 0, .int .i64 id] h K := by
  subst e2
  by_cases hn : es.length = 0
  · obtain rfl := List.eq_nil_of_length_eq_zero hn
    exact frame_look (b_state0 now id) o (by simp) (fitC_pack _) (br_cons (br_ptr rfl) (br_cons br_int br_nil)) (.inl rfl) (fun _ => rfl) rfl H
  · unfold stQ at H
    by_cases c : fixE es id < es.length
    · rw [if_pos c] at H
      exact frame_look (b_stateP now es id _ (by omega) e1.max ⟨rfl, c⟩) o (by simp) (fitC_pack _) (br_cons (br_ptr rfl) (br_cons br_int br_nil)) (.inl rfl) (fun _ => rfl) rfl H
    · rw [if_neg c] at H
      have := fixE_le es id
      exact frame_look (b_stateN now es id (by omega) e1.max ⟨by omega⟩) o (by simp) (fitC_pack _) (br_cons (br_ptr rfl) (br_cons br_int br_nil)) (.inl rfl) (fun _ => rfl) rfl H
abbrev i_stateS := Ctr.mk (i := 1) (g := 13) @c_stateS
attribute [instance] i_stateS
theorem b_monP (now : Int) (es : List Sm) (id : Int) (k : Nat) (hp : 0 < es.length) (hl : es.length ≤ 256) (hf : AtE es id k) :
    DoesK Try.prog 1 21 [.ptr 0 0, .int .i64 id] [.pack (SV now es)] (EndF 1 (.tup [.agg (monL (eAtS es k).m), .bool true]) ([.pack (SV now es)] ++ [])) := by
  refine DoesK.close ?_
  have hk := hf.lt
  refine w_body (rs := [.cell 4 30, .tmp 5]) (tm := [.ptr 0 0, .int .i64 id, .any, .any, .any, .any, .any, .any, .any, .any, .any, .any, .any, .any, .any, .any, .any]) fn_21 rfl rfl rfl rfl fun R hR => ?_
  refine w_openS hp ?_
  have A := srv_open (now := now) hp
  generalize SV now es = h at A ⊢
  generalize plc 2 es.length = ts at A
  obtain ⟨p, hpe⟩ : ∃ p, (ts.getD k (0, 0)).1 = p := ⟨_, rfl⟩
  have he := A.ent k hk
  rw [hpe] at he
  have t1 : ∀ l, hth (h ++ l) p = _ := fun l => (hth_app (hth_lt (by rw [he]; simp))).trans he
  unfold enC at t1
  have t2 := symH h
  have e1 := A.app [.cells [.int .i64 0, .int .i64 0, .int .i64 0, .int .i64 0, .int .i64 0, .int .i64 0, .int .i64 0, .int .i64 0]]
  (have zx1 := @t1; have zx2 := @t2; all_goals (try ((with_reducible first | refine wp_id ?_ | refine does_id ?_ | refine ops_id ?_ | refine dw_id ?_); refine walk ?_; (repeat' (first | exact trivial | with_reducible refine And.intro ?_ ?_)); all_goals (repeat with_reducible first | refine ImpB.mk fun hb => ?_ | refine ImpK.mk fun hK => ?_ | refine ImpF.mk fun hF => ?_ | refine ImpQ.mk fun hp => ?_ | refine AllE.mk fun p => ?_ | refine AllR.mk fun rest => ?_ | refine AllK.mk fun K => ?_))); repeat' (with_reducible refine And.intro ?_ ?_))
  exact end_srv (A.app _) ⟨⟨⟨rfl, rfl⟩, ⟨rfl, rfl⟩, ⟨rfl, rfl⟩, ⟨rfl, rfl⟩, ⟨rfl, rfl⟩, ⟨rfl, rfl⟩, ⟨rfl, rfl⟩, ⟨rfl, rfl⟩, trivial⟩, rfl, trivial⟩
theorem b_monN (now : Int) (es : List Sm) (id : Int) (hp : 0 < es.length) (hl : es.length ≤ 256) (hf : NoE es id) :
    DoesK Try.prog 1 21 [.ptr 0 0, .int .i64 id] [.pack (SV now es)] (EndF 1 (.tup [.agg (monL Mon.zero), .bool false]) ([.pack (SV now es)] ++ [])) := by
  refine DoesK.close ?_
  refine w_body (rs := [.cell 4 30, .tmp 5]) (tm := [.ptr 0 0, .int .i64 id, .any, .any, .any, .any, .any, .any, .any, .any, .any, .any, .any, .any, .any, .any, .any]) fn_21 rfl rfl rfl rfl fun R hR => ?_
  refine w_openS hp ?_
  have A := srv_open (now := now) hp
  generalize SV now es = h at A ⊢
  generalize plc 2 es.length = ts at A
  have t2 := symH h
  have e1 := A.app [.cells [.int .i64 0, .int .i64 0, .int .i64 0, .int .i64 0, .int .i64 0, .int .i64 0, .int .i64 0, .int .i64 0]]
  (have zx1 := @t2; all_goals (try ((with_reducible first | refine wp_id ?_ | refine does_id ?_ | refine ops_id ?_ | refine dw_id ?_); refine walk ?_; (repeat' (first | exact trivial | with_reducible refine And.intro ?_ ?_)); all_goals (repeat with_reducible first | refine ImpB.mk fun hb => ?_ | refine ImpK.mk fun hK => ?_ | refine ImpF.mk fun hF => ?_ | refine ImpQ.mk fun hp => ?_ | refine AllE.mk fun p => ?_ | refine AllR.mk fun rest => ?_ | refine AllK.mk fun K => ?_))); repeat' (with_reducible refine And.intro ?_ ?_))
  exact end_srv (A.app _) ⟨⟨⟨rfl, rfl⟩, ⟨rfl, rfl⟩, ⟨rfl, rfl⟩, ⟨rfl, rfl⟩, ⟨rfl, rfl⟩, ⟨rfl, rfl⟩, ⟨rfl, rfl⟩, ⟨rfl, rfl⟩, trivial⟩, rfl, trivial⟩
theorem k_findZ {n0 : Nat} {h : List Ch} {K : KT} {u : Nat} {now i : Int} (o : hth h u = .cells [.bool true, .int .i64 now, .lit (.slice none 0 0)]) (H : K (.lit (.pointer none)) (h ++ [.cells [.int .i64 i]])) : DoesK Try.prog n0 31 [.ptr u 0, .int .i64 i] h K := by
  have hix : ∀ {h : List Ch} {K : KT} {q : Nat}, K (.int .i64 (-1)) h → Does Try.prog 43 [.lit (.slice none 0 0), .fn 44 [.ptr q 0]] h K := fun {h K q} H => by
    refine Does.of_K ?_
    refine w_body (rs := [.tmp 4]) (tm := [.lit (.slice none 0 0), .fn 44 [.ptr q 0], .any, .any, .any, .any, .any, .any, .any, .any, .any, .any, .any, .any, .any, .any, .any, .any, .any]) fn_43 rfl rfl rfl rfl fun R hR => ?_
    (all_goals (try ((with_reducible first | refine wp_id ?_ | refine does_id ?_ | refine ops_id ?_ | refine dw_id ?_); refine walk ?_; (repeat' (first | exact trivial | with_reducible refine And.intro ?_ ?_)); all_goals (repeat with_reducible first | refine ImpB.mk fun hb => ?_ | refine ImpK.mk fun hK => ?_ | refine ImpF.mk fun hF => ?_ | refine ImpQ.mk fun hp => ?_ | refine AllE.mk fun p => ?_ | refine AllR.mk fun rest => ?_ | refine AllK.mk fun K => ?_))); repeat' (with_reducible refine And.intro ?_ ?_))
    any_goals ((try (refine w_seq fun K hK => ?_)); (try (refine w_block ?_)); refine w_loopS (A := Nat) (fun k => k = 0) (fun k => 0) (fun k => [(8, .int .i64 k)]) (0) (ws := ?ws5) (tk := ?tk5) ?hw5 ?ht5 ?hi ?h0 ?LH5; (case hw5 => simp only [go_sem, decide_true, decide_false, Int.reduceToNat, Nat.min_eq_left, Nat.min_eq_right, Int.reducePow, Nat.reducePow, Int.reduceLE, Int.reduceLT, Int.reduceMul, Int.reduceAdd, Int.reduceSub, Int.reduceNeg, Bool.not_true, Bool.not_false, Bool.not_not, ↓reduceIte, Nat.reduceAdd, Nat.reduceSub, Nat.reduceMul, Nat.reduceEqDiff, reduceCtorEq, Nat.reduceLT, Nat.reduceLeDiff, Nat.reduceGT]; exact rfl); (case ht5 => simp only [go_sem, decide_true, decide_false, Int.reduceToNat, Nat.min_eq_left, Nat.min_eq_right, Int.reducePow, Nat.reducePow, Int.reduceLE, Int.reduceLT, Int.reduceMul, Int.reduceAdd, Int.reduceSub, Int.reduceNeg, Bool.not_true, Bool.not_false, Bool.not_not, ↓reduceIte, Nat.reduceAdd, Nat.reduceSub, Nat.reduceMul, Nat.reduceEqDiff, reduceCtorEq, Nat.reduceLT, Nat.reduceLeDiff, Nat.reduceGT]; exact rfl); (case' LH5 => rintro k E t hx hE ht; simp only [go_sem] at ht; subst ht; simp only [go_sem]; try dsimp only at hx))
    case hi => exact rfl
    case h0 => (focus (simp only [go_sem]; (repeat' (first | exact sub_nil | refine sub_cons ?_ ?_)); (any_goals (first | exact .inl rfl | exact .inr rfl)); (try any_goals (refine .inr ?_)); (try any_goals (refine congrArg _ ?_))))
    case LH5 =>
      obtain rfl : k = 0 := hx
      have hkd : decide (((0 : Nat) : Int) < 0) = false := by decide
      (have zx1 := @hkd; all_goals (try ((with_reducible first | refine wp_id ?_ | refine does_id ?_ | refine ops_id ?_ | refine dw_id ?_); refine walk ?_; (repeat' (first | exact trivial | with_reducible refine And.intro ?_ ?_)); all_goals (repeat with_reducible first | refine ImpB.mk fun hb => ?_ | refine ImpK.mk fun hK => ?_ | refine ImpF.mk fun hF => ?_ | refine ImpQ.mk fun hp => ?_ | refine AllE.mk fun p => ?_ | refine AllR.mk fun rest => ?_ | refine AllK.mk fun K => ?_))); repeat' (with_reducible refine And.intro ?_ ?_))
      exact H
  have inst := Ctr.mk (i := 2) (g := 43) @hix
  have t1 : ∀ l, hth (h ++ l) u = .cells [.bool true, .int .i64 now, .lit (.slice none 0 0)] := fun l => (hth_app (hth_lt (by rw [o]; simp))).trans o
  have t2 := symH h
  refine w_body (rs := [.tmp 4]) (tm := [.ptr u 0, .int .i64 i, .any, .any, .any, .any, .any, .any, .any, .any, .any, .any, .any, .any, .any, .any, .any, .any, .any, .any, .any, .any, .any, .any, .any, .any, .any, .any, .any, .any]) fn_31 rfl rfl rfl rfl fun R hR => ?_
  (have zx1 := @t1; have zx2 := @t2; all_goals (try ((with_reducible first | refine wp_id ?_ | refine does_id ?_ | refine ops_id ?_ | refine dw_id ?_); refine walk ?_; (repeat' (first | exact trivial | with_reducible refine And.intro ?_ ?_)); all_goals (repeat with_reducible first | refine ImpB.mk fun hb => ?_ | refine ImpK.mk fun hK => ?_ | refine ImpF.mk fun hF => ?_ | refine ImpQ.mk fun hp => ?_ | refine AllE.mk fun p => ?_ | refine AllR.mk fun rest => ?_ | refine AllK.mk fun K => ?_))); repeat' (with_reducible refine And.intro ?_ ?_))
  exact H
theorem c_findZ {h : List Ch} {K : KT} {u : Nat} {now i : Int} (H : K (.lit (.pointer none)) (h ++ [.cells [.int .i64 i]])) (o : hth h u = .cells [.bool true, .int .i64 now, .lit (.slice none 0 0)]) : Does Try.prog 31 [.ptr u 0, .int .i64 i] h K := Does.of_K (k_findZ o H)
abbrev i_findZ := Ctr.mk (i := 5) (g := 31) @c_findZ
attribute [instance] i_findZ
theorem b_mon0 (now id : Int) : DoesK Try.prog 1 21 [.ptr 0 0, .int .i64 id] [.pack (SV now [])] (EndF 1 (.tup [.agg (monL Mon.zero), .bool false]) ([.pack (SV now [])] ++ [])) := by
  refine DoesK.close ?_
  refine w_body (rs := [.cell 4 30, .tmp 5]) (tm := [.ptr 0 0, .int .i64 id, .any, .any, .any, .any, .any, .any, .any, .any, .any, .any, .any, .any, .any, .any, .any]) fn_21 rfl rfl rfl rfl fun R hR => ?_
  rw [show SV now [] = [.cells [.bool true, .int .i64 now, .lit (.slice none 0 0)]] from rfl]
  refine w_open 0 rfl rfl ?_
  simp only [go_sem, decide_true, decide_false, Int.reduceToNat, Nat.min_eq_left, Nat.min_eq_right, Int.reducePow, Nat.reducePow, Int.reduceLE, Int.reduceLT, Int.reduceMul, Int.reduceAdd, Int.reduceSub, Int.reduceNeg, Bool.not_true, Bool.not_false, Bool.not_not, ↓reduceIte, Nat.reduceAdd, Nat.reduceSub, Nat.reduceMul, Nat.reduceEqDiff, reduceCtorEq, Nat.reduceLT, Nat.reduceLeDiff, Nat.reduceGT]
  (all_goals (try ((with_reducible first | refine wp_id ?_ | refine does_id ?_ | refine ops_id ?_ | refine dw_id ?_); refine walk ?_; (repeat' (first | exact trivial | with_reducible refine And.intro ?_ ?_)); all_goals (repeat with_reducible first | refine ImpB.mk fun hb => ?_ | refine ImpK.mk fun hK => ?_ | refine ImpF.mk fun hF => ?_ | refine ImpQ.mk fun hp => ?_ | refine AllE.mk fun p => ?_ | refine AllR.mk fun rest => ?_ | refine AllK.mk fun K => ?_))); repeat' (with_reducible refine And.intro ?_ ?_))
  (focus (refine ⟨_, _, gh_close (t := 0) (ts := []) (l := SV now []) ⟨⟨_, _, rfl⟩, ?_, by simp⟩, [0], rfl, ?_⟩; all_goals (refine fitq ?_ ?_ ?_ <;> try exact trivial); (try any_goals (refine ⟨?_, ?_⟩)); (try any_goals (with_reducible rfl))))
  all_goals (repeat' (first | (refine And.intro ?_ ?_) | rfl))
theorem c_monP {h : List Ch} {K : KT} {u k : Nat} {now id : Int} {es : List Sm} {m : Mon} (H : K (.tup [.agg (monL m), .bool true]) h) (o : hth h u = .pack (SV now es)) (e1 : OkS es) (e2 : AtE es id k) (e3 : (eAtS es k).m = m) : Does Try.prog 21 [.ptr u 0, .int .i64 id] h K := by
  subst e3
  exact frame_look (b_monP now es id k (by have := e2.lt; omega) e1.max e2) o (by simp) (fitC_pack _) (br_cons (br_ptr rfl) (br_cons br_int br_nil)) (.inl rfl) (fun _ => rfl) rfl H
abbrev i_monP := Ctr.mk (i := 0) (g := 21) @c_monP
attribute [instance] i_monP
theorem c_monN {h : List Ch} {K : KT} {u : Nat} {now id : Int} {es : List Sm} (H : K (.tup [.agg (monL Mon.zero), .bool false]) h) (o : hth h u = .pack (SV now es)) (e1 : OkS es) (e2 : NoE es id) : Does Try.prog 21 [.ptr u 0, .int .i64 id] h K := by
  by_cases hn : es.length = 0
  · obtain rfl := List.eq_nil_of_length_eq_zero hn
    exact frame_look (b_mon0 now id) o (by simp) (fitC_pack _) (br_cons (br_ptr rfl) (br_cons br_int br_nil)) (.inl rfl) (fun _ => rfl) rfl H
  · exact frame_look (b_monN now es id (by omega) e1.max e2) o (by simp) (fitC_pack _) (br_cons (br_ptr rfl) (br_cons br_int br_nil)) (.inl rfl) (fun _ => rfl) rfl H
abbrev i_monN := Ctr.mk (i := 1) (g := 21) @c_monN
attribute [instance] i_monN
end Go.V
