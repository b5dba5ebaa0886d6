/-
  archive: Gaps and Items in an archive of any number of application processes.
  archive.Add of any item in an archive of any number of application processes: what is new.
-/
import Derived.Test.YtoohlpieakeecaaPart16
set_option linter.unusedVariables false
set_option linter.unusedSimpArgs false
set_option maxRecDepth 100000
set_option maxHeartbeats 8000000
namespace Go.V
open Go.Proofs
attribute [-go_sem] AE AO
/-- a memory whose pointers stay in it -/
def SelfFit (h : List Ch) : Prop := ∀ σ : List Nat, (∀ i, i < h.length → σ[i]? = some i) → ∀ i, i < h.length → fitC σ (hth h i) (hth h i)
theorem fitHs_of {σ : List Nat} {h : List Ch} : ∀ {gs : List Ch} {ts : List Nat}, gs.length = ts.length → (∀ i, i < gs.length → ts.getD i 0 < h.length ∧ fitC σ (hth gs i) (hth h (ts.getD i 0))) → fitHs σ h gs ts
  | [], [], _, _ => trivial
  | g :: gs, t :: ts, h1, h2 => by
    have h0 := h2 0 (by simp)
    exact ⟨h0.1, h0.2, fitHs_of (by simpa using h1) fun i hi => by
      have h3 := h2 (i + 1) (by simpa using hi)
      exact h3⟩
  | [], _ :: _, h, _ => by simp at h
  | _ :: _, [], h, _ => by simp at h
theorem rng_at {n t : Nat} (h : t < n) : (List.range n)[t]? = some t := by rw [List.getElem?_range h]
theorem rng_at2 {n t : Nat} {l : List Nat} (h : t < n) : (List.range n ++ l)[t]? = some t := by
  rw [List.getElem?_append_left (by simpa using h)]; exact rng_at h
theorem rng_at3 {n j : Nat} {l : List Nat} : (List.range n ++ l)[n + j]? = l[j]? := by
  rw [List.getElem?_append_right (by simp)]
  simp
theorem rng_at0 {n x : Nat} {l : List Nat} : (List.range n ++ (x :: l))[n]? = some x := rng_at3 (j := 0)
theorem rng_D {n i : Nat} {l : List Nat} (h : i < n) : (List.range n ++ l).getD i 0 = i := by
  rw [List.getD_eq_getElem?_getD, rng_at2 h]; rfl
theorem at_drop {k : Nat} {gt tm : List AV} {h l : List Ch} (hk : k ≤ h.length) (hs : SelfFit h) (ht : fitL (List.range h.length ++ []) gt tm) : At k gt h tm (h ++ l) := by
  refine ⟨_, _, Gh.refl, List.range h.length ++ [], ?_, ht, fitHs_of (by simp) fun i hi => ?_, by simp [List.nodup_range]⟩
  · rw [List.append_nil, List.take_range, Nat.min_eq_left hk]
  · rw [rng_D hi, hth_app hi]
    exact ⟨by rw [List.length_append]; omega, hs _ (fun j hj => rng_at2 hj) i hi⟩
theorem at_same {k : Nat} {gt tm : List AV} {h : List Ch} (hk : k ≤ h.length) (hs : SelfFit h) (ht : fitL (List.range h.length ++ []) gt tm) : At k gt h tm h := by
  have := at_drop (l := []) hk hs ht
  rwa [List.append_nil] at this
theorem at_drop1 {k j : Nat} {gt tm : List AV} {h l : List Ch} {e : Ety} {xs : List e.T} (hk : k ≤ h.length) (hs : SelfFit h) (hj : hth l j = .rows e xs) (ht : fitL (List.range h.length ++ [h.length + j]) gt tm) : At k gt (h ++ [.rows e xs]) tm (h ++ l) := by
  have hjl : j < l.length := hth_lt (by rw [hj]; simp)
  refine ⟨_, _, Gh.refl, List.range h.length ++ [h.length + j], ?_, ht, fitHs_of (by simp) fun i hi => ?_, ?_⟩
  · rw [List.take_append_of_le_length (by simpa using hk), List.take_range, Nat.min_eq_left hk]
  · rw [List.length_append] at hi
    by_cases c : i < h.length
    · rw [rng_D c, hth_app c, hth_app c]
      exact ⟨by rw [List.length_append]; omega, hs _ (fun j hj => rng_at2 hj) i c⟩
    · have : i = h.length + 0 := by simp at hi; omega
      subst this
      have e1 : (List.range h.length ++ [h.length + j]).getD (h.length + 0) 0 = h.length + j := by
        rw [List.getD_eq_getElem?_getD, rng_at3]; rfl
      rw [e1, hth_app_r, hth_app_r, hj]
      exact ⟨by rw [List.length_append]; omega, by show (match asE e e xs with | some ys => xs = ys | none => False); rw [asE_self]⟩
  · refine List.nodup_append.2 ⟨List.nodup_range, by simp, fun a ha b hb => ?_⟩
    have := List.mem_range.1 ha
    rw [List.mem_singleton.1 hb]
    omega
theorem at_drop1s {k : Nat} (j : Nat) {gt tm : List AV} {h l : List Ch} {c0 : Ch} {e : Ety} {xs : List e.T} (hk : k ≤ h.length) (hs : SelfFit h) (hj : hth l j = .rows e xs) (ht : fitL (List.range h.length ++ [h.length + j]) gt tm) : At k gt (setH (h ++ [c0]) [(h.length, .rows e xs)]) tm (h ++ l) := by
  have e0 : setH (h ++ [c0]) [(h.length, .rows e xs)] = h ++ [.rows e xs] := by
    show (h ++ [c0]).set h.length (.rows e xs) = _
    rw [List.set_append_right _ _ (Nat.le_refl _), Nat.sub_self]; rfl
  rw [e0]
  exact at_drop1 hk hs hj ht
theorem SelfFit.app {h l : List Ch} (hs : SelfFit h) (hl : ∀ c ∈ l, ∀ σ, fitC σ c c) : SelfFit (h ++ l) := by
  intro σ hσ i hi
  rw [List.length_append] at hi hσ
  by_cases c : i < h.length
  · rw [hth_app c]
    exact hs σ (fun j hj => hσ j (by omega)) i c
  · obtain ⟨j, rfl⟩ : ∃ j, i = h.length + j := ⟨i - h.length, by omega⟩
    rw [hth_app_r]
    have hj : j < l.length := by omega
    have e : hth l j = l[j] := by
      have := hth_some hj
      rw [List.getElem?_eq_getElem hj] at this
      exact (Option.some.inj this).symm
    rw [e]
    exact hl _ (List.getElem_mem hj) σ
theorem fitP2 {σ : List Nat} : ∀ {ts : List Nat} {ps : List Prc}, (∀ t ∈ ts, σ[t]? = some t) → fitL σ (flatP ts ps) (flatP ts ps)
  | [], _, _ => trivial
  | _ :: _, [], _ => trivial
  | t :: ts, p :: ps, h => ⟨⟨rfl, rfl⟩, ⟨h t (by simp), rfl, rfl, rfl⟩, fitP2 fun x hx => h x (by simp [hx])⟩
theorem AM_len {ps : List Prc} (hp : 0 < ps.length) : (AM ps).length = ps.length + 2 := by
  have e : AM ps = .cells [.bool true, .csl 1 ps.length 2] :: AMr ps := if_neg (by omega)
  rw [e]
  simp [AMr]
theorem AM_self {ps : List Prc} (hp : 0 < ps.length) : SelfFit (AM ps) := by
  intro σ hσ i hi
  have hl := AM_len hp
  have e : AM ps = .cells [.bool true, .csl 1 ps.length 2] :: AMr ps := if_neg (by omega)
  rw [hl] at hσ hi
  rw [e]
  match i, hi with
  | 0, _ => exact ⟨rfl, ⟨hσ 1 (by omega), rfl, rfl⟩, trivial⟩
  | 1, _ => exact ⟨rfl, fitP2 fun t ht => hσ t (by have := List.mem_range'_1.1 ht; omega)⟩
  | i + 2, hi =>
    show fitC σ (hth (ps.map rowP) i) (hth (ps.map rowP) i)
    rw [hth_rows (by omega)]
    show (match asE .ent .ent (pAt ps i).list with | some ys => (pAt ps i).list = ys | none => False)
    rw [asE_self]
theorem symH (h : List Ch) : ((∀ l, hth (h ++ l) h.length = hth l 0) ∧ ∀ l j, hth (h ++ l) (h.length + j) = hth l j) ∧ ((∀ l c, (h ++ l).set h.length c = h ++ l.set 0 c) ∧ ∀ l j c, (h ++ l).set (h.length + j) c = h ++ l.set j c) ∧ ∀ l l', h ++ l ++ l' = h ++ (l ++ l') := by
  refine ⟨⟨fun l => hth_app_r (j := 0), fun l j => hth_app_r⟩, ⟨fun l c => ?_, fun l j c => ?_⟩, fun l l' => List.append_assoc _ _ _⟩
  · rw [List.set_append_right _ _ (Nat.le_refl _), Nat.sub_self]
  · rw [List.set_append_right _ _ (Nat.le_add_right _ _), Nat.add_sub_cancel_left]
theorem b_gapM (ps : List Prc) (a : Int) (e2 : isP ps a = true) (hm : ps.length ≤ 1000000) (hl : 0 < (getP ps a).length) (hc : okC (getP ps a)) :
    DoesK Try.prog 1 13 [.ptr 0 0, .int .i64 a] [.pack (AM ps)] (EndF 1 (.ro .rng (gapsF (getP ps a))) ([.pack (AM ps)] ++ [])) := by
  refine DoesK.close ?_
  have hpp : 0 < ps.length := by have := (isP_at e2).1; omega
  have hgp : getP ps a = (pAt ps (findP ps a)).list := if_pos e2
  obtain ⟨xs, hxs⟩ : ∃ xs, getP ps a = xs := ⟨_, rfl⟩
  rw [hxs]
  refine w_body (rs := [.tmp 4]) (tm := [.ptr 0 0, .int .i64 a, .any, .any, .any, .any, .any, .any, .any, .any, .any, .any, .any, .any, .any, .any, .any, .any, .any, .any, .any, .any, .any, .any, .any, .any, .any, .any, .any, .any, .any, .any, .any, .any, .any, .any, .any, .any, .any, .any, .any, .any, .any, .any, .any]) fn_13 rfl rfl rfl rfl fun R hR => ?_
  refine w_openM hpp ?_
  have A := arc_open hpp
  have S := AM_self hpp
  have hlen := AM_len hpp
  generalize AM ps = h at A S hlen ⊢
  obtain ⟨T, hT⟩ : ∃ T, (List.range' 2 ps.length).getD (findP ps a) 0 = T := ⟨_, rfl⟩
  have o := A.o
  have o1 := A.o1
  have o2 := A.rows _ (isP_at e2).1
  have e1 : PL (List.range' 2 ps.length) ps ps.length := ⟨by simp, rfl, hm⟩
  have hTl : T < h.length := by rw [← hT]; exact hth_lt (by rw [o2]; simp)
  rw [← hgp, hT, hxs] at o2
  rw [hxs] at hgp hl hc
  have hgp2 := congrArg List.length hgp.symm
  obtain ⟨hc1, hc2⟩ := hc
  have hw1 : IntKind.i64.wrap ((xs.length : Int) - 1) = ((xs.length - 1 : Nat) : Int) := by rw [wrap_i64 _ (by omega) (by omega)]; omega
  have hnz : decide ((xs.length : Int) = 0) = false := decide_eq_false (by omega)
  obtain ⟨g0, hg0⟩ : ∃ g0, (xs.getD 0 Ent.zero).count = g0 := ⟨_, rfl⟩
  obtain ⟨g1, hg1⟩ : ∃ g1, (xs.getD (xs.length - 1) Ent.zero).count = g1 := ⟨_, rfl⟩
  have q1 := hc2 (xs.length - 1)
  rw [hg1] at q1
  have hw2 : IntKind.i64.wrap (g1 + 1) = g1 + 1 := wrap_i64 _ (by omega) (by omega)
  have hst : insF (ofL []) ⟨g0, g1 + 1⟩ = gapK xs 0 := by rw [← hg0, ← hg1]; rfl
  (have zx1 := @o; have zx2 := @o1; have zx3 := @o2; have zx4 := @hT; have zx5 := @hgp2; have zx6 := @hw1; have zx7 := @hnz; have zx8 := @hg0; have zx9 := @hg1; have zx10 := @hw2; have zx11 := @hst; all_goals (try ((first | (with_reducible refine wp_id ?_) | (with_reducible refine does_id ?_) | (with_reducible refine ops_id ?_)); refine walk ?_; (repeat' (first | exact trivial | with_reducible refine And.intro ?_ ?_)); all_goals (repeat (first | (with_reducible refine ImpB.mk fun hb => ?_) | (with_reducible refine ImpK.mk fun hK => ?_) | (with_reducible refine ImpF.mk fun hF => ?_) | (with_reducible refine ImpQ.mk fun hp => ?_) | (with_reducible refine AllE.mk fun p => ?_) | (with_reducible refine AllR.mk fun rest => ?_) | (with_reducible refine AllK.mk fun K => ?_))))); repeat' (with_reducible refine And.intro ?_ ?_))
  (all_goals first | exact Int.natCast_nonneg _ | exact Int.ofNat_lt.2 (by assumption) | assumption | omega | exact Nat.le_refl _ | (exfalso; simp at hb; done) | (simp only [go_sem, decide_true, decide_false, Int.reduceToNat, Nat.min_eq_left, Nat.min_eq_right, Int.reducePow, Nat.reducePow, Int.reduceLE, Int.reduceLT, Int.reduceMul, Int.reduceAdd, Int.reduceSub, Int.reduceNeg, Bool.not_true, Bool.not_false, Bool.not_not, ↓reduceIte, Nat.reduceAdd, Nat.reduceSub, Nat.reduceMul, Nat.reduceEqDiff, reduceCtorEq, Nat.reduceLT, Nat.reduceLeDiff, Nat.reduceGT]; done) | (unfold capM; omega) | (simp only [List.length_drop, List.length_take, List.length_append, List.length_cons, List.length_nil]; omega) | skip)
  simp only [hT, hgp2]
  any_goals ((try (refine w_seq fun K hK => ?_)); (try (refine w_block ?_)); refine w_loop (A := Nat) (fun k => k ≤ xs.length) (fun k => xs.length - k) (fun k => [(6, .ro .rng (gapK xs k)), (31, .int .i64 k)]) (fun k => []) (0) (ws := ?ws1) (tk := ?tk1) ?hw1 ?ht1 ?hi ?h0 ?LH1; (case hw1 => simp only [go_sem, decide_true, decide_false, Int.reduceToNat, Nat.min_eq_left, Nat.min_eq_right, Int.reducePow, Nat.reducePow, Int.reduceLE, Int.reduceLT, Int.reduceMul, Int.reduceAdd, Int.reduceSub, Int.reduceNeg, Bool.not_true, Bool.not_false, Bool.not_not, ↓reduceIte, Nat.reduceAdd, Nat.reduceSub, Nat.reduceMul, Nat.reduceEqDiff, reduceCtorEq, Nat.reduceLT, Nat.reduceLeDiff, Nat.reduceGT]; exact rfl); (case ht1 => simp only [go_sem, decide_true, decide_false, Int.reduceToNat, Nat.min_eq_left, Nat.min_eq_right, Int.reducePow, Nat.reducePow, Int.reduceLE, Int.reduceLT, Int.reduceMul, Int.reduceAdd, Int.reduceSub, Int.reduceNeg, Bool.not_true, Bool.not_false, Bool.not_not, ↓reduceIte, Nat.reduceAdd, Nat.reduceSub, Nat.reduceMul, Nat.reduceEqDiff, reduceCtorEq, Nat.reduceLT, Nat.reduceLeDiff, Nat.reduceGT]; exact rfl); (case' LH1 => rintro k E t hx hE ht; simp only [go_sem] at ht; subst ht; simp only [go_sem]; try dsimp only at hx))
  case hi => exact Nat.zero_le _
  case h0 =>
    refine at_same (show 1 ≤ h.length by omega) S ?_
    simp only [go_sem]
    (repeat' (first | (refine And.intro ?_ ?_) | (with_reducible rfl) | exact rng_at (by omega) | exact trivial))
  case LH1 =>
    have hk0 : k ≤ xs.length := hx
    have hw : IntKind.i64.wrap ((k : Int) + 1) = ((k + 1 : Nat) : Int) := by rw [wrap_i64 _ (by omega) (by omega)]; omega
    by_cases hk : k < xs.length
    · have hkd : decide ((k : Int) < (xs.length : Int)) = true := decide_eq_true (by omega)
      have q2 := hc2 k
      obtain ⟨y, hy⟩ : ∃ y, xs.getD k Ent.zero = y := ⟨_, rfl⟩
      rw [hy] at q2
      have hw3 : IntKind.i64.wrap (y.count + 1) = y.count + 1 := wrap_i64 _ (by omega) (by omega)
      have hn := gapK_next hk
      rw [hy] at hn
      have hgl : (gapK xs k).length ≤ 1000000 := Nat.le_trans (gapK_len xs k hk0) (by omega)
      have t1 : ∀ l, hth (h ++ l) T = .rows .ent xs := fun l => by rw [hth_app hTl, o2]
      have t2 := symH h
      (have zx1 := @hkd; have zx2 := @hw; have zx3 := @hy; have zx4 := @hw3; have zx5 := @o; have zx6 := @o1; have zx7 := @o2; have zx8 := @t1; have zx9 := @t2; all_goals (try ((first | (with_reducible refine wp_id ?_) | (with_reducible refine does_id ?_) | (with_reducible refine ops_id ?_)); refine walk ?_; (repeat' (first | exact trivial | with_reducible refine And.intro ?_ ?_)); all_goals (repeat (first | (with_reducible refine ImpB.mk fun hb => ?_) | (with_reducible refine ImpK.mk fun hK => ?_) | (with_reducible refine ImpF.mk fun hF => ?_) | (with_reducible refine ImpQ.mk fun hp => ?_) | (with_reducible refine AllE.mk fun p => ?_) | (with_reducible refine AllR.mk fun rest => ?_) | (with_reducible refine AllK.mk fun K => ?_))))); repeat' (with_reducible refine And.intro ?_ ?_))
      (all_goals first | exact Int.natCast_nonneg _ | exact Int.ofNat_lt.2 (by assumption) | assumption | omega | exact Nat.le_refl _ | (exfalso; simp at hb; done) | (simp only [go_sem, decide_true, decide_false, Int.reduceToNat, Nat.min_eq_left, Nat.min_eq_right, Int.reducePow, Nat.reducePow, Int.reduceLE, Int.reduceLT, Int.reduceMul, Int.reduceAdd, Int.reduceSub, Int.reduceNeg, Bool.not_true, Bool.not_false, Bool.not_not, ↓reduceIte, Nat.reduceAdd, Nat.reduceSub, Nat.reduceMul, Nat.reduceEqDiff, reduceCtorEq, Nat.reduceLT, Nat.reduceLeDiff, Nat.reduceGT]; done) | (unfold capM; omega) | (simp only [List.length_drop, List.length_take, List.length_append, List.length_cons, List.length_nil]; omega) | skip)
      refine ⟨k + 1, ⟨(by omega : k + 1 ≤ xs.length), (by first | omega | (dsimp only; omega))⟩, ?_⟩
      dsimp only
      rw [hn]
      refine at_drop (show 1 ≤ h.length by omega) S ?_
      simp only [go_sem]
      (repeat' (first | (refine And.intro ?_ ?_) | (with_reducible rfl) | exact rng_at (by omega) | exact trivial))
    · have hkd : decide ((k : Int) < (xs.length : Int)) = false := decide_eq_false (by omega)
      have hke : k = xs.length := by omega
      have hg : gapK xs k = gapsF xs := by rw [hke]; exact gapK_all hl
      rw [hg]
      (have zx1 := @hkd; all_goals (try ((first | (with_reducible refine wp_id ?_) | (with_reducible refine does_id ?_) | (with_reducible refine ops_id ?_)); refine walk ?_; (repeat' (first | exact trivial | with_reducible refine And.intro ?_ ?_)); all_goals (repeat (first | (with_reducible refine ImpB.mk fun hb => ?_) | (with_reducible refine ImpK.mk fun hK => ?_) | (with_reducible refine ImpF.mk fun hF => ?_) | (with_reducible refine ImpQ.mk fun hp => ?_) | (with_reducible refine AllE.mk fun p => ?_) | (with_reducible refine AllR.mk fun rest => ?_) | (with_reducible refine AllK.mk fun K => ?_))))); repeat' (with_reducible refine And.intro ?_ ?_))
      exact end_arc A rfl
theorem b_gapX (ps : List Prc) (a : Int) (e2 : isP ps a = false) (hm : ps.length ≤ 1000000) (hpp : 0 < ps.length) :
    DoesK Try.prog 1 13 [.ptr 0 0, .int .i64 a] [.pack (AM ps)] (EndF 1 (.ro .rng []) ([.pack (AM ps)] ++ [])) := by
  refine DoesK.close ?_
  refine w_body (rs := [.tmp 4]) (tm := [.ptr 0 0, .int .i64 a, .any, .any, .any, .any, .any, .any, .any, .any, .any, .any, .any, .any, .any, .any, .any, .any, .any, .any, .any, .any, .any, .any, .any, .any, .any, .any, .any, .any, .any, .any, .any, .any, .any, .any, .any, .any, .any, .any, .any, .any, .any, .any, .any]) fn_13 rfl rfl rfl rfl fun R hR => ?_
  refine w_openM hpp ?_
  have A := arc_open hpp
  generalize AM ps = h at A ⊢
  have o := A.o
  have o1 := A.o1
  have e1 : PL (List.range' 2 ps.length) ps ps.length := ⟨by simp, rfl, hm⟩
  (have zx1 := @o; have zx2 := @o1; all_goals (try ((first | (with_reducible refine wp_id ?_) | (with_reducible refine does_id ?_) | (with_reducible refine ops_id ?_)); refine walk ?_; (repeat' (first | exact trivial | with_reducible refine And.intro ?_ ?_)); all_goals (repeat (first | (with_reducible refine ImpB.mk fun hb => ?_) | (with_reducible refine ImpK.mk fun hK => ?_) | (with_reducible refine ImpF.mk fun hF => ?_) | (with_reducible refine ImpQ.mk fun hp => ?_) | (with_reducible refine AllE.mk fun p => ?_) | (with_reducible refine AllR.mk fun rest => ?_) | (with_reducible refine AllK.mk fun K => ?_))))); repeat' (with_reducible refine And.intro ?_ ?_))
  exact end_arc2 A (rfl : fitA [0] (.ro .rng []) (.lit (.slice none 0 0)))
structure okM (ps : List Prc) (a : Int) : Prop where
  max : ps.length ≤ 900000
  ne : isP ps a = true → 0 < (getP ps a).length
  c : okC (getP ps a)
  d : ∀ k, ((getP ps a).getD k Ent.zero).data.length ≤ 1099511627776
theorem c_gapM {h : List Ch} {K : KT} {u : Nat} {a : Int} {ps : List Prc} (H : K (.ro .rng (gapsF (getP ps a))) h) (o : hth h u = .pack (AM ps)) (e1 : okM ps a) : Does Try.prog 13 [.ptr u 0, .int .i64 a] h K := by
  by_cases hn : ps.length = 0
  · obtain rfl := List.eq_nil_of_length_eq_zero hn
    exact frame_obj0 (b_gapE a) o (by simp) (fitC_pack _) (br_cons (br_ptr rfl) (br_cons br_int br_nil)) (.inl rfl) (fun _ => rfl) rfl (by rw [show AE = AM [] from rfl, set_hth o (by simp)]; exact H)
  · cases hi : isP ps a with
    | true => exact frame_obj0 (b_gapM ps a hi (Nat.le_trans e1.max (by decide)) (e1.ne hi) e1.c) o (by simp) (fitC_pack _) (br_cons (br_ptr rfl) (br_cons br_int br_nil)) (.inl rfl) (fun _ => rfl) rfl (by rw [set_hth o (by simp)]; exact H)
    | false =>
      have hg : getP ps a = [] := if_neg (by rw [hi]; decide)
      rw [hg] at H
      exact frame_obj0 (b_gapX ps a hi (Nat.le_trans e1.max (by decide)) (by omega)) o (by simp) (fitC_pack _) (br_cons (br_ptr rfl) (br_cons br_int br_nil)) (.inl rfl) (fun _ => rfl) rfl (by rw [set_hth o (by simp)]; exact H)
abbrev i_gapM := Ctr.mk (i := 1) (g := 13) @c_gapM
attribute [instance] i_gapM
theorem frL_flat {t : Nat} {e : Ety} {xs : List e.T} : ∀ {ts : List Nat} {ps : List Prc}, t ∉ ts → frL t e xs (flatP ts ps) = flatP ts ps
  | [], _, _ => rfl
  | _ :: _, [], _ => rfl
  | s :: ts, p :: ps, h => by
    have h1 : ¬ s = t := fun q => h (by rw [q]; simp)
    show _ :: frA t e xs (.sl s .ent 0 p.list.length) :: frL t e xs (flatP ts ps) = _
    rw [frL_flat fun q => h (List.mem_cons_of_mem _ q)]
    show _ :: (if s = t then _ else _) :: _ = _
    rw [if_neg h1]; rfl
theorem frObL_flat {t : Nat} {e : Ety} {m : Nat} : ∀ {ts : List Nat} {ps : List Prc}, t ∉ ts → frObL t e m (flatP ts ps)
  | [], _, _ => trivial
  | _ :: _, [], _ => trivial
  | s :: ts, p :: ps, h => ⟨trivial, fun q => absurd q (fun q => h (by rw [q]; simp)), frObL_flat fun q => h (List.mem_cons_of_mem _ q)⟩
theorem frHs_rows {t : Nat} {e : Ety} {xs : List e.T} : ∀ (ps : List Prc), frHs t e xs (ps.map rowP) = ps.map rowP
  | [] => rfl
  | p :: ps => by
    show frC t e xs (rowP p) :: frHs t e xs (ps.map rowP) = _
    rw [frHs_rows ps]; rfl
theorem frObH_rows {t : Nat} {e : Ety} {m : Nat} : ∀ (ps : List Prc), frObH t e m (ps.map rowP)
  | [] => trivial
  | p :: ps => ⟨trivial, frObH_rows ps⟩
theorem frHs_app {t : Nat} {e : Ety} {xs : List e.T} : ∀ (h l : List Ch), frHs t e xs (h ++ l) = frHs t e xs h ++ frHs t e xs l
  | [], _ => rfl
  | c :: h, l => by
    show frC t e xs c :: frHs t e xs (h ++ l) = frC t e xs c :: (frHs t e xs h ++ frHs t e xs l)
    rw [frHs_app h l]
theorem frObH_app {t : Nat} {e : Ety} {m : Nat} : ∀ {h l : List Ch}, frObH t e m h → frObH t e m l → frObH t e m (h ++ l)
  | [], _, _, b => b
  | _ :: _, _, a, b => ⟨a.1, frObH_app a.2 b⟩
theorem AM_fr {ps : List Prc} (hp : 0 < ps.length) (e : Ety) (xs : List e.T) : frHs (AM ps).length e xs (AM ps) = AM ps ∧ frObH (AM ps).length e xs.length (AM ps) := by
  have hl := AM_len hp
  have e0 : AM ps = .cells [.bool true, .csl 1 ps.length 2] :: AMr ps := if_neg (by omega)
  have hni : (AM ps).length ∉ List.range' 2 ps.length := fun q => by have := List.mem_range'_1.1 q; omega
  generalize (AM ps).length = t at hni
  rw [e0]
  constructor
  · show frC t e xs _ :: frC t e xs (.crow (flatP (List.range' 2 ps.length) ps)) :: frHs t e xs (ps.map rowP) = _
    rw [frHs_rows]
    show _ :: Ch.crow (frL t e xs (flatP (List.range' 2 ps.length) ps)) :: _ = _
    rw [frL_flat hni]; rfl
  · exact ⟨⟨trivial, trivial, trivial⟩, frObL_flat hni, frObH_rows ps⟩
theorem end_arcRo {h : List Ch} {v : Nat} {ts : List Nat} {ps : List Prc} {e : Ety} {xs : List e.T} {n : Nat} (a : Arc h v ts ps) (hn : n = xs.length) (F : frHs h.length e xs h = h ∧ frObH h.length e xs.length h) : ∃ v' h2, Gh [.sl h.length e 0 n] (h ++ [.rows e xs]) [v'] h2 ∧ EndF 1 (.ro e xs) ([.pack (AM ps)] ++ []) v' h2 := by
  subst hn
  have e1 : frHs h.length e xs ((h ++ [Ch.rows e xs]).set h.length .gone) = h ++ [.gone] := by
    rw [List.set_append_right _ _ (Nat.le_refl _), Nat.sub_self, frHs_app, F.1]; rfl
  have e2 : frL h.length e xs [.sl h.length e 0 xs.length] = [.ro e xs] := by
    show [if h.length = h.length then AV.ro e ((xs.drop 0).take xs.length) else _] = _
    rw [if_pos rfl, List.drop_zero, List.take_length]
  have G := gh_frz (tm := [.sl h.length e 0 xs.length]) (h := h ++ [Ch.rows e xs]) (t := h.length) (e := e) (xs := xs) (hth_app_r (j := 0)) ⟨fun _ => ⟨rfl, by omega⟩, trivial⟩ (frObH_app F.2 (show frObH h.length e xs.length [Ch.rows e xs] from ⟨trivial, trivial⟩))
  rw [e1, e2] at G
  have a2 := a.app [.gone]
  have hc : hth (closeH (h ++ [.gone]) 0 (v :: ts) (AM ps)) 0 = .pack (AM ps) := by
    unfold closeH
    exact hth_set_eq (by rw [goneH_len]; exact a2.lt 0 (by simp))
  refine ⟨_, _, Gh.trans G (gh_close a2.shut), [0], rfl, ⟨?_, trivial⟩, ⟨hth_lt (by rw [hc]; simp), by rw [hc]; exact rfl, trivial⟩, by simp⟩
  show (match asE e e xs with | some ys => xs = ys | none => False)
  rw [asE_self]
theorem b_itmM (ps : List Prc) (a : Int) (e2 : isP ps a = true) (hm : ps.length ≤ 1000000) (hl : (getP ps a).length ≤ 900000) (hd : ∀ k, ((getP ps a).getD k Ent.zero).data.length ≤ 1099511627776) :
    DoesK Try.prog 1 20 [.ptr 0 0, .int .i64 a] [.pack (AM ps)] (EndF 1 (.ro .itm ((getP ps a).map toI)) ([.pack (AM ps)] ++ [])) := by
  refine DoesK.close ?_
  have hpp : 0 < ps.length := by have := (isP_at e2).1; omega
  have hgp : getP ps a = (pAt ps (findP ps a)).list := if_pos e2
  obtain ⟨xs, hxs⟩ : ∃ xs, getP ps a = xs := ⟨_, rfl⟩
  rw [hxs]
  refine w_body (rs := [.tmp 4]) (tm := [.ptr 0 0, .int .i64 a, .any, .any, .any, .any, .any, .any, .any, .any, .any, .any, .any, .any, .any, .any, .any, .any, .any, .any, .any, .any, .any, .any]) fn_20 rfl rfl rfl rfl fun R hR => ?_
  refine w_openM hpp ?_
  have A := arc_open hpp
  have S := AM_self hpp
  have hlen := AM_len hpp
  have FR := AM_fr hpp .itm (xs.map toI)
  generalize AM ps = h at A S hlen FR ⊢
  obtain ⟨T, hT⟩ : ∃ T, (List.range' 2 ps.length).getD (findP ps a) 0 = T := ⟨_, rfl⟩
  have o := A.o
  have o1 := A.o1
  have o2 := A.rows _ (isP_at e2).1
  have e1 : PL (List.range' 2 ps.length) ps ps.length := ⟨by simp, rfl, hm⟩
  have hTl : T < h.length := by rw [← hT]; exact hth_lt (by rw [o2]; simp)
  rw [← hgp, hT, hxs] at o2
  rw [hxs] at hgp hl hd
  have hgp2 := congrArg List.length hgp.symm
  (have zx1 := @o; have zx2 := @o1; have zx3 := @o2; have zx4 := @hT; have zx5 := @hgp2; all_goals (try ((first | (with_reducible refine wp_id ?_) | (with_reducible refine does_id ?_) | (with_reducible refine ops_id ?_)); refine walk ?_; (repeat' (first | exact trivial | with_reducible refine And.intro ?_ ?_)); all_goals (repeat (first | (with_reducible refine ImpB.mk fun hb => ?_) | (with_reducible refine ImpK.mk fun hK => ?_) | (with_reducible refine ImpF.mk fun hF => ?_) | (with_reducible refine ImpQ.mk fun hp => ?_) | (with_reducible refine AllE.mk fun p => ?_) | (with_reducible refine AllR.mk fun rest => ?_) | (with_reducible refine AllK.mk fun K => ?_))))); repeat' (with_reducible refine And.intro ?_ ?_))
  simp only [hT, hgp2]
  refine Wp.ghost (gh_adopt (s := 5) .itm trivial) ?_
  simp only [go_sem, decide_true, decide_false, Int.reduceToNat, Nat.min_eq_left, Nat.min_eq_right, Int.reducePow, Nat.reducePow, Int.reduceLE, Int.reduceLT, Int.reduceMul, Int.reduceAdd, Int.reduceSub, Int.reduceNeg, Bool.not_true, Bool.not_false, Bool.not_not, ↓reduceIte, Nat.reduceAdd, Nat.reduceSub, Nat.reduceMul, Nat.reduceEqDiff, reduceCtorEq, Nat.reduceLT, Nat.reduceLeDiff, Nat.reduceGT]
  have t2 := symH h
  any_goals ((try (refine w_seq fun K hK => ?_)); (try (refine w_block ?_)); refine w_loop (A := Nat) (fun k => k ≤ xs.length) (fun k => xs.length - k) (fun k => [(5, .sl h.length .itm 0 k), (12, .int .i64 k)]) (fun k => [(h.length, .rows .itm (itmK xs k))]) (0) (ws := ?ws2) (tk := ?tk2) ?hw2 ?ht2 ?hi ?h0 ?LH2; (case hw2 => simp only [go_sem, decide_true, decide_false, Int.reduceToNat, Nat.min_eq_left, Nat.min_eq_right, Int.reducePow, Nat.reducePow, Int.reduceLE, Int.reduceLT, Int.reduceMul, Int.reduceAdd, Int.reduceSub, Int.reduceNeg, Bool.not_true, Bool.not_false, Bool.not_not, ↓reduceIte, Nat.reduceAdd, Nat.reduceSub, Nat.reduceMul, Nat.reduceEqDiff, reduceCtorEq, Nat.reduceLT, Nat.reduceLeDiff, Nat.reduceGT]; exact rfl); (case ht2 => simp only [go_sem, decide_true, decide_false, Int.reduceToNat, Nat.min_eq_left, Nat.min_eq_right, Int.reducePow, Nat.reducePow, Int.reduceLE, Int.reduceLT, Int.reduceMul, Int.reduceAdd, Int.reduceSub, Int.reduceNeg, Bool.not_true, Bool.not_false, Bool.not_not, ↓reduceIte, Nat.reduceAdd, Nat.reduceSub, Nat.reduceMul, Nat.reduceEqDiff, reduceCtorEq, Nat.reduceLT, Nat.reduceLeDiff, Nat.reduceGT]; exact rfl); (case' LH2 => rintro k E t hx hE ht; simp only [go_sem] at ht; subst ht; simp only [go_sem]; try dsimp only at hx))
  case hi => exact Nat.zero_le _
  case h0 =>
    refine at_drop1s 0 (show 1 ≤ h.length by omega) S rfl ?_
    simp only [go_sem]
    (repeat' (first | (refine And.intro ?_ ?_) | (with_reducible rfl) | exact rng_at2 (by omega) | exact rng_at0 | exact trivial))
  case LH2 =>
    have hk0 : k ≤ xs.length := hx
    have hw : IntKind.i64.wrap ((k : Int) + 1) = ((k + 1 : Nat) : Int) := by rw [wrap_i64 _ (by omega) (by omega)]; omega
    have hkl := itmK_len hk0
    simp only [t2, List.set_cons_zero]
    by_cases hk : k < xs.length
    · have hkd : decide ((k : Int) < (xs.length : Int)) = true := decide_eq_true (by omega)
      have q2 := hd k
      have hn := itmK_next hk
      obtain ⟨y, hy⟩ : ∃ y, xs.getD k Ent.zero = y := ⟨_, rfl⟩
      rw [hy] at q2 hn
      have hn2 : itmK xs (k + 1) = itmK xs k ++ [⟨y.apid, y.cnt, y.time, y.data⟩] := hn
      have t1 : ∀ l, hth (h ++ l) T = .rows .ent xs := fun l => by rw [hth_app hTl, o2]
      have t3 : ¬ h.length = h.length + 2 := by omega
      (have zx1 := @hkd; have zx2 := @hw; have zx3 := @hy; have zx4 := @hkl; have zx5 := @t1; have zx6 := @t2; have zx7 := @t3; all_goals (try ((first | (with_reducible refine wp_id ?_) | (with_reducible refine does_id ?_) | (with_reducible refine ops_id ?_)); refine walk ?_; (repeat' (first | exact trivial | with_reducible refine And.intro ?_ ?_)); all_goals (repeat (first | (with_reducible refine ImpB.mk fun hb => ?_) | (with_reducible refine ImpK.mk fun hK => ?_) | (with_reducible refine ImpF.mk fun hF => ?_) | (with_reducible refine ImpQ.mk fun hp => ?_) | (with_reducible refine AllE.mk fun p => ?_) | (with_reducible refine AllR.mk fun rest => ?_) | (with_reducible refine AllK.mk fun K => ?_))))); repeat' (with_reducible refine And.intro ?_ ?_))
      any_goals first | exact Int.natCast_nonneg _ | (show (k : Int) < (xs.length : Int); omega) | (show k < xs.length; omega) | (show (k + 1) * 48 ≤ 140737488355328; omega) | (show k ≤ (_ : Nat); omega)
      refine ⟨k + 1, ⟨(by omega : k + 1 ≤ xs.length), (by first | omega | (dsimp only; omega))⟩, ?_⟩
      dsimp only
      rw [hn2]
      refine at_drop1s 3 (show 1 ≤ h.length by omega) S rfl ?_
      simp only [go_sem]
      (repeat' (first | (refine And.intro ?_ ?_) | (with_reducible rfl) | exact rng_at2 (by omega) | exact rng_at0 | exact trivial))
    · have hkd : decide ((k : Int) < (xs.length : Int)) = false := decide_eq_false (by omega)
      have hke : k = xs.length := by omega
      have hg : itmK xs k = xs.map toI := by rw [hke]; unfold itmK; rw [List.take_length]
      rw [hg] at hkl ⊢
      (have zx1 := @hkd; all_goals (try ((first | (with_reducible refine wp_id ?_) | (with_reducible refine does_id ?_) | (with_reducible refine ops_id ?_)); refine walk ?_; (repeat' (first | exact trivial | with_reducible refine And.intro ?_ ?_)); all_goals (repeat (first | (with_reducible refine ImpB.mk fun hb => ?_) | (with_reducible refine ImpK.mk fun hK => ?_) | (with_reducible refine ImpF.mk fun hF => ?_) | (with_reducible refine ImpQ.mk fun hp => ?_) | (with_reducible refine AllE.mk fun p => ?_) | (with_reducible refine AllR.mk fun rest => ?_) | (with_reducible refine AllK.mk fun K => ?_))))); repeat' (with_reducible refine And.intro ?_ ?_))
      rw [hke]
      exact end_arcRo A (List.length_map _).symm FR
end Go.V

set_option maxRecDepth 100000
set_option maxHeartbeats 8000000
namespace Go.V
open Go.Proofs
attribute [-go_sem] AE AO
abbrev itL (i : Itm) : List AV := [.int .i64 i.apid, .int .i64 i.count, .int .i64 i.time, .ro .byte i.data]
theorem br_it {h : List Ch} {σ : List Nat} (i : Itm) : brA σ h (.agg (itL i)) (.agg (itL i)) := br_agg (br_cons br_int (br_cons br_int (br_cons br_int (br_cons br_ro br_nil))))
def rightB (i : Itm) : Bool := decide (0 ≤ i.apid) && (decide (i.apid ≤ 2046) && (decide (0 ≤ i.count) && (decide (i.count < 16384) && (decide (0 ≤ i.time) && (decide (i.time ≤ 1099511627776) && decide ((i.data.length : Int) ≤ 4096))))))
theorem b_rightD (i : Itm) : DoesK Try.prog 0 28 [.agg (itL i)] [] (EndF 0 (.bool (rightB i)) []) := by
  refine DoesK.close ?_
  unfold rightB
  obtain ⟨a, c, t, d⟩ := i
  dsimp only [itL]
  cases d1 : decide (0 ≤ a)
  · refine w_body (rs := [.tmp 2]) (tm := [.agg [.int .i64 a, .int .i64 c, .int .i64 t, .ro .byte d], .any, .any, .any, .any, .any, .any, .any, .any, .any, .any, .any, .any, .any, .any, .any, .any, .any, .any, .any, .any, .any, .any, .any, .any, .any, .any, .any, .any, .any, .any, .any, .any, .any, .any, .any, .any]) fn_28 rfl rfl rfl rfl fun R hR => ?_
    (have zx1 := @d1; all_goals (try ((first | (with_reducible refine wp_id ?_) | (with_reducible refine does_id ?_) | (with_reducible refine ops_id ?_)); refine walk ?_; (repeat' (first | exact trivial | with_reducible refine And.intro ?_ ?_)); all_goals (repeat (first | (with_reducible refine ImpB.mk fun hb => ?_) | (with_reducible refine ImpK.mk fun hK => ?_) | (with_reducible refine ImpF.mk fun hF => ?_) | (with_reducible refine ImpQ.mk fun hp => ?_) | (with_reducible refine AllE.mk fun p => ?_) | (with_reducible refine AllR.mk fun rest => ?_) | (with_reducible refine AllK.mk fun K => ?_))))); repeat' (with_reducible refine And.intro ?_ ?_))
    (focus (refine ⟨_, _, Gh.refl, [], rfl, ?_⟩; (refine fitq ?_ ?_ ?_ <;> try exact trivial); (try any_goals (refine ⟨?_, ?_⟩)); (try any_goals (with_reducible rfl))))
    all_goals (repeat' (first | (refine And.intro ?_ ?_) | rfl))
  cases d2 : decide (a ≤ 2046)
  · refine w_body (rs := [.tmp 2]) (tm := [.agg [.int .i64 a, .int .i64 c, .int .i64 t, .ro .byte d], .any, .any, .any, .any, .any, .any, .any, .any, .any, .any, .any, .any, .any, .any, .any, .any, .any, .any, .any, .any, .any, .any, .any, .any, .any, .any, .any, .any, .any, .any, .any, .any, .any, .any, .any, .any]) fn_28 rfl rfl rfl rfl fun R hR => ?_
    (have zx1 := @d1; have zx2 := @d2; all_goals (try ((first | (with_reducible refine wp_id ?_) | (with_reducible refine does_id ?_) | (with_reducible refine ops_id ?_)); refine walk ?_; (repeat' (first | exact trivial | with_reducible refine And.intro ?_ ?_)); all_goals (repeat (first | (with_reducible refine ImpB.mk fun hb => ?_) | (with_reducible refine ImpK.mk fun hK => ?_) | (with_reducible refine ImpF.mk fun hF => ?_) | (with_reducible refine ImpQ.mk fun hp => ?_) | (with_reducible refine AllE.mk fun p => ?_) | (with_reducible refine AllR.mk fun rest => ?_) | (with_reducible refine AllK.mk fun K => ?_))))); repeat' (with_reducible refine And.intro ?_ ?_))
    (focus (refine ⟨_, _, Gh.refl, [], rfl, ?_⟩; (refine fitq ?_ ?_ ?_ <;> try exact trivial); (try any_goals (refine ⟨?_, ?_⟩)); (try any_goals (with_reducible rfl))))
    all_goals (repeat' (first | (refine And.intro ?_ ?_) | rfl))
  cases d3 : decide (0 ≤ c)
  · refine w_body (rs := [.tmp 2]) (tm := [.agg [.int .i64 a, .int .i64 c, .int .i64 t, .ro .byte d], .any, .any, .any, .any, .any, .any, .any, .any, .any, .any, .any, .any, .any, .any, .any, .any, .any, .any, .any, .any, .any, .any, .any, .any, .any, .any, .any, .any, .any, .any, .any, .any, .any, .any, .any, .any]) fn_28 rfl rfl rfl rfl fun R hR => ?_
    (have zx1 := @d1; have zx2 := @d2; have zx3 := @d3; all_goals (try ((first | (with_reducible refine wp_id ?_) | (with_reducible refine does_id ?_) | (with_reducible refine ops_id ?_)); refine walk ?_; (repeat' (first | exact trivial | with_reducible refine And.intro ?_ ?_)); all_goals (repeat (first | (with_reducible refine ImpB.mk fun hb => ?_) | (with_reducible refine ImpK.mk fun hK => ?_) | (with_reducible refine ImpF.mk fun hF => ?_) | (with_reducible refine ImpQ.mk fun hp => ?_) | (with_reducible refine AllE.mk fun p => ?_) | (with_reducible refine AllR.mk fun rest => ?_) | (with_reducible refine AllK.mk fun K => ?_))))); repeat' (with_reducible refine And.intro ?_ ?_))
    (focus (refine ⟨_, _, Gh.refl, [], rfl, ?_⟩; (refine fitq ?_ ?_ ?_ <;> try exact trivial); (try any_goals (refine ⟨?_, ?_⟩)); (try any_goals (with_reducible rfl))))
    all_goals (repeat' (first | (refine And.intro ?_ ?_) | rfl))
  cases d4 : decide (c < 16384)
  · refine w_body (rs := [.tmp 2]) (tm := [.agg [.int .i64 a, .int .i64 c, .int .i64 t, .ro .byte d], .any, .any, .any, .any, .any, .any, .any, .any, .any, .any, .any, .any, .any, .any, .any, .any, .any, .any, .any, .any, .any, .any, .any, .any, .any, .any, .any, .any, .any, .any, .any, .any, .any, .any, .any, .any]) fn_28 rfl rfl rfl rfl fun R hR => ?_
    (have zx1 := @d1; have zx2 := @d2; have zx3 := @d3; have zx4 := @d4; all_goals (try ((first | (with_reducible refine wp_id ?_) | (with_reducible refine does_id ?_) | (with_reducible refine ops_id ?_)); refine walk ?_; (repeat' (first | exact trivial | with_reducible refine And.intro ?_ ?_)); all_goals (repeat (first | (with_reducible refine ImpB.mk fun hb => ?_) | (with_reducible refine ImpK.mk fun hK => ?_) | (with_reducible refine ImpF.mk fun hF => ?_) | (with_reducible refine ImpQ.mk fun hp => ?_) | (with_reducible refine AllE.mk fun p => ?_) | (with_reducible refine AllR.mk fun rest => ?_) | (with_reducible refine AllK.mk fun K => ?_))))); repeat' (with_reducible refine And.intro ?_ ?_))
    (focus (refine ⟨_, _, Gh.refl, [], rfl, ?_⟩; (refine fitq ?_ ?_ ?_ <;> try exact trivial); (try any_goals (refine ⟨?_, ?_⟩)); (try any_goals (with_reducible rfl))))
    all_goals (repeat' (first | (refine And.intro ?_ ?_) | rfl))
  cases d5 : decide (0 ≤ t)
  · refine w_body (rs := [.tmp 2]) (tm := [.agg [.int .i64 a, .int .i64 c, .int .i64 t, .ro .byte d], .any, .any, .any, .any, .any, .any, .any, .any, .any, .any, .any, .any, .any, .any, .any, .any, .any, .any, .any, .any, .any, .any, .any, .any, .any, .any, .any, .any, .any, .any, .any, .any, .any, .any, .any, .any]) fn_28 rfl rfl rfl rfl fun R hR => ?_
    (have zx1 := @d1; have zx2 := @d2; have zx3 := @d3; have zx4 := @d4; have zx5 := @d5; all_goals (try ((first | (with_reducible refine wp_id ?_) | (with_reducible refine does_id ?_) | (with_reducible refine ops_id ?_)); refine walk ?_; (repeat' (first | exact trivial | with_reducible refine And.intro ?_ ?_)); all_goals (repeat (first | (with_reducible refine ImpB.mk fun hb => ?_) | (with_reducible refine ImpK.mk fun hK => ?_) | (with_reducible refine ImpF.mk fun hF => ?_) | (with_reducible refine ImpQ.mk fun hp => ?_) | (with_reducible refine AllE.mk fun p => ?_) | (with_reducible refine AllR.mk fun rest => ?_) | (with_reducible refine AllK.mk fun K => ?_))))); repeat' (with_reducible refine And.intro ?_ ?_))
    (focus (refine ⟨_, _, Gh.refl, [], rfl, ?_⟩; (refine fitq ?_ ?_ ?_ <;> try exact trivial); (try any_goals (refine ⟨?_, ?_⟩)); (try any_goals (with_reducible rfl))))
    all_goals (repeat' (first | (refine And.intro ?_ ?_) | rfl))
  cases d6 : decide (t ≤ 1099511627776)
  · refine w_body (rs := [.tmp 2]) (tm := [.agg [.int .i64 a, .int .i64 c, .int .i64 t, .ro .byte d], .any, .any, .any, .any, .any, .any, .any, .any, .any, .any, .any, .any, .any, .any, .any, .any, .any, .any, .any, .any, .any, .any, .any, .any, .any, .any, .any, .any, .any, .any, .any, .any, .any, .any, .any, .any]) fn_28 rfl rfl rfl rfl fun R hR => ?_
    (have zx1 := @d1; have zx2 := @d2; have zx3 := @d3; have zx4 := @d4; have zx5 := @d5; have zx6 := @d6; all_goals (try ((first | (with_reducible refine wp_id ?_) | (with_reducible refine does_id ?_) | (with_reducible refine ops_id ?_)); refine walk ?_; (repeat' (first | exact trivial | with_reducible refine And.intro ?_ ?_)); all_goals (repeat (first | (with_reducible refine ImpB.mk fun hb => ?_) | (with_reducible refine ImpK.mk fun hK => ?_) | (with_reducible refine ImpF.mk fun hF => ?_) | (with_reducible refine ImpQ.mk fun hp => ?_) | (with_reducible refine AllE.mk fun p => ?_) | (with_reducible refine AllR.mk fun rest => ?_) | (with_reducible refine AllK.mk fun K => ?_))))); repeat' (with_reducible refine And.intro ?_ ?_))
    (focus (refine ⟨_, _, Gh.refl, [], rfl, ?_⟩; (refine fitq ?_ ?_ ?_ <;> try exact trivial); (try any_goals (refine ⟨?_, ?_⟩)); (try any_goals (with_reducible rfl))))
    all_goals (repeat' (first | (refine And.intro ?_ ?_) | rfl))
  · refine w_body (rs := [.tmp 2]) (tm := [.agg [.int .i64 a, .int .i64 c, .int .i64 t, .ro .byte d], .any, .any, .any, .any, .any, .any, .any, .any, .any, .any, .any, .any, .any, .any, .any, .any, .any, .any, .any, .any, .any, .any, .any, .any, .any, .any, .any, .any, .any, .any, .any, .any, .any, .any, .any, .any]) fn_28 rfl rfl rfl rfl fun R hR => ?_
    (have zx1 := @d1; have zx2 := @d2; have zx3 := @d3; have zx4 := @d4; have zx5 := @d5; have zx6 := @d6; all_goals (try ((first | (with_reducible refine wp_id ?_) | (with_reducible refine does_id ?_) | (with_reducible refine ops_id ?_)); refine walk ?_; (repeat' (first | exact trivial | with_reducible refine And.intro ?_ ?_)); all_goals (repeat (first | (with_reducible refine ImpB.mk fun hb => ?_) | (with_reducible refine ImpK.mk fun hK => ?_) | (with_reducible refine ImpF.mk fun hF => ?_) | (with_reducible refine ImpQ.mk fun hp => ?_) | (with_reducible refine AllE.mk fun p => ?_) | (with_reducible refine AllR.mk fun rest => ?_) | (with_reducible refine AllK.mk fun K => ?_))))); repeat' (with_reducible refine And.intro ?_ ?_))
    (focus (refine ⟨_, _, Gh.refl, [], rfl, ?_⟩; (refine fitq ?_ ?_ ?_ <;> try exact trivial); (try any_goals (refine ⟨?_, ?_⟩)); (try any_goals (with_reducible rfl))))
    all_goals (repeat' (first | (refine And.intro ?_ ?_) | rfl))
theorem c_rightD {h : List Ch} {K : KT} {a c t : Int} {d : List UInt8} (H : K (.bool (rightB ⟨a, c, t, d⟩)) h) : Does Try.prog 28 [.agg [.int .i64 a, .int .i64 c, .int .i64 t, .ro .byte d]] h K :=
  frame_pure (b_rightD ⟨a, c, t, d⟩) (br_cons (br_it ⟨a, c, t, d⟩) br_nil) (.inr rfl) (fun _ => rfl) H
abbrev i_rightD := Ctr.mk (i := 1) (g := 28) @c_rightD
attribute [instance] i_rightD
def newE (i : Itm) (e : Int) : Ent := ⟨e, i.apid, i.count, i.time, i.data⟩
def addQ (i : Itm) (e : Int) (xs : List Ent) : List Ent × Int :=
  if posE xs e xs.length < xs.length ∧ (eAt xs (posE xs e xs.length)).count = e then (xs, if (eAt xs (posE xs e xs.length)).time = i.time ∧ (eAt xs (posE xs e xs.length)).data = i.data then 9 else 4)
  else (xs.take (posE xs e xs.length) ++ newE i e :: xs.drop (posE xs e xs.length), 0)
def addL (i : Itm) (xs : List Ent) : List Ent × Int := if xs.length = 0 then ([newE i i.count], 0) else addQ i (ext (eAt xs (xs.length - 1)).count i.count) xs
def addM (i : Itm) (ps : List Prc) : List Prc × Int :=
  if rightB i = false then (ps, 1)
  else if isP ps i.apid = true then (ps.set (findP ps i.apid) ⟨i.apid, (addL i (getP ps i.apid)).1⟩, (addL i (getP ps i.apid)).2)
  else (ps.take (findP ps i.apid) ++ ⟨i.apid, [newE i i.count]⟩ :: ps.drop (findP ps i.apid), 0)
theorem b_addMW (i : Itm) (ps : List Prc) (hr : rightB i = false) : DoesK Try.prog 1 10 [.ptr 0 0, .agg (itL i)] [.pack (AM ps)] (EndF 1 (.int .i64 1) ([.pack (AM ps)] ++ [])) := by
  refine DoesK.close ?_
  obtain ⟨a, c, t, d⟩ := i
  by_cases hn : ps.length = 0
  · obtain rfl := List.eq_nil_of_length_eq_zero hn
    rw [show AM [] = AE from rfl]
    refine w_body (rs := [.tmp 4]) (tm := [.ptr 0 0, .agg [.int .i64 a, .int .i64 c, .int .i64 t, .ro .byte d], .any, .any, .any, .any, .any, .any, .any, .any, .any, .any, .any, .any, .any, .any, .any, .any, .any, .any, .any, .any, .any, .any, .any, .any, .any, .any, .any, .any, .any, .any, .any, .any, .any, .any, .any, .any, .any, .any, .any, .any, .any, .any, .any, .any, .any, .any, .any, .any, .any, .any, .any, .any, .any, .any, .any, .any, .any, .any, .any, .any, .any, .any, .any, .any, .any, .any, .any, .any, .any, .any, .any, .any, .any, .any, .any, .any, .any, .any, .any, .any, .any, .any, .any, .any, .any, .any, .any, .any, .any, .any, .any, .any, .any, .any, .any, .any, .any, .any, .any, .any, .any, .any, .any, .any, .any, .any, .any, .any, .any, .any, .any, .any, .any, .any, .any, .any, .any, .any, .any, .any, .any, .any, .any, .any, .any, .any, .any, .any, .any, .any, .any, .any, .any, .any, .any, .any, .any, .any, .any, .any, .any, .any, .any, .any, .any, .any, .any]) fn_10 rfl rfl rfl rfl fun R hR => ?_
    unfold AE
    refine w_open 0 rfl rfl ?_
    simp only [go_sem, decide_true, decide_false, Int.reduceToNat, Nat.min_eq_left, Nat.min_eq_right, Int.reducePow, Nat.reducePow, Int.reduceLE, Int.reduceLT, Int.reduceMul, Int.reduceAdd, Int.reduceSub, Int.reduceNeg, Bool.not_true, Bool.not_false, Bool.not_not, ↓reduceIte, Nat.reduceAdd, Nat.reduceSub, Nat.reduceMul, Nat.reduceEqDiff, reduceCtorEq, Nat.reduceLT, Nat.reduceLeDiff, Nat.reduceGT]
    (have zx1 := @hr; all_goals (try ((first | (with_reducible refine wp_id ?_) | (with_reducible refine does_id ?_) | (with_reducible refine ops_id ?_)); refine walk ?_; (repeat' (first | exact trivial | with_reducible refine And.intro ?_ ?_)); all_goals (repeat (first | (with_reducible refine ImpB.mk fun hb => ?_) | (with_reducible refine ImpK.mk fun hK => ?_) | (with_reducible refine ImpF.mk fun hF => ?_) | (with_reducible refine ImpQ.mk fun hp => ?_) | (with_reducible refine AllE.mk fun p => ?_) | (with_reducible refine AllR.mk fun rest => ?_) | (with_reducible refine AllK.mk fun K => ?_))))); repeat' (with_reducible refine And.intro ?_ ?_))
    (focus (refine ⟨_, _, gh_close (t := 0) (ts := []) (l := AE) ⟨⟨_, _, rfl⟩, ?_, by simp⟩, [0], rfl, ?_⟩; all_goals (refine fitq ?_ ?_ ?_ <;> try exact trivial); (try any_goals (refine ⟨?_, ?_⟩)); (try any_goals (with_reducible rfl))))
    all_goals (repeat' (first | (refine And.intro ?_ ?_) | rfl))
  · refine w_body (rs := [.tmp 4]) (tm := [.ptr 0 0, .agg [.int .i64 a, .int .i64 c, .int .i64 t, .ro .byte d], .any, .any, .any, .any, .any, .any, .any, .any, .any, .any, .any, .any, .any, .any, .any, .any, .any, .any, .any, .any, .any, .any, .any, .any, .any, .any, .any, .any, .any, .any, .any, .any, .any, .any, .any, .any, .any, .any, .any, .any, .any, .any, .any, .any, .any, .any, .any, .any, .any, .any, .any, .any, .any, .any, .any, .any, .any, .any, .any, .any, .any, .any, .any, .any, .any, .any, .any, .any, .any, .any, .any, .any, .any, .any, .any, .any, .any, .any, .any, .any, .any, .any, .any, .any, .any, .any, .any, .any, .any, .any, .any, .any, .any, .any, .any, .any, .any, .any, .any, .any, .any, .any, .any, .any, .any, .any, .any, .any, .any, .any, .any, .any, .any, .any, .any, .any, .any, .any, .any, .any, .any, .any, .any, .any, .any, .any, .any, .any, .any, .any, .any, .any, .any, .any, .any, .any, .any, .any, .any, .any, .any, .any, .any, .any, .any, .any, .any]) fn_10 rfl rfl rfl rfl fun R hR => ?_
    refine w_openM (by omega) ?_
    have A := arc_open (ps := ps) (by omega)
    generalize AM ps = h at A ⊢
    have o := A.o
    have o1 : ∀ l, hth (h ++ l) 0 = .cells [.bool true, .csl 1 ps.length 2] := fun l => (A.app l).o
    have t2 := symH h
    (have zx1 := @hr; have zx2 := @o; have zx3 := @o1; have zx4 := @t2; all_goals (try ((first | (with_reducible refine wp_id ?_) | (with_reducible refine does_id ?_) | (with_reducible refine ops_id ?_)); refine walk ?_; (repeat' (first | exact trivial | with_reducible refine And.intro ?_ ?_)); all_goals (repeat (first | (with_reducible refine ImpB.mk fun hb => ?_) | (with_reducible refine ImpK.mk fun hK => ?_) | (with_reducible refine ImpF.mk fun hF => ?_) | (with_reducible refine ImpQ.mk fun hp => ?_) | (with_reducible refine AllE.mk fun p => ?_) | (with_reducible refine AllR.mk fun rest => ?_) | (with_reducible refine AllK.mk fun K => ?_))))); repeat' (with_reducible refine And.intro ?_ ?_))
    exact end_arc (A.app _) ⟨rfl, rfl⟩
theorem b_addMZ (i : Itm) (hr : rightB i = true) (hd : i.data.length ≤ 1099511627776) : DoesK Try.prog 1 10 [.ptr 0 0, .agg (itL i)] [.pack AE] (EndF 1 (.int .i64 0) ([.pack (AM [⟨i.apid, [newE i i.count]⟩])] ++ [])) := by
  refine DoesK.close ?_
  obtain ⟨a, c, t, d⟩ := i
  dsimp only at hd
  rw [show AM [⟨(⟨a, c, t, d⟩ : Itm).apid, [newE ⟨a, c, t, d⟩ (⟨a, c, t, d⟩ : Itm).count]⟩] = [.cells [.bool true, .csl 1 1 2], .crow [.int .i64 a, .sl 2 .ent 0 1], .rows .ent [⟨c, a, c, t, d⟩]] from rfl]
  refine w_body (rs := [.tmp 4]) (tm := [.ptr 0 0, .agg [.int .i64 a, .int .i64 c, .int .i64 t, .ro .byte d], .any, .any, .any, .any, .any, .any, .any, .any, .any, .any, .any, .any, .any, .any, .any, .any, .any, .any, .any, .any, .any, .any, .any, .any, .any, .any, .any, .any, .any, .any, .any, .any, .any, .any, .any, .any, .any, .any, .any, .any, .any, .any, .any, .any, .any, .any, .any, .any, .any, .any, .any, .any, .any, .any, .any, .any, .any, .any, .any, .any, .any, .any, .any, .any, .any, .any, .any, .any, .any, .any, .any, .any, .any, .any, .any, .any, .any, .any, .any, .any, .any, .any, .any, .any, .any, .any, .any, .any, .any, .any, .any, .any, .any, .any, .any, .any, .any, .any, .any, .any, .any, .any, .any, .any, .any, .any, .any, .any, .any, .any, .any, .any, .any, .any, .any, .any, .any, .any, .any, .any, .any, .any, .any, .any, .any, .any, .any, .any, .any, .any, .any, .any, .any, .any, .any, .any, .any, .any, .any, .any, .any, .any, .any, .any, .any, .any, .any]) fn_10 rfl rfl rfl rfl fun R hR => ?_
  unfold AE
  refine w_open 0 rfl rfl ?_
  simp only [go_sem, decide_true, decide_false, Int.reduceToNat, Nat.min_eq_left, Nat.min_eq_right, Int.reducePow, Nat.reducePow, Int.reduceLE, Int.reduceLT, Int.reduceMul, Int.reduceAdd, Int.reduceSub, Int.reduceNeg, Bool.not_true, Bool.not_false, Bool.not_not, ↓reduceIte, Nat.reduceAdd, Nat.reduceSub, Nat.reduceMul, Nat.reduceEqDiff, reduceCtorEq, Nat.reduceLT, Nat.reduceLeDiff, Nat.reduceGT]
  (have zx1 := @hr; all_goals (try ((first | (with_reducible refine wp_id ?_) | (with_reducible refine does_id ?_) | (with_reducible refine ops_id ?_)); refine walk ?_; (repeat' (first | exact trivial | with_reducible refine And.intro ?_ ?_)); all_goals (repeat (first | (with_reducible refine ImpB.mk fun hb => ?_) | (with_reducible refine ImpK.mk fun hK => ?_) | (with_reducible refine ImpF.mk fun hF => ?_) | (with_reducible refine ImpQ.mk fun hp => ?_) | (with_reducible refine AllE.mk fun p => ?_) | (with_reducible refine AllR.mk fun rest => ?_) | (with_reducible refine AllK.mk fun K => ?_))))); repeat' (with_reducible refine And.intro ?_ ?_))
  (focus (refine ⟨_, _, gh_close (t := 0) (ts := [4, 2]) (l := [.cells [.bool true, .csl 1 1 2], .crow [.int .i64 a, .sl 2 .ent 0 1], .rows .ent [⟨c, a, c, t, d⟩]]) ⟨⟨_, _, rfl⟩, ?_, by simp⟩, [0], rfl, ?_⟩; all_goals (refine fitq ?_ ?_ ?_ <;> try exact trivial); (try any_goals (refine ⟨?_, ?_⟩)); (try any_goals (with_reducible rfl))))
  all_goals (repeat' (first | (refine And.intro ?_ ?_) | rfl))
theorem getD_ins {α : Type} {l : List α} {x d : α} {i : Nat} (hi : i ≤ l.length) (j : Nat) : (l.take i ++ x :: l.drop i).getD j d = if j < i then l.getD j d else if j = i then x else l.getD (j - 1) d := by
  have hlt : (l.take i).length = i := by rw [List.length_take]; omega
  rw [List.getD_eq_getElem?_getD]
  by_cases c1 : j < i
  · rw [if_pos c1, List.getElem?_append_left (by omega), List.getElem?_take_of_lt c1, List.getD_eq_getElem?_getD]
  · rw [if_neg c1, List.getElem?_append_right (by omega), hlt]
    by_cases c2 : j = i
    · rw [if_pos c2, c2, Nat.sub_self]; rfl
    · rw [if_neg c2, show j - i = (j - i - 1) + 1 by omega, List.getElem?_cons_succ, List.getElem?_drop, show i + (j - i - 1) = j - 1 by omega, List.getD_eq_getElem?_getD]
theorem Arc.ins {h : List Ch} {ts : List Nat} {ps : List Prc} {i : Nat} {p' : Prc} {B C : Ch} (A : Arc h 1 ts ps) (hi : i ≤ ps.length) : Arc ((h.set 1 .gone).set 0 (.cells [.bool true, .csl (h.length + 3) (ps.length + 1) 2]) ++ [B, .rows .ent p'.list, C, .crow ((flatP ts ps).take (i * 2) ++ [.int .i64 p'.apid, .sl (h.length + 1) .ent 0 p'.list.length] ++ (flatP ts ps).drop (i * 2))]) (h.length + 3) (ts.take i ++ (h.length + 1) :: ts.drop i) (ps.take i ++ p' :: ps.drop i) := by
  have hln := A.lt
  have hh0 := hln 0 (by simp)
  have hl2 : ((h.set 1 .gone).set 0 (.cells [.bool true, .csl (h.length + 3) (ps.length + 1) 2])).length = h.length := by simp
  have hpl : (ps.take i ++ p' :: ps.drop i).length = ps.length + 1 := by simp; omega
  obtain ⟨h2, hh2⟩ : ∃ h2, (h.set 1 .gone).set 0 (.cells [.bool true, .csl (h.length + 3) (ps.length + 1) 2]) = h2 := ⟨_, rfl⟩
  have hr : ∀ t, t ≠ 0 → t ≠ 1 → hth h2 t = hth h t := fun t q0 q1 => by rw [← hh2, hth_set_ne (Ne.symm q0), hth_set_ne (Ne.symm q1)]
  have h0 : hth h2 0 = .cells [.bool true, .csl (h.length + 3) (ps.length + 1) 2] := by rw [← hh2]; exact hth_set_eq (by simpa using hh0)
  rw [hh2] at hl2 ⊢
  have hnd := A.nd
  have hnt : ∀ t ∈ ts, t ≠ 0 ∧ t ≠ 1 ∧ t < h.length := fun t ht => by
    obtain ⟨n1, n2⟩ := List.nodup_cons.1 hnd
    obtain ⟨n3, n4⟩ := List.nodup_cons.1 n2
    exact ⟨fun q => n1 (by rw [q] at ht; simp [ht]), fun q => n3 (by rw [q] at ht; exact ht), hln t (by simp [ht])⟩
  have hti : i ≤ ts.length := by rw [A.len]; exact hi
  refine ⟨by rw [hpl]; omega, ?_, ?_, ?_, fun j hj => ?_, ?_⟩
  · rw [hth_app (by omega), h0, hpl]
  · rw [← hl2, hth_app_r]
    show Ch.crow _ = _
    rw [hl2, flatP_ins A.len hi]
  · simp only [List.length_append, List.length_cons, List.length_take, List.length_drop, A.len]
  · rw [hpl] at hj
    rw [getD_ins hti, show pAt (ps.take i ++ p' :: ps.drop i) j = (ps.take i ++ p' :: ps.drop i).getD j Prc.zero from rfl, getD_ins hi]
    have old : ∀ k, k < ps.length → hth (h2 ++ [B, .rows .ent p'.list, C, .crow ((flatP ts ps).take (i * 2) ++ [.int .i64 p'.apid, .sl (h.length + 1) .ent 0 p'.list.length] ++ (flatP ts ps).drop (i * 2))]) (ts.getD k 0) = .rows .ent (pAt ps k).list := fun k hk => by
      have hk2 : k < ts.length := by rw [A.len]; exact hk
      have hm : ts.getD k 0 ∈ ts := by
        rw [List.getD_eq_getElem?_getD, List.getElem?_eq_getElem hk2]; exact List.getElem_mem hk2
      obtain ⟨q0, q1, q2⟩ := hnt _ hm
      rw [hth_app (by omega), hr _ q0 q1, A.rows k hk]
    by_cases c1 : j < i
    · rw [if_pos c1, if_pos c1]; exact old j (by omega)
    · rw [if_neg c1, if_neg c1]
      by_cases c2 : j = i
      · rw [if_pos c2, if_pos c2, ← hl2, hth_app_r]; rfl
      · rw [if_neg c2, if_neg c2]; exact old (j - 1) (by omega)
  · have hp : (ts.take i ++ (h.length + 1) :: ts.drop i).Perm ((h.length + 1) :: ts) := by
      have := List.perm_middle (a := h.length + 1) (l₁ := ts.take i) (l₂ := ts.drop i)
      rwa [List.take_append_drop] at this
    have hz : ∀ t ∈ ts.take i ++ (h.length + 1) :: ts.drop i, t ≠ 0 ∧ t ≠ h.length + 3 := fun t ht => by
      rcases List.mem_cons.1 (hp.mem_iff.1 ht) with q | q
      · omega
      · have := hnt t q; omega
    refine List.nodup_cons.2 ⟨fun q => ?_, List.nodup_cons.2 ⟨fun q => (hz _ q).2 rfl, ?_⟩⟩
    · rcases List.mem_cons.1 q with q | q
      · omega
      · exact (hz _ q).1 rfl
    · refine hp.nodup_iff.2 (List.nodup_cons.2 ⟨fun q => ?_, (List.nodup_cons.1 (List.nodup_cons.1 hnd).2).2⟩)
      have := hnt _ q; omega
theorem b_addMN (i : Itm) (ps : List Prc) (hpp : 0 < ps.length) (hm : ps.length ≤ 900000) (hr : rightB i = true) (e2 : isP ps i.apid = false) (hd : i.data.length ≤ 1099511627776) : DoesK Try.prog 1 10 [.ptr 0 0, .agg (itL i)] [.pack (AM ps)] (EndF 1 (.int .i64 0) ([.pack (AM (ps.take (findP ps i.apid) ++ ⟨i.apid, [newE i i.count]⟩ :: ps.drop (findP ps i.apid)))] ++ [])) := by
  refine DoesK.close ?_
  obtain ⟨a, c, t, d⟩ := i
  dsimp only at hd e2 ⊢
  refine w_body (rs := [.tmp 4]) (tm := [.ptr 0 0, .agg [.int .i64 a, .int .i64 c, .int .i64 t, .ro .byte d], .any, .any, .any, .any, .any, .any, .any, .any, .any, .any, .any, .any, .any, .any, .any, .any, .any, .any, .any, .any, .any, .any, .any, .any, .any, .any, .any, .any, .any, .any, .any, .any, .any, .any, .any, .any, .any, .any, .any, .any, .any, .any, .any, .any, .any, .any, .any, .any, .any, .any, .any, .any, .any, .any, .any, .any, .any, .any, .any, .any, .any, .any, .any, .any, .any, .any, .any, .any, .any, .any, .any, .any, .any, .any, .any, .any, .any, .any, .any, .any, .any, .any, .any, .any, .any, .any, .any, .any, .any, .any, .any, .any, .any, .any, .any, .any, .any, .any, .any, .any, .any, .any, .any, .any, .any, .any, .any, .any, .any, .any, .any, .any, .any, .any, .any, .any, .any, .any, .any, .any, .any, .any, .any, .any, .any, .any, .any, .any, .any, .any, .any, .any, .any, .any, .any, .any, .any, .any, .any, .any, .any, .any, .any, .any, .any, .any, .any]) fn_10 rfl rfl rfl rfl fun R hR => ?_
  refine w_openM hpp ?_
  have A := arc_open hpp
  generalize AM ps = h at A ⊢
  obtain ⟨ts, hts⟩ : ∃ ts, List.range' 2 ps.length = ts := ⟨_, rfl⟩
  rw [hts] at A
  have hln : ∀ t ∈ 0 :: 1 :: ts, t < h.length := A.lt
  have hh1 : 1 < h.length := hln 1 (by simp)
  have e1 : PL ts ps ps.length := ⟨A.len, rfl, Nat.le_trans hm (by decide)⟩
  have o : (hth h 0 = .cells [.bool true, .csl 1 ps.length 2] ∧ hth h 1 = .crow (flatP ts ps)) ∧ (∀ l, hth (h ++ l) 0 = .cells [.bool true, .csl 1 ps.length 2]) ∧ ∀ l, hth (h ++ l) 1 = .crow (flatP ts ps) := ⟨⟨A.o, A.o1⟩, fun l => (A.app l).o, fun l => (A.app l).o1⟩
  have t2 := symH h
  have hfl := flatP_len A.len
  have hfc := flatP_cells ts ps
  have hfp := findP_le ps a
  have hh0 : 0 < h.length := hln 0 (by simp)
  have t3 : ∀ l l', hth ((h ++ l).set 1 .gone ++ l') 0 = .cells [.bool true, .csl 1 ps.length 2] := fun l l' => by
    rw [hth_app (by simp; omega), hth_set_ne (by decide), hth_app hh0, A.o]
  have t4 : ∀ l l' c, ((h ++ l).set 1 .gone ++ l').set 0 c = (h.set 1 .gone).set 0 c ++ (l ++ l') := fun l l' c => by
    rw [List.set_append_left _ _ hh1, List.append_assoc, List.set_append_left _ _ (by simpa using hh0)]
  (have zx1 := @hr; have zx2 := @e2; have zx3 := @o; have zx4 := @t2; have zx5 := @hfl; have zx6 := @t3; all_goals (try ((first | (with_reducible refine wp_id ?_) | (with_reducible refine does_id ?_) | (with_reducible refine ops_id ?_)); refine walk ?_; (repeat' (first | exact trivial | with_reducible refine And.intro ?_ ?_)); all_goals (repeat (first | (with_reducible refine ImpB.mk fun hb => ?_) | (with_reducible refine ImpK.mk fun hK => ?_) | (with_reducible refine ImpF.mk fun hF => ?_) | (with_reducible refine ImpQ.mk fun hp => ?_) | (with_reducible refine AllE.mk fun p => ?_) | (with_reducible refine AllR.mk fun rest => ?_) | (with_reducible refine AllK.mk fun K => ?_))))); repeat' (with_reducible refine And.intro ?_ ?_))
  rw [t4]
  exact end_arc (r := .int .i64 0) (A.ins (p' := ⟨a, [newE ⟨a, c, t, d⟩ c]⟩) hfp) (show fitA [0] (.int .i64 0) (.int .i64 0) from ⟨rfl, rfl⟩)
end Go.V
