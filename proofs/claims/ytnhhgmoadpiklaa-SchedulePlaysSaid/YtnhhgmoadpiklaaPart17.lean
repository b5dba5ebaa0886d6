/-
  schedule: Delete, Enable, Clone, Entries.
  schedule: Shift.
  schedule: Due, Restore.
-/
import Derived.Test.YtnhhgmoadpiklaaPart16
set_option linter.unusedVariables false
set_option linter.unusedSimpArgs false
set_option maxRecDepth 100000
set_option maxHeartbeats 8000000
namespace Go.V
open Go.Proofs
theorem ixE_app {p : Ent → Bool} {x : Ent} {l2 : List Ent} (hx : p x = true) : ∀ {l1 : List Ent} {k : Nat}, (∀ y ∈ l1, p y = false) → ixE p (l1 ++ x :: l2) k = ((k + l1.length : Nat) : Int)
  | [], k, _ => by rw [List.nil_append, ixE, if_pos hx]; rfl
  | y :: l1, k, h => by
    rw [List.cons_append, ixE, h y (by simp)]
    simp only [Bool.false_eq_true, if_false]
    rw [ixE_app hx fun z hz => h z (by simp [hz]), List.length_cons]
    congr 1; omega
def delB (n : Int) (l : List Ent) : Bool := l.any (idB n)
def delE (n : Int) (l : List Ent) : Int := if delB n l then 0 else 8
def delL (n : Int) (l : List Ent) : List Ent := l.filter fun x => !idB n x
theorem idB_eq (n : Int) (x : Ent) : idB n x = true ↔ x.id = n := by unfold idB; simp
theorem first_at {p : Ent → Bool} : ∀ {l : List Ent}, l.any p = true → ∃ l1 x l2, l = l1 ++ x :: l2 ∧ p x = true ∧ ∀ y ∈ l1, p y = false
  | [], h => by simp at h
  | y :: l, h => by
    cases hp : p y
    · obtain ⟨l1, x, l2, e, h1, h2⟩ := first_at (l := l) (by simpa [hp] using h)
      refine ⟨y :: l1, x, l2, by rw [e]; rfl, h1, ?_⟩
      intro z hz
      rcases List.mem_cons.1 hz with rfl | hz
      · exact hp
      · exact h2 z hz
    · exact ⟨[], y, l, rfl, hp, by simp⟩
theorem del_split {n : Int} {l1 l2 : List Ent} {x : Ent} (hx : idB n x = true) (h1 : ∀ y ∈ l1, idB n y = false) (hn : ((l1 ++ x :: l2).map (·.id)).Nodup) : delL n (l1 ++ x :: l2) = l1 ++ l2 := by
  unfold delL
  rw [List.filter_append, List.filter_cons, hx]
  simp only [Bool.not_true, Bool.false_eq_true, if_false]
  have ha : l1.filter (fun x => !idB n x) = l1 := List.filter_eq_self.2 fun y hy => by rw [h1 y hy]; rfl
  have hb : l2.filter (fun x => !idB n x) = l2 := List.filter_eq_self.2 fun y hy => by
    cases hc : idB n y
    · rfl
    · exfalso
      have e : y.id = x.id := by rw [(idB_eq n y).1 hc, (idB_eq n x).1 hx]
      rw [List.map_append, List.map_cons, List.nodup_append] at hn
      have := (List.nodup_cons.1 hn.2.1).1
      exact this (List.mem_map.2 ⟨y, hy, e⟩)
  rw [ha, hb]
theorem b_sdelete (most now next : Int) (o : List Bool) (l : List Ent) (n : Int) (hl : l.length ≤ 1000000) (hn : (l.map (·.id)).Nodup) : DoesK Try.prog 1 19 [.ptr 0 0, .int .i64 n] [.pack (ScO most now next o l)]
    (EndF 1 (.int .i64 (delE n l)) ([.pack (ScO most now next o (delL n l))] ++ [])) := by
  refine DoesK.close ?_
  cases hb : delB n l
  · have h0 : ∀ x ∈ l, idB n x = false := by simpa [delB] using hb
    have e1 : delE n l = 8 := by unfold delE; rw [hb]; rfl
    have e2 : delL n l = l := List.filter_eq_self.2 fun y hy => by rw [h0 y hy]; rfl
    have e3 : ixE (idB n) l 0 = -1 := ixE_none h0
    rw [e1, e2]
    refine w_body (rs := [.tmp 4]) (tm := [.ptr 0 0, .int .i64 n, .any, .any, .any, .any, .any, .any, .any, .any, .any, .any, .any, .any, .any, .any, .any, .any, .any, .any, .any, .any, .any, .any, .any, .any, .any, .any]) fn_19 rfl rfl rfl rfl fun R hR => ?_
    (have zx1 := @e3; all_goals (try ((first | (with_reducible refine wp_id ?_) | (with_reducible refine does_id ?_) | (with_reducible refine ops_id ?_)); refine walk ?_; (repeat' (first | exact trivial | with_reducible refine And.intro ?_ ?_)); all_goals (repeat (first | (with_reducible refine ImpB.mk fun hb => ?_) | (with_reducible refine ImpK.mk fun hK => ?_) | (with_reducible refine ImpF.mk fun hF => ?_) | (with_reducible refine ImpQ.mk fun hp => ?_) | (with_reducible refine AllE.mk fun p => ?_) | (with_reducible refine AllR.mk fun rest => ?_) | (with_reducible refine AllK.mk fun K => ?_))))); repeat' (with_reducible refine And.intro ?_ ?_))
    (all_goals first | exact Int.natCast_nonneg _ | exact Int.ofNat_lt.2 (by assumption) | assumption | omega | exact Nat.le_refl _ | (exfalso; simp at hb; done) | (simp only [go_sem, decide_true, decide_false, Int.reduceToNat, Nat.min_eq_left, Nat.min_eq_right, Int.reducePow, Nat.reducePow, Int.reduceLE, Int.reduceLT, Int.reduceMul, Int.reduceAdd, Int.reduceSub, Int.reduceNeg, Bool.not_true, Bool.not_false, Bool.not_not, ↓reduceIte, Nat.reduceAdd, Nat.reduceSub, Nat.reduceMul, Nat.reduceEqDiff, reduceCtorEq, Nat.reduceLT, Nat.reduceLeDiff, Nat.reduceGT]; done) | (unfold capM; omega) | (simp only [List.length_drop, List.length_take, List.length_append, List.length_cons, List.length_nil]; omega) | skip)
    all_goals first | omega | skip
    (focus (refine ⟨_, _, gh_close (t := 0) (ts := [2]) (l := ScO most now next o l) ⟨⟨_, _, rfl⟩, ?_, by simp⟩, [0], rfl, ?_⟩; all_goals (refine ⟨?_, ?_, ?_⟩ <;> simp only [go_sem, List.range, List.range.loop, List.nodup_cons, List.nodup_nil, List.mem_cons, List.not_mem_nil, or_false, or_self, decide_true, decide_false, Int.reduceToNat, Nat.min_eq_left, Nat.min_eq_right, Int.reducePow, Nat.reducePow, Int.reduceLE, Int.reduceLT, Int.reduceMul, Int.reduceAdd, Int.reduceSub, Int.reduceNeg, Bool.not_true, Bool.not_false, Bool.not_not, ↓reduceIte, Nat.reduceAdd, Nat.reduceSub, Nat.reduceMul, Nat.reduceEqDiff, reduceCtorEq, Nat.reduceLT, Nat.reduceLeDiff, Nat.reduceGT]); (try any_goals (refine ⟨?_, ?_⟩)); (try any_goals (with_reducible rfl))))
  · obtain ⟨l1, x, l2, hL, hx, h1⟩ := first_at hb
    have e1 : delE n l = 0 := by unfold delE; rw [hb]; rfl
    have e2 : delL n l = l1 ++ l2 := by rw [hL]; exact del_split hx h1 (hL ▸ hn)
    have e3 : ixE (idB n) l 0 = (l1.length : Int) := by rw [hL, ixE_app hx h1, Nat.zero_add]
    have e4 : decide ((l1.length : Int) < 0) = false := decide_eq_false (by omega)
    have hLl : l.length = l1.length + l2.length + 1 := by rw [hL]; simp; omega
    have e5 : IntKind.i64.wrap ((l1.length : Int) + 1) = ((l1.length + 1 : Nat) : Int) := wrap_i64 _ (by omega) (by omega)
    have e6 : List.take l1.length l ++ List.drop (l1.length + 1) l = l1 ++ l2 := by rw [hL]; simp
    rw [e1, e2]
    refine w_body (rs := [.tmp 4]) (tm := [.ptr 0 0, .int .i64 n, .any, .any, .any, .any, .any, .any, .any, .any, .any, .any, .any, .any, .any, .any, .any, .any, .any, .any, .any, .any, .any, .any, .any, .any, .any, .any]) fn_19 rfl rfl rfl rfl fun R hR => ?_
    (have zx1 := @e3; have zx2 := @e4; have zx3 := @e5; have zx4 := @e6; all_goals (try ((first | (with_reducible refine wp_id ?_) | (with_reducible refine does_id ?_) | (with_reducible refine ops_id ?_)); refine walk ?_; (repeat' (first | exact trivial | with_reducible refine And.intro ?_ ?_)); all_goals (repeat (first | (with_reducible refine ImpB.mk fun hb => ?_) | (with_reducible refine ImpK.mk fun hK => ?_) | (with_reducible refine ImpF.mk fun hF => ?_) | (with_reducible refine ImpQ.mk fun hp => ?_) | (with_reducible refine AllE.mk fun p => ?_) | (with_reducible refine AllR.mk fun rest => ?_) | (with_reducible refine AllK.mk fun K => ?_))))); repeat' (with_reducible refine And.intro ?_ ?_))
    (all_goals first | exact Int.natCast_nonneg _ | exact Int.ofNat_lt.2 (by assumption) | assumption | omega | exact Nat.le_refl _ | (exfalso; simp at hb; done) | (simp only [go_sem, decide_true, decide_false, Int.reduceToNat, Nat.min_eq_left, Nat.min_eq_right, Int.reducePow, Nat.reducePow, Int.reduceLE, Int.reduceLT, Int.reduceMul, Int.reduceAdd, Int.reduceSub, Int.reduceNeg, Bool.not_true, Bool.not_false, Bool.not_not, ↓reduceIte, Nat.reduceAdd, Nat.reduceSub, Nat.reduceMul, Nat.reduceEqDiff, reduceCtorEq, Nat.reduceLT, Nat.reduceLeDiff, Nat.reduceGT]; done) | (unfold capM; omega) | (simp only [List.length_drop, List.length_take, List.length_append, List.length_cons, List.length_nil]; omega) | skip)
    (focus (refine ⟨_, _, gh_close (t := 0) (ts := [2]) (l := ScO most now next o (l1 ++ l2)) ⟨⟨_, _, rfl⟩, ?_, by simp⟩, [0], rfl, ?_⟩; all_goals (refine ⟨?_, ?_, ?_⟩ <;> simp only [go_sem, List.range, List.range.loop, List.nodup_cons, List.nodup_nil, List.mem_cons, List.not_mem_nil, or_false, or_self, decide_true, decide_false, Int.reduceToNat, Nat.min_eq_left, Nat.min_eq_right, Int.reducePow, Nat.reducePow, Int.reduceLE, Int.reduceLT, Int.reduceMul, Int.reduceAdd, Int.reduceSub, Int.reduceNeg, Bool.not_true, Bool.not_false, Bool.not_not, ↓reduceIte, Nat.reduceAdd, Nat.reduceSub, Nat.reduceMul, Nat.reduceEqDiff, reduceCtorEq, Nat.reduceLT, Nat.reduceLeDiff, Nat.reduceGT]); (try any_goals (refine ⟨?_, ?_⟩)); (try any_goals (with_reducible rfl))))
theorem c_sdelete {h : List Ch} {K : KT} {u : Nat} {most now next : Int} {o : List Bool} {l : List Ent} {n : Int} (H : K (.int .i64 (delE n l)) (h.set u (.pack (ScO most now next o (delL n l))))) (o1 : hth h u = .pack (ScO most now next o l)) (s1 : l.length ≤ 1000000) (s2 : (l.map (·.id)).Nodup) : Does Try.prog 19 [.ptr u 0, .int .i64 n] h K :=
  frame_obj0 (b_sdelete most now next o l n s1 s2) o1 (by simp) (fitC_pack _) (br_cons (br_ptr rfl) (br_cons br_int br_nil)) (.inl rfl) (fun _ => rfl) rfl H
/-! ### Enable -/
abbrev i_sdelete := Ctr.mk (i := 0) (g := 19) @c_sdelete
attribute [instance] i_sdelete
def enaE (g : Int) : Int := if 0 ≤ g ∧ g < 16 then 0 else 1
def enaO (o : List Bool) (g : Int) (b : Bool) : List Bool := if 0 ≤ g ∧ g < 16 then o.set g.toNat (!b) else o
theorem scC_set {most now next : Int} {o : List Bool} {g n k : Nat} {b : Bool} (hk : k < 16) (ho : o.length = 16) : (scC most now next o g n).set (4 + k) (.bool b) = scC most now next (o.set k b) g n := by
  obtain ⟨o0, o1, o2, o3, o4, o5, o6, o7, o8, o9, oa, ob, oc, od, oe, of, rfl⟩ : ∃ o0 o1 o2 o3 o4 o5 o6 o7 o8 o9 oa ob oc od oe of, o = [o0, o1, o2, o3, o4, o5, o6, o7, o8, o9, oa, ob, oc, od, oe, of] := by
    match o, ho with
    | [o0, o1, o2, o3, o4, o5, o6, o7, o8, o9, oa, ob, oc, od, oe, of], _ => exact ⟨_, _, _, _, _, _, _, _, _, _, _, _, _, _, _, _, rfl⟩
  obtain rfl | rfl | rfl | rfl | rfl | rfl | rfl | rfl | rfl | rfl | rfl | rfl | rfl | rfl | rfl | rfl : k = 0 ∨ k = 1 ∨ k = 2 ∨ k = 3 ∨ k = 4 ∨ k = 5 ∨ k = 6 ∨ k = 7 ∨ k = 8 ∨ k = 9 ∨ k = 10 ∨ k = 11 ∨ k = 12 ∨ k = 13 ∨ k = 14 ∨ k = 15 := by omega
  all_goals rfl
theorem scC_get {most now next : Int} {o : List Bool} {g n k : Nat} (hk : k < 16) : nthA (scC most now next o g n) (4 + k) = .bool (o.getD k false) := by
  obtain rfl | rfl | rfl | rfl | rfl | rfl | rfl | rfl | rfl | rfl | rfl | rfl | rfl | rfl | rfl | rfl : k = 0 ∨ k = 1 ∨ k = 2 ∨ k = 3 ∨ k = 4 ∨ k = 5 ∨ k = 6 ∨ k = 7 ∨ k = 8 ∨ k = 9 ∨ k = 10 ∨ k = 11 ∨ k = 12 ∨ k = 13 ∨ k = 14 ∨ k = 15 := by omega
  all_goals rfl
theorem b_sena (most now next : Int) (o : List Bool) (l : List Ent) (g : Int) (b : Bool) (ho : o.length = 16) : DoesK Try.prog 1 21 [.ptr 0 0, .int .i64 g, .bool b] [.pack (ScO most now next o l)]
    (EndF 1 (.int .i64 (enaE g)) ([.pack (ScO most now next (enaO o g b) l)] ++ [])) := by
  refine DoesK.close ?_
  by_cases c1 : 0 ≤ g ∧ g < 16
  · have d1 : (decide (0 ≤ g) && decide (g < 16)) = true := by rw [decide_eq_true c1.1, decide_eq_true c1.2]; rfl
    have e1 : enaE g = 0 := if_pos c1
    have e2 : enaO o g b = o.set g.toNat (!b) := if_pos c1
    obtain ⟨k, hk, rfl⟩ : ∃ k : Nat, k < 16 ∧ g = (k : Int) := ⟨g.toNat, by omega, by omega⟩
    rw [e1, e2, Int.toNat_natCast]
    have hst := scC_set (most := most) (now := now) (next := next) (o := o) (g := 1) (n := l.length) (k := k) (b := !b) hk ho
    refine w_body (rs := [.tmp 6]) (tm := [.ptr 0 0, .int .i64 (k : Int), .bool b, .any, .any, .any, .any, .any, .any, .any, .any, .any, .any, .any, .any, .any, .any, .any, .any, .any, .any, .any]) fn_21 rfl rfl rfl rfl fun R hR => ?_
    simp only [scC] at hst
    (have zx1 := @d1; all_goals (try ((first | (with_reducible refine wp_id ?_) | (with_reducible refine does_id ?_) | (with_reducible refine ops_id ?_)); refine walk ?_; (repeat' (first | exact trivial | with_reducible refine And.intro ?_ ?_)); all_goals (repeat (first | (with_reducible refine ImpB.mk fun hb => ?_) | (with_reducible refine ImpK.mk fun hK => ?_) | (with_reducible refine ImpF.mk fun hF => ?_) | (with_reducible refine ImpQ.mk fun hp => ?_) | (with_reducible refine AllE.mk fun p => ?_) | (with_reducible refine AllR.mk fun rest => ?_) | (with_reducible refine AllK.mk fun K => ?_))))); repeat' (with_reducible refine And.intro ?_ ?_))
    · exact Int.natCast_nonneg _
    · exact_mod_cast hk
    · omega
    · rw [hst]
      (focus (refine ⟨_, _, gh_close (t := 0) (ts := [1]) (l := ScO most now next (o.set k (!b)) l) ⟨⟨_, _, rfl⟩, ?_, by simp⟩, [0], rfl, ?_⟩; all_goals (refine ⟨?_, ?_, ?_⟩ <;> simp only [go_sem, List.range, List.range.loop, List.nodup_cons, List.nodup_nil, List.mem_cons, List.not_mem_nil, or_false, or_self, decide_true, decide_false, Int.reduceToNat, Nat.min_eq_left, Nat.min_eq_right, Int.reducePow, Nat.reducePow, Int.reduceLE, Int.reduceLT, Int.reduceMul, Int.reduceAdd, Int.reduceSub, Int.reduceNeg, Bool.not_true, Bool.not_false, Bool.not_not, ↓reduceIte, Nat.reduceAdd, Nat.reduceSub, Nat.reduceMul, Nat.reduceEqDiff, reduceCtorEq, Nat.reduceLT, Nat.reduceLeDiff, Nat.reduceGT]); (try any_goals (refine ⟨?_, ?_⟩)); (try any_goals (with_reducible rfl))))
  · have d1 : (decide (0 ≤ g) && decide (g < 16)) = false := by
      rw [Bool.eq_false_iff]; intro q; simp at q; exact c1 q
    have e1 : enaE g = 1 := if_neg c1
    have e2 : enaO o g b = o := if_neg c1
    rw [e1, e2]
    refine w_body (rs := [.tmp 6]) (tm := [.ptr 0 0, .int .i64 g, .bool b, .any, .any, .any, .any, .any, .any, .any, .any, .any, .any, .any, .any, .any, .any, .any, .any, .any, .any, .any]) fn_21 rfl rfl rfl rfl fun R hR => ?_
    (have zx1 := @d1; all_goals (try ((first | (with_reducible refine wp_id ?_) | (with_reducible refine does_id ?_) | (with_reducible refine ops_id ?_)); refine walk ?_; (repeat' (first | exact trivial | with_reducible refine And.intro ?_ ?_)); all_goals (repeat (first | (with_reducible refine ImpB.mk fun hb => ?_) | (with_reducible refine ImpK.mk fun hK => ?_) | (with_reducible refine ImpF.mk fun hF => ?_) | (with_reducible refine ImpQ.mk fun hp => ?_) | (with_reducible refine AllE.mk fun p => ?_) | (with_reducible refine AllR.mk fun rest => ?_) | (with_reducible refine AllK.mk fun K => ?_))))); repeat' (with_reducible refine And.intro ?_ ?_))
    (focus (refine ⟨_, _, Gh.refl, [0], rfl, ?_⟩; (refine ⟨?_, ?_, ?_⟩ <;> simp only [go_sem, List.range, List.range.loop, List.nodup_cons, List.nodup_nil, List.mem_cons, List.not_mem_nil, or_false, or_self, decide_true, decide_false, Int.reduceToNat, Nat.min_eq_left, Nat.min_eq_right, Int.reducePow, Nat.reducePow, Int.reduceLE, Int.reduceLT, Int.reduceMul, Int.reduceAdd, Int.reduceSub, Int.reduceNeg, Bool.not_true, Bool.not_false, Bool.not_not, ↓reduceIte, Nat.reduceAdd, Nat.reduceSub, Nat.reduceMul, Nat.reduceEqDiff, reduceCtorEq, Nat.reduceLT, Nat.reduceLeDiff, Nat.reduceGT]); (try any_goals (refine ⟨?_, ?_⟩)); (try any_goals (with_reducible rfl))))
theorem c_sena {h : List Ch} {K : KT} {u : Nat} {most now next : Int} {o : List Bool} {l : List Ent} {g : Int} {b : Bool} (H : K (.int .i64 (enaE g)) (h.set u (.pack (ScO most now next (enaO o g b) l)))) (o1 : hth h u = .pack (ScO most now next o l)) (s1 : o.length = 16) : Does Try.prog 21 [.ptr u 0, .int .i64 g, .bool b] h K :=
  frame_obj0 (b_sena most now next o l g b s1) o1 (by simp) (fitC_pack _) (br_cons (br_ptr rfl) (br_cons br_int (br_cons br_bool br_nil))) (.inl rfl) (fun _ => rfl) rfl H
/-! ### Clone, Entries -/
abbrev i_sena := Ctr.mk (i := 0) (g := 21) @c_sena
attribute [instance] i_sena
theorem b_sclo (most now next : Int) (o : List Bool) (l : List Ent) (hl : l.length ≤ 1000000) : DoesK Try.prog 1 22 [.ptr 0 0] [.pack (ScO most now next o l)]
    (EndF 1 (.ptr 1 0) ([.pack (ScO most now next o l)] ++ [.pack (ScO most now next o l)])) := by
  refine DoesK.close ?_
  refine w_body (rs := [.tmp 2]) (tm := [.ptr 0 0, .any, .any, .any, .any, .any, .any, .any, .any, .any, .any, .any, .any, .any, .any, .any]) fn_22 rfl rfl rfl rfl fun R hR => ?_
  (all_goals (try ((first | (with_reducible refine wp_id ?_) | (with_reducible refine does_id ?_) | (with_reducible refine ops_id ?_)); refine walk ?_; (repeat' (first | exact trivial | with_reducible refine And.intro ?_ ?_)); all_goals (repeat (first | (with_reducible refine ImpB.mk fun hb => ?_) | (with_reducible refine ImpK.mk fun hK => ?_) | (with_reducible refine ImpF.mk fun hF => ?_) | (with_reducible refine ImpQ.mk fun hp => ?_) | (with_reducible refine AllE.mk fun p => ?_) | (with_reducible refine AllR.mk fun rest => ?_) | (with_reducible refine AllK.mk fun K => ?_))))); repeat' (with_reducible refine And.intro ?_ ?_))
  (all_goals first | exact Int.natCast_nonneg _ | exact Int.ofNat_lt.2 (by assumption) | assumption | omega | exact Nat.le_refl _ | (exfalso; simp at hb; done) | (simp only [go_sem, decide_true, decide_false, Int.reduceToNat, Nat.min_eq_left, Nat.min_eq_right, Int.reducePow, Nat.reducePow, Int.reduceLE, Int.reduceLT, Int.reduceMul, Int.reduceAdd, Int.reduceSub, Int.reduceNeg, Bool.not_true, Bool.not_false, Bool.not_not, ↓reduceIte, Nat.reduceAdd, Nat.reduceSub, Nat.reduceMul, Nat.reduceEqDiff, reduceCtorEq, Nat.reduceLT, Nat.reduceLeDiff, Nat.reduceGT]; done) | (unfold capM; omega) | (simp only [List.length_drop, List.length_take, List.length_append, List.length_cons, List.length_nil]; omega) | skip)
  refine ⟨_, _, Gh.trans (gh_close (t := 0) (ts := [1]) (l := ScO most now next o l) ⟨⟨_, _, rfl⟩, ?fc, by simp⟩) (gh_close (t := 2) (ts := [3]) (l := ScO most now next o l) ⟨⟨_, _, rfl⟩, ?fd, by simp⟩), [0, 2], rfl, ?ft⟩
  case' fc => (refine ⟨?_, ?_, ?_⟩ <;> simp only [go_sem, List.range, List.range.loop, List.nodup_cons, List.nodup_nil, List.mem_cons, List.not_mem_nil, or_false, or_self, decide_true, decide_false, Int.reduceToNat, Nat.min_eq_left, Nat.min_eq_right, Int.reducePow, Nat.reducePow, Int.reduceLE, Int.reduceLT, Int.reduceMul, Int.reduceAdd, Int.reduceSub, Int.reduceNeg, Bool.not_true, Bool.not_false, Bool.not_not, ↓reduceIte, Nat.reduceAdd, Nat.reduceSub, Nat.reduceMul, Nat.reduceEqDiff, reduceCtorEq, Nat.reduceLT, Nat.reduceLeDiff, Nat.reduceGT])
  case' fd => (refine ⟨?_, ?_, ?_⟩ <;> simp only [go_sem, List.range, List.range.loop, List.nodup_cons, List.nodup_nil, List.mem_cons, List.not_mem_nil, or_false, or_self, decide_true, decide_false, Int.reduceToNat, Nat.min_eq_left, Nat.min_eq_right, Int.reducePow, Nat.reducePow, Int.reduceLE, Int.reduceLT, Int.reduceMul, Int.reduceAdd, Int.reduceSub, Int.reduceNeg, Bool.not_true, Bool.not_false, Bool.not_not, ↓reduceIte, Nat.reduceAdd, Nat.reduceSub, Nat.reduceMul, Nat.reduceEqDiff, reduceCtorEq, Nat.reduceLT, Nat.reduceLeDiff, Nat.reduceGT])
  case' ft => (refine ⟨?_, ?_, ?_⟩ <;> simp only [go_sem, List.range, List.range.loop, List.nodup_cons, List.nodup_nil, List.mem_cons, List.not_mem_nil, or_false, or_self, decide_true, decide_false, Int.reduceToNat, Nat.min_eq_left, Nat.min_eq_right, Int.reducePow, Nat.reducePow, Int.reduceLE, Int.reduceLT, Int.reduceMul, Int.reduceAdd, Int.reduceSub, Int.reduceNeg, Bool.not_true, Bool.not_false, Bool.not_not, ↓reduceIte, Nat.reduceAdd, Nat.reduceSub, Nat.reduceMul, Nat.reduceEqDiff, reduceCtorEq, Nat.reduceLT, Nat.reduceLeDiff, Nat.reduceGT])
  all_goals first | rfl | (simp; done) | decide
theorem c_sclo {h : List Ch} {K : KT} {u : Nat} {most now next : Int} {o : List Bool} {l : List Ent} (H : K (.ptr h.length 0) (h ++ [.pack (ScO most now next o l)])) (o1 : hth h u = .pack (ScO most now next o l)) (s1 : l.length ≤ 1000000) : Does Try.prog 22 [.ptr u 0] h K :=
  frame_obj (ret' := .ptr h.length 0) (b_sclo most now next o l s1) o1 (by simp) (fitC_pack _) (br_cons (br_ptr rfl) br_nil) (.inl rfl) (fun _ => rfl) (fun _ => rfl) (by simp [renA, rhoC]) (by rw [set_hth o1 (by simp)]; exact H)
abbrev i_sclo := Ctr.mk (i := 0) (g := 22) @c_sclo
attribute [instance] i_sclo
abbrev smallE (l : List Ent) : Prop := ∀ x ∈ l, x.c.args.length ≤ 1099511627776 ∧ x.c.data.length ≤ 1099511627776
theorem take_ent {l : List Ent} {k : Nat} (hk : k < l.length) : l.take (k + 1) = l.take k ++ [eAt l k] := by
  rw [List.take_succ_eq_append_getElem hk, eAt_eq hk]
theorem smallE_at {l : List Ent} (h : smallE l) {k : Nat} (hk : k < l.length) : (eAt l k).c.args.length ≤ 1099511627776 ∧ (eAt l k).c.data.length ≤ 1099511627776 := by
  rw [eAt_eq hk]; exact h _ (List.getElem_mem hk)
theorem b_sents (most now next : Int) (o : List Bool) (l : List Ent) (hl : l.length ≤ 1000000) (hs : smallE l) : DoesK Try.prog 1 16 [.ptr 0 0] [.pack (ScO most now next o l)]
    (EndF 1 (.sl 1 .ent 0 l.length) ([.pack (ScO most now next o l)] ++ [.rows .ent l])) := by
  refine DoesK.close ?_
  refine w_body (rs := [.tmp 2]) (tm := [.ptr 0 0, .any, .any, .any, .any, .any, .any, .any, .any, .any, .any, .any, .any, .any, .any, .any, .any, .any, .any, .any, .any, .any, .any, .any, .any, .any, .any, .any]) fn_16 rfl rfl rfl rfl fun R hR => ?_
  (all_goals (try ((first | (with_reducible refine wp_id ?_) | (with_reducible refine does_id ?_) | (with_reducible refine ops_id ?_)); refine walk ?_; (repeat' (first | exact trivial | with_reducible refine And.intro ?_ ?_)); all_goals (repeat (first | (with_reducible refine ImpB.mk fun hb => ?_) | (with_reducible refine ImpK.mk fun hK => ?_) | (with_reducible refine ImpF.mk fun hF => ?_) | (with_reducible refine ImpQ.mk fun hp => ?_) | (with_reducible refine AllE.mk fun p => ?_) | (with_reducible refine AllR.mk fun rest => ?_) | (with_reducible refine AllK.mk fun K => ?_))))); repeat' (with_reducible refine And.intro ?_ ?_))
  (all_goals first | exact Int.natCast_nonneg _ | exact Int.ofNat_lt.2 (by assumption) | assumption | omega | exact Nat.le_refl _ | (exfalso; simp at hb; done) | (simp only [go_sem, decide_true, decide_false, Int.reduceToNat, Nat.min_eq_left, Nat.min_eq_right, Int.reducePow, Nat.reducePow, Int.reduceLE, Int.reduceLT, Int.reduceMul, Int.reduceAdd, Int.reduceSub, Int.reduceNeg, Bool.not_true, Bool.not_false, Bool.not_not, ↓reduceIte, Nat.reduceAdd, Nat.reduceSub, Nat.reduceMul, Nat.reduceEqDiff, reduceCtorEq, Nat.reduceLT, Nat.reduceLeDiff, Nat.reduceGT]; done) | (unfold capM; omega) | (simp only [List.length_drop, List.length_take, List.length_append, List.length_cons, List.length_nil]; omega) | skip)
  refine Wp.ghost (gh_adopt (s := 3) .ent trivial) ?_
  any_goals ((try (refine w_seq fun K hK => ?_)); (try (refine w_block ?_)); refine w_loop (A := Nat × List Ent) (fun p => p.2 = l.take p.1 ∧ p.1 ≤ l.length) (fun p => l.length - p.1) (fun p => [(14, .int .i64 p.1), (3, .sl 2 .ent 0 p.2.length)]) (fun p => [(0, .cells (scC most now next o 1 l.length)), (1, .rows .ent l), (2, .rows .ent p.2)]) ((0, [])) (ws := ?ws1) (tk := ?tk1) ?hw1 ?ht1 ?hi ?h0 ?LH1; (case hw1 => simp only [go_sem, decide_true, decide_false, Int.reduceToNat, Nat.min_eq_left, Nat.min_eq_right, Int.reducePow, Nat.reducePow, Int.reduceLE, Int.reduceLT, Int.reduceMul, Int.reduceAdd, Int.reduceSub, Int.reduceNeg, Bool.not_true, Bool.not_false, Bool.not_not, ↓reduceIte, Nat.reduceAdd, Nat.reduceSub, Nat.reduceMul, Nat.reduceEqDiff, reduceCtorEq, Nat.reduceLT, Nat.reduceLeDiff, Nat.reduceGT]; exact rfl); (case ht1 => simp only [go_sem, decide_true, decide_false, Int.reduceToNat, Nat.min_eq_left, Nat.min_eq_right, Int.reducePow, Nat.reducePow, Int.reduceLE, Int.reduceLT, Int.reduceMul, Int.reduceAdd, Int.reduceSub, Int.reduceNeg, Bool.not_true, Bool.not_false, Bool.not_not, ↓reduceIte, Nat.reduceAdd, Nat.reduceSub, Nat.reduceMul, Nat.reduceEqDiff, reduceCtorEq, Nat.reduceLT, Nat.reduceLeDiff, Nat.reduceGT]; exact rfl); (case' LH1 => rintro ⟨k, acc⟩ E t hx hE ht; simp only [go_sem] at ht; subst ht; simp only [go_sem]; try dsimp only at hx))
  case LH1 =>
    obtain ⟨ha, hk⟩ := hx
    have hal : acc.length = k := by rw [ha, List.length_take]; omega
    by_cases c1 : k < l.length
    · have d1 : decide ((k : Int) < (l.length : Int)) = true := decide_eq_true (by omega)
      have hsm := smallE_at hs c1
      have hst := take_ent c1
      have hw : IntKind.i64.wrap ((k : Int) + 1) = ((k + 1 : Nat) : Int) := wrap_i64 _ (by omega) (by omega)
      (have zx1 := @d1; have zx2 := @hw; all_goals (try ((first | (with_reducible refine wp_id ?_) | (with_reducible refine does_id ?_) | (with_reducible refine ops_id ?_)); refine walk ?_; (repeat' (first | exact trivial | with_reducible refine And.intro ?_ ?_)); all_goals (repeat (first | (with_reducible refine ImpB.mk fun hb => ?_) | (with_reducible refine ImpK.mk fun hK => ?_) | (with_reducible refine ImpF.mk fun hF => ?_) | (with_reducible refine ImpQ.mk fun hp => ?_) | (with_reducible refine AllE.mk fun p => ?_) | (with_reducible refine AllR.mk fun rest => ?_) | (with_reducible refine AllK.mk fun K => ?_))))); repeat' (with_reducible refine And.intro ?_ ?_))
      · exact Int.natCast_nonneg _
      · exact_mod_cast c1
      · exact c1
      · omega
      · omega
      · refine ⟨(k + 1, acc ++ [eAt l k]), ⟨⟨by rw [hst, ← ha], c1⟩, by dsimp only; omega⟩, ?_⟩
        (focus (refine ⟨_, _, Gh.refl, [0, 1, 5], rfl, ?_⟩; (refine ⟨?_, ?_, ?_⟩ <;> simp only [go_sem, List.range, List.range.loop, List.nodup_cons, List.nodup_nil, List.mem_cons, List.not_mem_nil, or_false, or_self, decide_true, decide_false, Int.reduceToNat, Nat.min_eq_left, Nat.min_eq_right, Int.reducePow, Nat.reducePow, Int.reduceLE, Int.reduceLT, Int.reduceMul, Int.reduceAdd, Int.reduceSub, Int.reduceNeg, Bool.not_true, Bool.not_false, Bool.not_not, ↓reduceIte, Nat.reduceAdd, Nat.reduceSub, Nat.reduceMul, Nat.reduceEqDiff, reduceCtorEq, Nat.reduceLT, Nat.reduceLeDiff, Nat.reduceGT]); (try any_goals (refine ⟨?_, ?_⟩)); (try any_goals (with_reducible rfl))))
      · exact hsm.1
      · exact hsm.2
    · have d1 : decide ((k : Int) < (l.length : Int)) = false := decide_eq_false (by omega)
      have hacc : acc = l := by rw [ha]; exact List.take_of_length_le (by omega)
      subst hacc
      (have zx1 := @d1; all_goals (try ((first | (with_reducible refine wp_id ?_) | (with_reducible refine does_id ?_) | (with_reducible refine ops_id ?_)); refine walk ?_; (repeat' (first | exact trivial | with_reducible refine And.intro ?_ ?_)); all_goals (repeat (first | (with_reducible refine ImpB.mk fun hb => ?_) | (with_reducible refine ImpK.mk fun hK => ?_) | (with_reducible refine ImpF.mk fun hF => ?_) | (with_reducible refine ImpQ.mk fun hp => ?_) | (with_reducible refine AllE.mk fun p => ?_) | (with_reducible refine AllR.mk fun rest => ?_) | (with_reducible refine AllK.mk fun K => ?_))))); repeat' (with_reducible refine And.intro ?_ ?_))
      (focus (refine ⟨_, _, gh_close (t := 0) (ts := [1]) (l := ScO most now next o acc) ⟨⟨_, _, rfl⟩, ?_, by simp⟩, [0, 2], rfl, ?_⟩; all_goals (refine ⟨?_, ?_, ?_⟩ <;> simp only [go_sem, List.range, List.range.loop, List.nodup_cons, List.nodup_nil, List.mem_cons, List.not_mem_nil, or_false, or_self, decide_true, decide_false, Int.reduceToNat, Nat.min_eq_left, Nat.min_eq_right, Int.reducePow, Nat.reducePow, Int.reduceLE, Int.reduceLT, Int.reduceMul, Int.reduceAdd, Int.reduceSub, Int.reduceNeg, Bool.not_true, Bool.not_false, Bool.not_not, ↓reduceIte, Nat.reduceAdd, Nat.reduceSub, Nat.reduceMul, Nat.reduceEqDiff, reduceCtorEq, Nat.reduceLT, Nat.reduceLeDiff, Nat.reduceGT]); (try any_goals (refine ⟨?_, ?_⟩)); (try any_goals (with_reducible rfl))))
  · exact ⟨rfl, Nat.zero_le _⟩
  · (focus (refine ⟨_, _, Gh.refl, [0, 1, 2], rfl, ?_⟩; (refine ⟨?_, ?_, ?_⟩ <;> simp only [go_sem, List.range, List.range.loop, List.nodup_cons, List.nodup_nil, List.mem_cons, List.not_mem_nil, or_false, or_self, decide_true, decide_false, Int.reduceToNat, Nat.min_eq_left, Nat.min_eq_right, Int.reducePow, Nat.reducePow, Int.reduceLE, Int.reduceLT, Int.reduceMul, Int.reduceAdd, Int.reduceSub, Int.reduceNeg, Bool.not_true, Bool.not_false, Bool.not_not, ↓reduceIte, Nat.reduceAdd, Nat.reduceSub, Nat.reduceMul, Nat.reduceEqDiff, reduceCtorEq, Nat.reduceLT, Nat.reduceLeDiff, Nat.reduceGT]); (try any_goals (refine ⟨?_, ?_⟩)); (try any_goals (with_reducible rfl))))
theorem c_sents {h : List Ch} {K : KT} {u : Nat} {most now next : Int} {o : List Bool} {l : List Ent} (H : K (.sl h.length .ent 0 l.length) (h ++ [.rows .ent l])) (o1 : hth h u = .pack (ScO most now next o l)) (s1 : l.length ≤ 1000000) (s2 : smallE l) : Does Try.prog 16 [.ptr u 0] h K :=
  frame_obj (ret' := .sl h.length .ent 0 l.length) (b_sents most now next o l s1 s2) o1 (by simp) (fitC_pack _) (br_cons (br_ptr rfl) br_nil) (.inl rfl) (fun _ => rfl) (fun _ => rfl) (by simp [renA, rhoC]) (by rw [set_hth o1 (by simp)]; exact H)
abbrev i_sents := Ctr.mk (i := 0) (g := 16) @c_sents
attribute [instance] i_sents
end Go.V

set_option maxRecDepth 100000
set_option maxHeartbeats 8000000
namespace Go.V
open Go.Proofs
def shBad (now g by' : Int) (x : Ent) : Bool := decide (x.group = g) && (decide (1099511627776 - x.time < by') || decide (by' ≤ now - x.time))
def shOne (g by' : Int) (x : Ent) : Ent := if x.group = g then { x with time := x.time + by' } else x
def shE (now g by' : Int) (l : List Ent) : Int := if ¬ (0 ≤ g ∧ g < 16) then 1 else if l.any (shBad now g by') then 10 else 0
def shL (now g by' : Int) (l : List Ent) : List Ent := if shE now g by' l = 0 then srtE (l.map (shOne g by')) else l
theorem shOne_id (g by' : Int) (x : Ent) : (shOne g by' x).id = x.id := by unfold shOne; split <;> rfl
theorem sh_ids (g by' : Int) (l : List Ent) : (l.map (shOne g by')).map (·.id) = l.map (·.id) := by
  rw [List.map_map]; exact List.map_congr_left fun x _ => shOne_id g by' x
def timeE (l : List Ent) : Prop := ∀ x ∈ l, 0 ≤ x.time ∧ x.time ≤ 1099511627776
theorem map_set {l m : List Ent} {g by' : Int} {j : Nat} (hj : j < l.length) (hm : m = (l.take j).map (shOne g by') ++ l.drop j) : m.set j (shOne g by' (eAt l j)) = (l.take (j + 1)).map (shOne g by') ++ l.drop (j + 1) := by
  subst hm
  have hk : ((l.take j).map (shOne g by')).length = j := by simp; omega
  rw [List.set_append, if_neg (by omega), hk, Nat.sub_self, List.drop_eq_getElem_cons hj, List.set_cons_zero, List.take_succ_eq_append_getElem hj, List.map_append, ← eAt_eq hj, List.append_assoc]
  rfl
theorem b_sshift (most now next : Int) (o : List Bool) (l : List Ent) (n g by' : Int) (hl : l.length ≤ 1000000) (hn : (l.map (·.id)).Nodup) (ht : timeE l) (hnow : 0 ≤ now ∧ now ≤ 1099511627776) : DoesK Try.prog 1 20 [.ptr 0 0, .int .i64 n, .int .i64 g, .int .i64 by'] [.pack (ScO most now next o l)]
    (EndF 1 (.int .i64 (shE (passT now n) g by' l)) ([.pack (ScO most (passT now n) next o (shL (passT now n) g by' l))] ++ [])) := by
  refine DoesK.close ?_
  obtain ⟨nw, hnw⟩ : ∃ nw, passT now n = nw := ⟨_, rfl⟩
  have hnr : 0 ≤ nw ∧ nw ≤ 1099511627776 := by rw [← hnw]; unfold passT; split <;> omega
  rw [hnw]
  by_cases c1 : 0 ≤ g ∧ g < 16
  · have d1 : (decide (0 ≤ g) && decide (g < 16)) = true := by rw [decide_eq_true c1.1, decide_eq_true c1.2]; rfl
    refine w_body (rs := [.tmp 8]) (tm := [.ptr 0 0, .int .i64 n, .int .i64 g, .int .i64 by', .any, .any, .any, .any, .any, .any, .any, .any, .any, .any, .any, .any, .any, .any, .any, .any, .any, .any, .any, .any, .any, .any, .any, .any, .any, .any, .any, .any, .any, .any, .any, .any, .any, .any, .any, .any, .any, .any, .any, .any, .any, .any, .any, .any, .any, .any, .any, .any, .any, .any, .any, .any, .any, .any, .any, .any, .any, .any, .any, .any, .any, .any, .any, .any, .any, .any, .any, .any, .any, .any, .any, .any, .any, .any, .any, .any, .any, .any, .any, .any, .any, .any]) fn_20 rfl rfl rfl rfl fun R hR => ?_
    (have zx1 := @hnw; have zx2 := @d1; all_goals (try ((first | (with_reducible refine wp_id ?_) | (with_reducible refine does_id ?_) | (with_reducible refine ops_id ?_)); refine walk ?_; (repeat' (first | exact trivial | with_reducible refine And.intro ?_ ?_)); all_goals (repeat (first | (with_reducible refine ImpB.mk fun hb => ?_) | (with_reducible refine ImpK.mk fun hK => ?_) | (with_reducible refine ImpF.mk fun hF => ?_) | (with_reducible refine ImpQ.mk fun hp => ?_) | (with_reducible refine AllE.mk fun p => ?_) | (with_reducible refine AllR.mk fun rest => ?_) | (with_reducible refine AllK.mk fun K => ?_))))); repeat' (with_reducible refine And.intro ?_ ?_))
    any_goals ((try (refine w_seq fun K hK => ?_)); (try (refine w_block ?_)); refine w_loop (A := Nat) (fun k => (l.take k).any (shBad nw g by') = false ∧ k ≤ l.length) (fun k => l.length - k) (fun k => [(26, .int .i64 k)]) (fun k => [(0, .cells (scC most nw next o 1 l.length)), (1, .rows .ent l)]) (0) (ws := ?ws1) (tk := ?tk1) ?hw1 ?ht1 ?hi ?h0 ?LH1; (case hw1 => simp only [go_sem, decide_true, decide_false, Int.reduceToNat, Nat.min_eq_left, Nat.min_eq_right, Int.reducePow, Nat.reducePow, Int.reduceLE, Int.reduceLT, Int.reduceMul, Int.reduceAdd, Int.reduceSub, Int.reduceNeg, Bool.not_true, Bool.not_false, Bool.not_not, ↓reduceIte, Nat.reduceAdd, Nat.reduceSub, Nat.reduceMul, Nat.reduceEqDiff, reduceCtorEq, Nat.reduceLT, Nat.reduceLeDiff, Nat.reduceGT]; exact rfl); (case ht1 => simp only [go_sem, decide_true, decide_false, Int.reduceToNat, Nat.min_eq_left, Nat.min_eq_right, Int.reducePow, Nat.reducePow, Int.reduceLE, Int.reduceLT, Int.reduceMul, Int.reduceAdd, Int.reduceSub, Int.reduceNeg, Bool.not_true, Bool.not_false, Bool.not_not, ↓reduceIte, Nat.reduceAdd, Nat.reduceSub, Nat.reduceMul, Nat.reduceEqDiff, reduceCtorEq, Nat.reduceLT, Nat.reduceLeDiff, Nat.reduceGT]; exact rfl); (case' LH1 => rintro k E t hx hE ht; simp only [go_sem] at ht; subst ht; simp only [go_sem]; try dsimp only at hx))
    case LH1 =>
      obtain ⟨ha, hk⟩ := hx
      by_cases c2 : k < l.length
      · have d2 : decide ((k : Int) < (l.length : Int)) = true := decide_eq_true (by omega)
        have htk : 0 ≤ (eAt l k).time ∧ (eAt l k).time ≤ 1099511627776 := by rw [eAt_eq c2]; exact ht _ (List.getElem_mem c2)
        have hst := take_ent c2
        have hw : IntKind.i64.wrap ((k : Int) + 1) = ((k + 1 : Nat) : Int) := wrap_i64 _ (by omega) (by omega)
        have hw1 : IntKind.i64.wrap (1099511627776 - (eAt l k).time) = 1099511627776 - (eAt l k).time := wrap_i64 _ (by omega) (by omega)
        have hw2 : IntKind.i64.wrap (nw - (eAt l k).time) = nw - (eAt l k).time := wrap_i64 _ (by omega) (by omega)
        have hbad : shBad nw g by' (eAt l k) = true → l.any (shBad nw g by') = true := fun q => List.any_eq_true.2 ⟨eAt l k, by rw [eAt_eq c2]; exact List.getElem_mem c2, q⟩
        have hE : l.any (shBad nw g by') = true → shE nw g by' l = 10 ∧ shL nw g by' l = l := by
          intro q
          have e : shE nw g by' l = 10 := by unfold shE; rw [if_neg (fun q => q c1), if_pos q]
          exact ⟨e, by unfold shL; rw [e]; rfl⟩
        have hnx : shBad nw g by' (eAt l k) = false → (l.take (k + 1)).any (shBad nw g by') = false := by
          intro q; rw [hst, List.any_append, ha, List.any_cons, q]; rfl
        (have zx1 := @d2; have zx2 := @hw; have zx3 := @hw1; have zx4 := @hw2; all_goals (try ((first | (with_reducible refine wp_id ?_) | (with_reducible refine does_id ?_) | (with_reducible refine ops_id ?_)); refine walk ?_; (repeat' (first | exact trivial | with_reducible refine And.intro ?_ ?_)); all_goals (repeat (first | (with_reducible refine ImpB.mk fun hb => ?_) | (with_reducible refine ImpK.mk fun hK => ?_) | (with_reducible refine ImpF.mk fun hF => ?_) | (with_reducible refine ImpQ.mk fun hp => ?_) | (with_reducible refine AllE.mk fun p => ?_) | (with_reducible refine AllR.mk fun rest => ?_) | (with_reducible refine AllK.mk fun K => ?_))))); repeat' (with_reducible refine And.intro ?_ ?_))
        · exact Int.natCast_nonneg _
        · exact_mod_cast c2
        · exact c2
        · rename_i q1
          have hq := hE (hbad (by simp only [shBad, hb, q1, Bool.true_or, Bool.and_self]))
          rw [hq.1, hq.2]
          (focus (refine ⟨_, _, gh_close (t := 0) (ts := [1]) (l := ScO most nw next o l) ⟨⟨_, _, rfl⟩, ?_, by simp⟩, [0], rfl, ?_⟩; all_goals (refine ⟨?_, ?_, ?_⟩ <;> simp only [go_sem, List.range, List.range.loop, List.nodup_cons, List.nodup_nil, List.mem_cons, List.not_mem_nil, or_false, or_self, decide_true, decide_false, Int.reduceToNat, Nat.min_eq_left, Nat.min_eq_right, Int.reducePow, Nat.reducePow, Int.reduceLE, Int.reduceLT, Int.reduceMul, Int.reduceAdd, Int.reduceSub, Int.reduceNeg, Bool.not_true, Bool.not_false, Bool.not_not, ↓reduceIte, Nat.reduceAdd, Nat.reduceSub, Nat.reduceMul, Nat.reduceEqDiff, reduceCtorEq, Nat.reduceLT, Nat.reduceLeDiff, Nat.reduceGT]); (try any_goals (refine ⟨?_, ?_⟩)); (try any_goals (with_reducible rfl))))
        · rename_i q1 q2
          have hq := hE (hbad (by simp only [shBad, hb, q1, q2, Bool.or_true, Bool.and_self]))
          rw [hq.1, hq.2]
          (focus (refine ⟨_, _, gh_close (t := 0) (ts := [1]) (l := ScO most nw next o l) ⟨⟨_, _, rfl⟩, ?_, by simp⟩, [0], rfl, ?_⟩; all_goals (refine ⟨?_, ?_, ?_⟩ <;> simp only [go_sem, List.range, List.range.loop, List.nodup_cons, List.nodup_nil, List.mem_cons, List.not_mem_nil, or_false, or_self, decide_true, decide_false, Int.reduceToNat, Nat.min_eq_left, Nat.min_eq_right, Int.reducePow, Nat.reducePow, Int.reduceLE, Int.reduceLT, Int.reduceMul, Int.reduceAdd, Int.reduceSub, Int.reduceNeg, Bool.not_true, Bool.not_false, Bool.not_not, ↓reduceIte, Nat.reduceAdd, Nat.reduceSub, Nat.reduceMul, Nat.reduceEqDiff, reduceCtorEq, Nat.reduceLT, Nat.reduceLeDiff, Nat.reduceGT]); (try any_goals (refine ⟨?_, ?_⟩)); (try any_goals (with_reducible rfl))))
        · rename_i q1 q2
          refine ⟨k + 1, ⟨⟨hnx (by simp only [shBad, hb, q2, Bool.or_self, Bool.and_false]), c2⟩, by dsimp only; omega⟩, ?_⟩
          (focus (refine ⟨_, _, Gh.refl, [0, 1], rfl, ?_⟩; (refine ⟨?_, ?_, ?_⟩ <;> simp only [go_sem, List.range, List.range.loop, List.nodup_cons, List.nodup_nil, List.mem_cons, List.not_mem_nil, or_false, or_self, decide_true, decide_false, Int.reduceToNat, Nat.min_eq_left, Nat.min_eq_right, Int.reducePow, Nat.reducePow, Int.reduceLE, Int.reduceLT, Int.reduceMul, Int.reduceAdd, Int.reduceSub, Int.reduceNeg, Bool.not_true, Bool.not_false, Bool.not_not, ↓reduceIte, Nat.reduceAdd, Nat.reduceSub, Nat.reduceMul, Nat.reduceEqDiff, reduceCtorEq, Nat.reduceLT, Nat.reduceLeDiff, Nat.reduceGT]); (try any_goals (refine ⟨?_, ?_⟩)); (try any_goals (with_reducible rfl))))
        · refine ⟨k + 1, ⟨⟨hnx (by simp only [shBad, hb, Bool.false_and]), c2⟩, by dsimp only; omega⟩, ?_⟩
          (focus (refine ⟨_, _, Gh.refl, [0, 1], rfl, ?_⟩; (refine ⟨?_, ?_, ?_⟩ <;> simp only [go_sem, List.range, List.range.loop, List.nodup_cons, List.nodup_nil, List.mem_cons, List.not_mem_nil, or_false, or_self, decide_true, decide_false, Int.reduceToNat, Nat.min_eq_left, Nat.min_eq_right, Int.reducePow, Nat.reducePow, Int.reduceLE, Int.reduceLT, Int.reduceMul, Int.reduceAdd, Int.reduceSub, Int.reduceNeg, Bool.not_true, Bool.not_false, Bool.not_not, ↓reduceIte, Nat.reduceAdd, Nat.reduceSub, Nat.reduceMul, Nat.reduceEqDiff, reduceCtorEq, Nat.reduceLT, Nat.reduceLeDiff, Nat.reduceGT]); (try any_goals (refine ⟨?_, ?_⟩)); (try any_goals (with_reducible rfl))))
      · have d2 : decide ((k : Int) < (l.length : Int)) = false := decide_eq_false (by omega)
        have hkl : k = l.length := by omega
        have hno : l.any (shBad nw g by') = false := by rw [hkl, List.take_length] at ha; exact ha
        have hgd : ∀ x ∈ l, x.group = g → by' ≤ 1099511627776 - x.time ∧ nw - x.time < by' := by
          intro x hx hg
          have := List.any_eq_false.1 hno x hx
          simp only [shBad, hg, decide_true, Bool.true_and, Bool.or_eq_true, decide_eq_true_eq] at this
          omega
        have e1 : shE nw g by' l = 0 := by unfold shE; rw [if_neg (fun q => q c1), hno]; rfl
        have e2 : shL nw g by' l = srtE (l.map (shOne g by')) := by unfold shL; rw [e1]; rfl
        (have zx1 := @d2; all_goals (try ((first | (with_reducible refine wp_id ?_) | (with_reducible refine does_id ?_) | (with_reducible refine ops_id ?_)); refine walk ?_; (repeat' (first | exact trivial | with_reducible refine And.intro ?_ ?_)); all_goals (repeat (first | (with_reducible refine ImpB.mk fun hb => ?_) | (with_reducible refine ImpK.mk fun hK => ?_) | (with_reducible refine ImpF.mk fun hF => ?_) | (with_reducible refine ImpQ.mk fun hp => ?_) | (with_reducible refine AllE.mk fun p => ?_) | (with_reducible refine AllR.mk fun rest => ?_) | (with_reducible refine AllK.mk fun K => ?_))))); repeat' (with_reducible refine And.intro ?_ ?_))
        any_goals ((try (refine w_seq fun K hK => ?_)); (try (refine w_block ?_)); refine w_loop (A := Nat × List Ent) (fun p => p.2 = (l.take p.1).map (shOne g by') ++ l.drop p.1 ∧ p.1 ≤ l.length) (fun p => l.length - p.1) (fun p => [(58, .int .i64 p.1)]) (fun p => [(0, .cells (scC most nw next o 1 l.length)), (1, .rows .ent p.2)]) ((0, l)) (ws := ?ws2) (tk := ?tk2) ?hw2 ?ht2 ?hi_1 ?h0_1 ?LH2; (case hw2 => simp only [go_sem, decide_true, decide_false, Int.reduceToNat, Nat.min_eq_left, Nat.min_eq_right, Int.reducePow, Nat.reducePow, Int.reduceLE, Int.reduceLT, Int.reduceMul, Int.reduceAdd, Int.reduceSub, Int.reduceNeg, Bool.not_true, Bool.not_false, Bool.not_not, ↓reduceIte, Nat.reduceAdd, Nat.reduceSub, Nat.reduceMul, Nat.reduceEqDiff, reduceCtorEq, Nat.reduceLT, Nat.reduceLeDiff, Nat.reduceGT]; exact rfl); (case ht2 => simp only [go_sem, decide_true, decide_false, Int.reduceToNat, Nat.min_eq_left, Nat.min_eq_right, Int.reducePow, Nat.reducePow, Int.reduceLE, Int.reduceLT, Int.reduceMul, Int.reduceAdd, Int.reduceSub, Int.reduceNeg, Bool.not_true, Bool.not_false, Bool.not_not, ↓reduceIte, Nat.reduceAdd, Nat.reduceSub, Nat.reduceMul, Nat.reduceEqDiff, reduceCtorEq, Nat.reduceLT, Nat.reduceLeDiff, Nat.reduceGT]; exact rfl); (case' LH2 => rintro ⟨j, m⟩ E t hx hE ht; simp only [go_sem] at ht; subst ht; simp only [go_sem]; try dsimp only at hx))
        case LH2 =>
          obtain ⟨hm, hj⟩ := hx
          have hml : m.length = l.length := by rw [hm]; simp; omega
          by_cases c3 : j < l.length
          · have d3 : decide ((j : Int) < (l.length : Int)) = true := decide_eq_true (by omega)
            have hmj : eAt m j = eAt l j := by
              rw [eAt_eq (by omega), eAt_eq c3]
              simp only [hm]
              rw [List.getElem_append_right (by simp; omega), List.getElem_drop]
              congr 1
              simp only [List.length_map, List.length_take]
              omega
            have hgj := hgd (eAt l j) (by rw [eAt_eq c3]; exact List.getElem_mem c3)
            have htj : 0 ≤ (eAt l j).time ∧ (eAt l j).time ≤ 1099511627776 := by rw [eAt_eq c3]; exact ht _ (List.getElem_mem c3)
            have hw : IntKind.i64.wrap ((j : Int) + 1) = ((j + 1 : Nat) : Int) := wrap_i64 _ (by omega) (by omega)
            by_cases c4 : (eAt l j).group = g
            · have d4 : decide ((eAt l j).group = g) = true := decide_eq_true c4
              have hgg := hgj c4
              have hw1 : IntKind.i64.wrap ((eAt l j).time + by') = (eAt l j).time + by' := wrap_i64 _ (by omega) (by omega)
              have hf : ({ eAt l j with time := (eAt l j).time + by' } : Ent) = shOne g by' (eAt l j) := by unfold shOne; rw [if_pos c4]
              have hnm := map_set (g := g) (by' := by') c3 hm
              rw [← hf] at hnm
              (have zx1 := @d3; have zx2 := @hw; have zx3 := @hmj; have zx4 := @d4; have zx5 := @hw1; all_goals (try ((first | (with_reducible refine wp_id ?_) | (with_reducible refine does_id ?_) | (with_reducible refine ops_id ?_)); refine walk ?_; (repeat' (first | exact trivial | with_reducible refine And.intro ?_ ?_)); all_goals (repeat (first | (with_reducible refine ImpB.mk fun hb => ?_) | (with_reducible refine ImpK.mk fun hK => ?_) | (with_reducible refine ImpF.mk fun hF => ?_) | (with_reducible refine ImpQ.mk fun hp => ?_) | (with_reducible refine AllE.mk fun p => ?_) | (with_reducible refine AllR.mk fun rest => ?_) | (with_reducible refine AllK.mk fun K => ?_))))); repeat' (with_reducible refine And.intro ?_ ?_))
              · exact Int.natCast_nonneg _
              · exact_mod_cast c3
              · omega
              · refine ⟨(j + 1, m.set j { eAt l j with time := (eAt l j).time + by' }), ⟨⟨hnm, c3⟩, by dsimp only; omega⟩, ?_⟩
                (focus (refine ⟨_, _, Gh.refl, [0, 1], rfl, ?_⟩; (refine ⟨?_, ?_, ?_⟩ <;> simp only [go_sem, List.range, List.range.loop, List.nodup_cons, List.nodup_nil, List.mem_cons, List.not_mem_nil, or_false, or_self, decide_true, decide_false, Int.reduceToNat, Nat.min_eq_left, Nat.min_eq_right, Int.reducePow, Nat.reducePow, Int.reduceLE, Int.reduceLT, Int.reduceMul, Int.reduceAdd, Int.reduceSub, Int.reduceNeg, Bool.not_true, Bool.not_false, Bool.not_not, ↓reduceIte, Nat.reduceAdd, Nat.reduceSub, Nat.reduceMul, Nat.reduceEqDiff, reduceCtorEq, Nat.reduceLT, Nat.reduceLeDiff, Nat.reduceGT]); (try any_goals (refine ⟨?_, ?_⟩)); (try any_goals (with_reducible rfl))))
            · have d4 : decide ((eAt l j).group = g) = false := decide_eq_false c4
              have hf : eAt l j = shOne g by' (eAt l j) := by unfold shOne; rw [if_neg c4]
              have hnm := map_set (g := g) (by' := by') c3 hm
              rw [← hf, ← hmj, eAt_eq (by omega), List.set_getElem_self] at hnm
              (have zx1 := @d3; have zx2 := @hw; have zx3 := @hmj; have zx4 := @d4; all_goals (try ((first | (with_reducible refine wp_id ?_) | (with_reducible refine does_id ?_) | (with_reducible refine ops_id ?_)); refine walk ?_; (repeat' (first | exact trivial | with_reducible refine And.intro ?_ ?_)); all_goals (repeat (first | (with_reducible refine ImpB.mk fun hb => ?_) | (with_reducible refine ImpK.mk fun hK => ?_) | (with_reducible refine ImpF.mk fun hF => ?_) | (with_reducible refine ImpQ.mk fun hp => ?_) | (with_reducible refine AllE.mk fun p => ?_) | (with_reducible refine AllR.mk fun rest => ?_) | (with_reducible refine AllK.mk fun K => ?_))))); repeat' (with_reducible refine And.intro ?_ ?_))
              · exact Int.natCast_nonneg _
              · exact_mod_cast c3
              · omega
              · refine ⟨(j + 1, m), ⟨⟨hnm, c3⟩, by dsimp only; omega⟩, ?_⟩
                (focus (refine ⟨_, _, Gh.refl, [0, 1], rfl, ?_⟩; (refine ⟨?_, ?_, ?_⟩ <;> simp only [go_sem, List.range, List.range.loop, List.nodup_cons, List.nodup_nil, List.mem_cons, List.not_mem_nil, or_false, or_self, decide_true, decide_false, Int.reduceToNat, Nat.min_eq_left, Nat.min_eq_right, Int.reducePow, Nat.reducePow, Int.reduceLE, Int.reduceLT, Int.reduceMul, Int.reduceAdd, Int.reduceSub, Int.reduceNeg, Bool.not_true, Bool.not_false, Bool.not_not, ↓reduceIte, Nat.reduceAdd, Nat.reduceSub, Nat.reduceMul, Nat.reduceEqDiff, reduceCtorEq, Nat.reduceLT, Nat.reduceLeDiff, Nat.reduceGT]); (try any_goals (refine ⟨?_, ?_⟩)); (try any_goals (with_reducible rfl))))
          · have d3 : decide ((j : Int) < (l.length : Int)) = false := decide_eq_false (by omega)
            have hme : m = l.map (shOne g by') := by rw [hm, List.take_of_length_le (by omega), List.drop_eq_nil_of_le (by omega), List.append_nil]
            subst hme
            (have zx1 := @d3; all_goals (try ((first | (with_reducible refine wp_id ?_) | (with_reducible refine does_id ?_) | (with_reducible refine ops_id ?_)); refine walk ?_; (repeat' (first | exact trivial | with_reducible refine And.intro ?_ ?_)); all_goals (repeat (first | (with_reducible refine ImpB.mk fun hb => ?_) | (with_reducible refine ImpK.mk fun hK => ?_) | (with_reducible refine ImpF.mk fun hF => ?_) | (with_reducible refine ImpQ.mk fun hp => ?_) | (with_reducible refine AllE.mk fun p => ?_) | (with_reducible refine AllR.mk fun rest => ?_) | (with_reducible refine AllK.mk fun K => ?_))))); repeat' (with_reducible refine And.intro ?_ ?_))
            · rw [e1, e2]
              (focus (refine ⟨_, _, Gh.refl, [0], rfl, ?_⟩; (refine ⟨?_, ?_, ?_⟩ <;> simp only [go_sem, List.range, List.range.loop, List.nodup_cons, List.nodup_nil, List.mem_cons, List.not_mem_nil, or_false, or_self, decide_true, decide_false, Int.reduceToNat, Nat.min_eq_left, Nat.min_eq_right, Int.reducePow, Nat.reducePow, Int.reduceLE, Int.reduceLT, Int.reduceMul, Int.reduceAdd, Int.reduceSub, Int.reduceNeg, Bool.not_true, Bool.not_false, Bool.not_not, ↓reduceIte, Nat.reduceAdd, Nat.reduceSub, Nat.reduceMul, Nat.reduceEqDiff, reduceCtorEq, Nat.reduceLT, Nat.reduceLeDiff, Nat.reduceGT]); (try any_goals (refine ⟨?_, ?_⟩)); (try any_goals (with_reducible rfl))))
            · rw [sh_ids]; exact hn
        · exact ⟨rfl, Nat.zero_le _⟩
        · (focus (refine ⟨_, _, Gh.refl, [0, 1], rfl, ?_⟩; (refine ⟨?_, ?_, ?_⟩ <;> simp only [go_sem, List.range, List.range.loop, List.nodup_cons, List.nodup_nil, List.mem_cons, List.not_mem_nil, or_false, or_self, decide_true, decide_false, Int.reduceToNat, Nat.min_eq_left, Nat.min_eq_right, Int.reducePow, Nat.reducePow, Int.reduceLE, Int.reduceLT, Int.reduceMul, Int.reduceAdd, Int.reduceSub, Int.reduceNeg, Bool.not_true, Bool.not_false, Bool.not_not, ↓reduceIte, Nat.reduceAdd, Nat.reduceSub, Nat.reduceMul, Nat.reduceEqDiff, reduceCtorEq, Nat.reduceLT, Nat.reduceLeDiff, Nat.reduceGT]); (try any_goals (refine ⟨?_, ?_⟩)); (try any_goals (with_reducible rfl))))
    · exact ⟨rfl, Nat.zero_le _⟩
    · (focus (refine ⟨_, _, Gh.refl, [0, 1], rfl, ?_⟩; (refine ⟨?_, ?_, ?_⟩ <;> simp only [go_sem, List.range, List.range.loop, List.nodup_cons, List.nodup_nil, List.mem_cons, List.not_mem_nil, or_false, or_self, decide_true, decide_false, Int.reduceToNat, Nat.min_eq_left, Nat.min_eq_right, Int.reducePow, Nat.reducePow, Int.reduceLE, Int.reduceLT, Int.reduceMul, Int.reduceAdd, Int.reduceSub, Int.reduceNeg, Bool.not_true, Bool.not_false, Bool.not_not, ↓reduceIte, Nat.reduceAdd, Nat.reduceSub, Nat.reduceMul, Nat.reduceEqDiff, reduceCtorEq, Nat.reduceLT, Nat.reduceLeDiff, Nat.reduceGT]); (try any_goals (refine ⟨?_, ?_⟩)); (try any_goals (with_reducible rfl))))
  · have d1 : (decide (0 ≤ g) && decide (g < 16)) = false := by
      rw [Bool.eq_false_iff]; intro q; simp at q; exact c1 q
    have e1 : shE nw g by' l = 1 := if_pos c1
    have e2 : shL nw g by' l = l := by unfold shL; rw [e1]; rfl
    rw [e1, e2]
    refine w_body (rs := [.tmp 8]) (tm := [.ptr 0 0, .int .i64 n, .int .i64 g, .int .i64 by', .any, .any, .any, .any, .any, .any, .any, .any, .any, .any, .any, .any, .any, .any, .any, .any, .any, .any, .any, .any, .any, .any, .any, .any, .any, .any, .any, .any, .any, .any, .any, .any, .any, .any, .any, .any, .any, .any, .any, .any, .any, .any, .any, .any, .any, .any, .any, .any, .any, .any, .any, .any, .any, .any, .any, .any, .any, .any, .any, .any, .any, .any, .any, .any, .any, .any, .any, .any, .any, .any, .any, .any, .any, .any, .any, .any, .any, .any, .any, .any, .any, .any]) fn_20 rfl rfl rfl rfl fun R hR => ?_
    (have zx1 := @hnw; have zx2 := @d1; all_goals (try ((first | (with_reducible refine wp_id ?_) | (with_reducible refine does_id ?_) | (with_reducible refine ops_id ?_)); refine walk ?_; (repeat' (first | exact trivial | with_reducible refine And.intro ?_ ?_)); all_goals (repeat (first | (with_reducible refine ImpB.mk fun hb => ?_) | (with_reducible refine ImpK.mk fun hK => ?_) | (with_reducible refine ImpF.mk fun hF => ?_) | (with_reducible refine ImpQ.mk fun hp => ?_) | (with_reducible refine AllE.mk fun p => ?_) | (with_reducible refine AllR.mk fun rest => ?_) | (with_reducible refine AllK.mk fun K => ?_))))); repeat' (with_reducible refine And.intro ?_ ?_))
    (focus (refine ⟨_, _, Gh.refl, [0], rfl, ?_⟩; (refine ⟨?_, ?_, ?_⟩ <;> simp only [go_sem, List.range, List.range.loop, List.nodup_cons, List.nodup_nil, List.mem_cons, List.not_mem_nil, or_false, or_self, decide_true, decide_false, Int.reduceToNat, Nat.min_eq_left, Nat.min_eq_right, Int.reducePow, Nat.reducePow, Int.reduceLE, Int.reduceLT, Int.reduceMul, Int.reduceAdd, Int.reduceSub, Int.reduceNeg, Bool.not_true, Bool.not_false, Bool.not_not, ↓reduceIte, Nat.reduceAdd, Nat.reduceSub, Nat.reduceMul, Nat.reduceEqDiff, reduceCtorEq, Nat.reduceLT, Nat.reduceLeDiff, Nat.reduceGT]); (try any_goals (refine ⟨?_, ?_⟩)); (try any_goals (with_reducible rfl))))
theorem c_sshift {h : List Ch} {K : KT} {u : Nat} {most now next n g by' : Int} {o : List Bool} {l : List Ent} (H : K (.int .i64 (shE (passT now n) g by' l)) (h.set u (.pack (ScO most (passT now n) next o (shL (passT now n) g by' l))))) (o1 : hth h u = .pack (ScO most now next o l)) (s1 : l.length ≤ 1000000) (s2 : (l.map (·.id)).Nodup) (s3 : timeE l) (s4 : 0 ≤ now ∧ now ≤ 1099511627776) : Does Try.prog 20 [.ptr u 0, .int .i64 n, .int .i64 g, .int .i64 by'] h K :=
  frame_obj0 (b_sshift most now next o l n g by' s1 s2 s3 s4) o1 (by simp) (fitC_pack _) (br_cons (br_ptr rfl) (br_cons br_int (br_cons br_int (br_cons br_int br_nil)))) (.inl rfl) (fun _ => rfl) rfl H
abbrev i_sshift := Ctr.mk (i := 0) (g := 20) @c_sshift
attribute [instance] i_sshift
end Go.V

set_option maxRecDepth 100000
set_option maxHeartbeats 8000000
namespace Go.V
open Go.Proofs
/-! ### Due -/
def dueW (now : Int) (x : Ent) : Bool := decide (x.time ≤ now)
def dueR (now : Int) (l : List Ent) : List Ent := l.dropWhile (dueW now)
def dueO (now : Int) (o : List Bool) (l : List Ent) : List Ent := (l.takeWhile (dueW now)).filter fun x => !o.getD x.group.toNat false
def grpE (l : List Ent) : Prop := ∀ x ∈ l, 0 ≤ x.group ∧ x.group < 16
theorem b_sdue (most now next : Int) (o : List Bool) (l : List Ent) (n : Int) (hl : l.length ≤ 1000000) (hs : smallE l) (hg : grpE l) : DoesK Try.prog 1 18 [.ptr 0 0, .int .i64 n] [.pack (ScO most now next o l)]
    (EndF 1 (.sl 1 .ent 0 (dueO (passT now n) o l).length) ([.pack (ScO most (passT now n) next o (dueR (passT now n) l))] ++ [.rows .ent (dueO (passT now n) o l)])) := by
  refine DoesK.close ?_
  obtain ⟨nw, hnw⟩ : ∃ nw, passT now n = nw := ⟨_, rfl⟩
  rw [hnw]
  refine w_body (rs := [.tmp 4]) (tm := [.ptr 0 0, .int .i64 n, .any, .any, .any, .any, .any, .any, .any, .any, .any, .any, .any, .any, .any, .any, .any, .any, .any, .any, .any, .any, .any, .any, .any, .any, .any, .any, .any, .any, .any, .any, .any, .any, .any, .any, .any, .any, .any, .any, .any, .any, .any, .any, .any, .any, .any, .any, .any, .any, .any, .any, .any, .any, .any, .any, .any, .any, .any, .any, .any, .any, .any, .any]) fn_18 rfl rfl rfl rfl fun R hR => ?_
  (have zx1 := @hnw; all_goals (try ((first | (with_reducible refine wp_id ?_) | (with_reducible refine does_id ?_) | (with_reducible refine ops_id ?_)); refine walk ?_; (repeat' (first | exact trivial | with_reducible refine And.intro ?_ ?_)); all_goals (repeat (first | (with_reducible refine ImpB.mk fun hb => ?_) | (with_reducible refine ImpK.mk fun hK => ?_) | (with_reducible refine ImpF.mk fun hF => ?_) | (with_reducible refine ImpQ.mk fun hp => ?_) | (with_reducible refine AllE.mk fun p => ?_) | (with_reducible refine AllR.mk fun rest => ?_) | (with_reducible refine AllK.mk fun K => ?_))))); repeat' (with_reducible refine And.intro ?_ ?_))
  refine Wp.ghost (gh_adopt (s := 5) .ent trivial) ?_
  any_goals ((try (refine w_seq fun K hK => ?_)); (try (refine w_block ?_)); refine w_loop (A := List Ent × List Ent) (fun p => dueO nw o l = p.2 ++ dueO nw o p.1 ∧ dueR nw l = dueR nw p.1 ∧ (∃ d, l = d ++ p.1) ∧ p.2.length + p.1.length ≤ l.length) (fun p => p.1.length) (fun p => [(5, .sl 1 .ent 0 p.2.length)]) (fun p => [(0, .pack (ScO most nw next o p.1)), (1, .rows .ent p.2)]) ((l, [])) (ws := ?ws1) (tk := ?tk1) ?hw1 ?ht1 ?hi ?h0 ?LH1; (case hw1 => simp only [go_sem, decide_true, decide_false, Int.reduceToNat, Nat.min_eq_left, Nat.min_eq_right, Int.reducePow, Nat.reducePow, Int.reduceLE, Int.reduceLT, Int.reduceMul, Int.reduceAdd, Int.reduceSub, Int.reduceNeg, Bool.not_true, Bool.not_false, Bool.not_not, ↓reduceIte, Nat.reduceAdd, Nat.reduceSub, Nat.reduceMul, Nat.reduceEqDiff, reduceCtorEq, Nat.reduceLT, Nat.reduceLeDiff, Nat.reduceGT]; exact rfl); (case ht1 => simp only [go_sem, decide_true, decide_false, Int.reduceToNat, Nat.min_eq_left, Nat.min_eq_right, Int.reducePow, Nat.reducePow, Int.reduceLE, Int.reduceLT, Int.reduceMul, Int.reduceAdd, Int.reduceSub, Int.reduceNeg, Bool.not_true, Bool.not_false, Bool.not_not, ↓reduceIte, Nat.reduceAdd, Nat.reduceSub, Nat.reduceMul, Nat.reduceEqDiff, reduceCtorEq, Nat.reduceLT, Nat.reduceLeDiff, Nat.reduceGT]; exact rfl); (case' LH1 => rintro ⟨r, out⟩ E t hx hE ht; simp only [go_sem] at ht; subst ht; simp only [go_sem]; try dsimp only at hx))
  case LH1 =>
    obtain ⟨e1, e2, ⟨d, hd⟩, hlen⟩ := hx
    cases r with
    | nil =>
      have e3 : dueR nw ([] : List Ent) = [] := rfl
      have e4 : dueO nw o ([] : List Ent) = [] := rfl
      rw [e4, List.append_nil] at e1
      (all_goals (try ((first | (with_reducible refine wp_id ?_) | (with_reducible refine does_id ?_) | (with_reducible refine ops_id ?_)); refine walk ?_; (repeat' (first | exact trivial | with_reducible refine And.intro ?_ ?_)); all_goals (repeat (first | (with_reducible refine ImpB.mk fun hb => ?_) | (with_reducible refine ImpK.mk fun hK => ?_) | (with_reducible refine ImpF.mk fun hF => ?_) | (with_reducible refine ImpQ.mk fun hp => ?_) | (with_reducible refine AllE.mk fun p => ?_) | (with_reducible refine AllR.mk fun rest => ?_) | (with_reducible refine AllK.mk fun K => ?_))))); repeat' (with_reducible refine And.intro ?_ ?_))
      rw [e1, e2, e3]
      (focus (refine ⟨_, _, gh_close (t := 0) (ts := [2]) (l := ScO most nw next o []) ⟨⟨_, _, rfl⟩, ?_, by simp⟩, [0, 1], rfl, ?_⟩; all_goals (refine ⟨?_, ?_, ?_⟩ <;> simp only [go_sem, List.range, List.range.loop, List.nodup_cons, List.nodup_nil, List.mem_cons, List.not_mem_nil, or_false, or_self, decide_true, decide_false, Int.reduceToNat, Nat.min_eq_left, Nat.min_eq_right, Int.reducePow, Nat.reducePow, Int.reduceLE, Int.reduceLT, Int.reduceMul, Int.reduceAdd, Int.reduceSub, Int.reduceNeg, Bool.not_true, Bool.not_false, Bool.not_not, ↓reduceIte, Nat.reduceAdd, Nat.reduceSub, Nat.reduceMul, Nat.reduceEqDiff, reduceCtorEq, Nat.reduceLT, Nat.reduceLeDiff, Nat.reduceGT]); (try any_goals (refine ⟨?_, ?_⟩)); (try any_goals (with_reducible rfl))))
    | cons x t =>
      have hxl : x ∈ l := by rw [hd]; simp
      have hx1 := hs x hxl
      have hx0 : (x :: t).getD 0 Ent.zero = x := rfl
      have hp0 : decide ((0 : Int) < ((t.length + 1 : Nat) : Int)) = true := decide_eq_true (by omega)
      have hx2 := hg x hxl
      by_cases c1 : x.time ≤ nw
      · have d1 : decide (x.time ≤ nw) = true := decide_eq_true c1
        have e3 : dueR nw (x :: t) = dueR nw t := by unfold dueR; rw [List.dropWhile_cons]; simp only [dueW, d1, if_true]
        obtain ⟨k, hk, hkg⟩ : ∃ k : Nat, k < 16 ∧ x.group = (k : Int) := ⟨x.group.toNat, by omega, by omega⟩
        have hgt := fun a b => scC_get (most := most) (now := nw) (next := next) (o := o) (g := a) (n := b) (k := k) hk
        simp only [scC] at hgt
        cases hb : o.getD k false
        · have e4 : dueO nw o (x :: t) = x :: dueO nw o t := by
            unfold dueO; rw [List.takeWhile_cons]; simp only [dueW, d1, if_true, List.filter_cons, hkg, Int.toNat_natCast, hb, Bool.not_false]
          have hxe : ({ x with group := (k : Int) } : Ent) = x := by rw [← hkg]
          (have zx1 := @d1; have zx2 := @hkg; have zx3 := @hgt; have zx4 := @hb; have zx5 := @hx0; have zx6 := @hp0; have zx7 := @Int.toNat_natCast; all_goals (try ((first | (with_reducible refine wp_id ?_) | (with_reducible refine does_id ?_) | (with_reducible refine ops_id ?_)); refine walk ?_; (repeat' (first | exact trivial | with_reducible refine And.intro ?_ ?_)); all_goals (repeat (first | (with_reducible refine ImpB.mk fun hb => ?_) | (with_reducible refine ImpK.mk fun hK => ?_) | (with_reducible refine ImpF.mk fun hF => ?_) | (with_reducible refine ImpQ.mk fun hp => ?_) | (with_reducible refine AllE.mk fun p => ?_) | (with_reducible refine AllR.mk fun rest => ?_) | (with_reducible refine AllK.mk fun K => ?_))))); repeat' (with_reducible refine And.intro ?_ ?_))
          (all_goals first | exact Int.natCast_nonneg _ | exact Int.ofNat_lt.2 (by assumption) | assumption | omega | exact Nat.le_refl _ | (exfalso; simp at hb; done) | (simp only [go_sem, decide_true, decide_false, Int.reduceToNat, Nat.min_eq_left, Nat.min_eq_right, Int.reducePow, Nat.reducePow, Int.reduceLE, Int.reduceLT, Int.reduceMul, Int.reduceAdd, Int.reduceSub, Int.reduceNeg, Bool.not_true, Bool.not_false, Bool.not_not, ↓reduceIte, Nat.reduceAdd, Nat.reduceSub, Nat.reduceMul, Nat.reduceEqDiff, reduceCtorEq, Nat.reduceLT, Nat.reduceLeDiff, Nat.reduceGT]; done) | (unfold capM; omega) | (simp only [List.length_drop, List.length_take, List.length_append, List.length_cons, List.length_nil]; omega) | skip)
          refine ⟨(t, out ++ [{ x with group := (k : Int) }]), ⟨⟨by rw [hxe, e1, e4]; simp, by rw [e2, e3], ⟨d ++ [x], by rw [hd]; simp⟩, by simp only [List.length_append, List.length_cons, List.length_nil] at hlen ⊢; omega⟩, by simp⟩, ?_⟩
          (focus (refine ⟨_, _, gh_close (t := 0) (ts := [2]) (l := ScO most nw next o t) ⟨⟨_, _, rfl⟩, ?_, by simp⟩, [0, 5], rfl, ?_⟩; all_goals (refine ⟨?_, ?_, ?_⟩ <;> simp only [go_sem, List.range, List.range.loop, List.nodup_cons, List.nodup_nil, List.mem_cons, List.not_mem_nil, or_false, or_self, decide_true, decide_false, Int.reduceToNat, Nat.min_eq_left, Nat.min_eq_right, Int.reducePow, Nat.reducePow, Int.reduceLE, Int.reduceLT, Int.reduceMul, Int.reduceAdd, Int.reduceSub, Int.reduceNeg, Bool.not_true, Bool.not_false, Bool.not_not, ↓reduceIte, Nat.reduceAdd, Nat.reduceSub, Nat.reduceMul, Nat.reduceEqDiff, reduceCtorEq, Nat.reduceLT, Nat.reduceLeDiff, Nat.reduceGT]); (try any_goals (refine ⟨?_, ?_⟩)); (try any_goals (with_reducible rfl))))
        · have e4 : dueO nw o (x :: t) = dueO nw o t := by
            unfold dueO; rw [List.takeWhile_cons]; simp only [dueW, d1, if_true, List.filter_cons, hkg, Int.toNat_natCast, hb, Bool.not_true, Bool.false_eq_true, if_false]
          (have zx1 := @d1; have zx2 := @hkg; have zx3 := @hgt; have zx4 := @hb; have zx5 := @hx0; have zx6 := @hp0; have zx7 := @Int.toNat_natCast; all_goals (try ((first | (with_reducible refine wp_id ?_) | (with_reducible refine does_id ?_) | (with_reducible refine ops_id ?_)); refine walk ?_; (repeat' (first | exact trivial | with_reducible refine And.intro ?_ ?_)); all_goals (repeat (first | (with_reducible refine ImpB.mk fun hb => ?_) | (with_reducible refine ImpK.mk fun hK => ?_) | (with_reducible refine ImpF.mk fun hF => ?_) | (with_reducible refine ImpQ.mk fun hp => ?_) | (with_reducible refine AllE.mk fun p => ?_) | (with_reducible refine AllR.mk fun rest => ?_) | (with_reducible refine AllK.mk fun K => ?_))))); repeat' (with_reducible refine And.intro ?_ ?_))
          (all_goals first | exact Int.natCast_nonneg _ | exact Int.ofNat_lt.2 (by assumption) | assumption | omega | exact Nat.le_refl _ | (exfalso; simp at hb; done) | (simp only [go_sem, decide_true, decide_false, Int.reduceToNat, Nat.min_eq_left, Nat.min_eq_right, Int.reducePow, Nat.reducePow, Int.reduceLE, Int.reduceLT, Int.reduceMul, Int.reduceAdd, Int.reduceSub, Int.reduceNeg, Bool.not_true, Bool.not_false, Bool.not_not, ↓reduceIte, Nat.reduceAdd, Nat.reduceSub, Nat.reduceMul, Nat.reduceEqDiff, reduceCtorEq, Nat.reduceLT, Nat.reduceLeDiff, Nat.reduceGT]; done) | (unfold capM; omega) | (simp only [List.length_drop, List.length_take, List.length_append, List.length_cons, List.length_nil]; omega) | skip)
          refine ⟨(t, out), ⟨⟨by rw [e1, e4], by rw [e2, e3], ⟨d ++ [x], by rw [hd]; simp⟩, by simp only [List.length_cons] at hlen ⊢; omega⟩, by simp⟩, ?_⟩
          (focus (refine ⟨_, _, gh_close (t := 0) (ts := [2]) (l := ScO most nw next o t) ⟨⟨_, _, rfl⟩, ?_, by simp⟩, [0, 1], rfl, ?_⟩; all_goals (refine ⟨?_, ?_, ?_⟩ <;> simp only [go_sem, List.range, List.range.loop, List.nodup_cons, List.nodup_nil, List.mem_cons, List.not_mem_nil, or_false, or_self, decide_true, decide_false, Int.reduceToNat, Nat.min_eq_left, Nat.min_eq_right, Int.reducePow, Nat.reducePow, Int.reduceLE, Int.reduceLT, Int.reduceMul, Int.reduceAdd, Int.reduceSub, Int.reduceNeg, Bool.not_true, Bool.not_false, Bool.not_not, ↓reduceIte, Nat.reduceAdd, Nat.reduceSub, Nat.reduceMul, Nat.reduceEqDiff, reduceCtorEq, Nat.reduceLT, Nat.reduceLeDiff, Nat.reduceGT]); (try any_goals (refine ⟨?_, ?_⟩)); (try any_goals (with_reducible rfl))))
      · have d1 : decide (x.time ≤ nw) = false := decide_eq_false c1
        have e3 : dueR nw (x :: t) = x :: t := by unfold dueR; rw [List.dropWhile_cons]; simp only [dueW, d1, Bool.false_eq_true, if_false]
        have e4 : dueO nw o (x :: t) = [] := by unfold dueO; rw [List.takeWhile_cons]; simp only [dueW, d1, Bool.false_eq_true, if_false, List.filter_nil]
        rw [e4, List.append_nil] at e1
        (have zx1 := @d1; have zx2 := @hx0; have zx3 := @hp0; all_goals (try ((first | (with_reducible refine wp_id ?_) | (with_reducible refine does_id ?_) | (with_reducible refine ops_id ?_)); refine walk ?_; (repeat' (first | exact trivial | with_reducible refine And.intro ?_ ?_)); all_goals (repeat (first | (with_reducible refine ImpB.mk fun hb => ?_) | (with_reducible refine ImpK.mk fun hK => ?_) | (with_reducible refine ImpF.mk fun hF => ?_) | (with_reducible refine ImpQ.mk fun hp => ?_) | (with_reducible refine AllE.mk fun p => ?_) | (with_reducible refine AllR.mk fun rest => ?_) | (with_reducible refine AllK.mk fun K => ?_))))); repeat' (with_reducible refine And.intro ?_ ?_))
        (all_goals first | exact Int.natCast_nonneg _ | exact Int.ofNat_lt.2 (by assumption) | assumption | omega | exact Nat.le_refl _ | (exfalso; simp at hb; done) | (simp only [go_sem, decide_true, decide_false, Int.reduceToNat, Nat.min_eq_left, Nat.min_eq_right, Int.reducePow, Nat.reducePow, Int.reduceLE, Int.reduceLT, Int.reduceMul, Int.reduceAdd, Int.reduceSub, Int.reduceNeg, Bool.not_true, Bool.not_false, Bool.not_not, ↓reduceIte, Nat.reduceAdd, Nat.reduceSub, Nat.reduceMul, Nat.reduceEqDiff, reduceCtorEq, Nat.reduceLT, Nat.reduceLeDiff, Nat.reduceGT]; done) | (unfold capM; omega) | (simp only [List.length_drop, List.length_take, List.length_append, List.length_cons, List.length_nil]; omega) | skip)
        rw [e1, e2, e3]
        (focus (refine ⟨_, _, gh_close (t := 0) (ts := [2]) (l := ScO most nw next o (x :: t)) ⟨⟨_, _, rfl⟩, ?_, by simp⟩, [0, 1], rfl, ?_⟩; all_goals (refine ⟨?_, ?_, ?_⟩ <;> simp only [go_sem, List.range, List.range.loop, List.nodup_cons, List.nodup_nil, List.mem_cons, List.not_mem_nil, or_false, or_self, decide_true, decide_false, Int.reduceToNat, Nat.min_eq_left, Nat.min_eq_right, Int.reducePow, Nat.reducePow, Int.reduceLE, Int.reduceLT, Int.reduceMul, Int.reduceAdd, Int.reduceSub, Int.reduceNeg, Bool.not_true, Bool.not_false, Bool.not_not, ↓reduceIte, Nat.reduceAdd, Nat.reduceSub, Nat.reduceMul, Nat.reduceEqDiff, reduceCtorEq, Nat.reduceLT, Nat.reduceLeDiff, Nat.reduceGT]); (try any_goals (refine ⟨?_, ?_⟩)); (try any_goals (with_reducible rfl))))
  · exact ⟨rfl, rfl, ⟨[], rfl⟩, by simp⟩
  · (focus (refine ⟨_, _, Gh.refl, [0, 1], rfl, ?_⟩; (refine ⟨?_, ?_, ?_⟩ <;> simp only [go_sem, List.range, List.range.loop, List.nodup_cons, List.nodup_nil, List.mem_cons, List.not_mem_nil, or_false, or_self, decide_true, decide_false, Int.reduceToNat, Nat.min_eq_left, Nat.min_eq_right, Int.reducePow, Nat.reducePow, Int.reduceLE, Int.reduceLT, Int.reduceMul, Int.reduceAdd, Int.reduceSub, Int.reduceNeg, Bool.not_true, Bool.not_false, Bool.not_not, ↓reduceIte, Nat.reduceAdd, Nat.reduceSub, Nat.reduceMul, Nat.reduceEqDiff, reduceCtorEq, Nat.reduceLT, Nat.reduceLeDiff, Nat.reduceGT]); (try any_goals (refine ⟨?_, ?_⟩)); (try any_goals (with_reducible rfl))))
theorem c_sdue {h : List Ch} {K : KT} {u : Nat} {most now next n : Int} {o : List Bool} {l : List Ent} (H : K (.sl h.length .ent 0 (dueO (passT now n) o l).length) (h.set u (.pack (ScO most (passT now n) next o (dueR (passT now n) l))) ++ [.rows .ent (dueO (passT now n) o l)])) (o1 : hth h u = .pack (ScO most now next o l)) (s1 : l.length ≤ 1000000) (s2 : smallE l) (s3 : grpE l) : Does Try.prog 18 [.ptr u 0, .int .i64 n] h K :=
  frame_obj (ret' := .sl h.length .ent 0 (dueO (passT now n) o l).length) (b_sdue most now next o l n s1 s2 s3) o1 (by simp) (fitC_pack _) (br_cons (br_ptr rfl) (br_cons br_int br_nil)) (.inl rfl) (fun _ => rfl) (fun _ => rfl) (by simp [renA, rhoC]) H
abbrev i_sdue := Ctr.mk (i := 0) (g := 18) @c_sdue
attribute [instance] i_sdue
end Go.V
