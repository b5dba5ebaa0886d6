/-
  schedule: the object; New, ok, pass, sort.
  schedule: Insert, Delete, Enable, Entries.
  schedule: Delete, Enable, Clone, Entries.
-/
import Derived.Test.YtnhhgmoadpiklaaPart20
set_option linter.unusedVariables false
set_option linter.unusedSimpArgs false
set_option maxRecDepth 100000
set_option maxHeartbeats 4000000
namespace Go.V
open Go.Proofs
def scC (most now next : Int) (o : List Bool) (g n : Nat) : List AV := [.bool true, .int .i64 most, .int .i64 now, .int .i64 next, .bool (o.getD 0 false), .bool (o.getD 1 false), .bool (o.getD 2 false), .bool (o.getD 3 false), .bool (o.getD 4 false), .bool (o.getD 5 false), .bool (o.getD 6 false), .bool (o.getD 7 false), .bool (o.getD 8 false), .bool (o.getD 9 false), .bool (o.getD 10 false), .bool (o.getD 11 false), .bool (o.getD 12 false), .bool (o.getD 13 false), .bool (o.getD 14 false), .bool (o.getD 15 false), .sl g .ent 0 n]
/-- a schedule: capacity, time, the next number, disabled groups, entries -/
def ScO (most now next : Int) (o : List Bool) (l : List Ent) : List Ch := [.cells (scC most now next o 1 l.length), .rows .ent l]
attribute [go_sem] ScO scC
def off0 : List Bool := List.replicate 16 false
section
attribute [local go_sem] off0
theorem b_snew (most : Int) : DoesK Try.prog 0 10 [.int .i64 most] [] (EndF 0 (.ptr 0 0) [.pack (ScO (min (max most 0) 256) 0 1 off0 [])]) := by
  refine DoesK.close ?_
  refine w_body (rs := [.tmp 2]) (tm := [.int .i64 most, .any, .any, .any, .any, .any, .any, .any]) fn_10 rfl rfl rfl rfl fun R hR => ?_
  (all_goals (try ((first | (with_reducible refine wp_id ?_) | (with_reducible refine does_id ?_) | (with_reducible refine ops_id ?_)); refine walk ?_; (repeat' (first | exact trivial | with_reducible refine And.intro ?_ ?_)); all_goals (repeat (first | (with_reducible refine ImpB.mk fun hb => ?_) | (with_reducible refine ImpK.mk fun hK => ?_) | (with_reducible refine ImpF.mk fun hF => ?_) | (with_reducible refine ImpQ.mk fun hp => ?_) | (with_reducible refine AllE.mk fun p => ?_) | (with_reducible refine AllR.mk fun rest => ?_) | (with_reducible refine AllK.mk fun K => ?_))))); repeat' (with_reducible refine And.intro ?_ ?_))
  refine ⟨_, _, Gh.trans (gh_adoptC (t := 0) (i := 20) .ent rfl trivial) (gh_close (t := 0) (ts := [1]) (l := ScO (min (max most 0) 256) 0 1 off0 []) ⟨⟨_, _, rfl⟩, ?fc, by simp⟩), [0], rfl, ?ft⟩
  case' fc => (refine ⟨?_, ?_, ?_⟩ <;> simp only [go_sem, List.range, List.range.loop, List.nodup_cons, List.nodup_nil, List.mem_cons, List.not_mem_nil, or_false, or_self, decide_true, decide_false, Int.reduceToNat, Nat.min_eq_left, Nat.min_eq_right, Int.reducePow, Nat.reducePow, Int.reduceLE, Int.reduceLT, Int.reduceMul, Int.reduceAdd, Int.reduceSub, Int.reduceNeg, Bool.not_true, Bool.not_false, Bool.not_not, ↓reduceIte, Nat.reduceAdd, Nat.reduceSub, Nat.reduceMul, Nat.reduceEqDiff, reduceCtorEq, Nat.reduceLT, Nat.reduceLeDiff, Nat.reduceGT])
  case' ft => (refine ⟨?_, ?_, ?_⟩ <;> simp only [go_sem, List.range, List.range.loop, List.nodup_cons, List.nodup_nil, List.mem_cons, List.not_mem_nil, or_false, or_self, decide_true, decide_false, Int.reduceToNat, Nat.min_eq_left, Nat.min_eq_right, Int.reducePow, Nat.reducePow, Int.reduceLE, Int.reduceLT, Int.reduceMul, Int.reduceAdd, Int.reduceSub, Int.reduceNeg, Bool.not_true, Bool.not_false, Bool.not_not, ↓reduceIte, Nat.reduceAdd, Nat.reduceSub, Nat.reduceMul, Nat.reduceEqDiff, reduceCtorEq, Nat.reduceLT, Nat.reduceLeDiff, Nat.reduceGT])
  all_goals first | rfl | (simp; done) | decide
end
theorem c_snew {h : List Ch} {K : KT} {most : Int} (H : K (.ptr h.length 0) (h ++ [.pack (ScO (min (max most 0) 256) 0 1 off0 [])])) : Does Try.prog 10 [.int .i64 most] h K :=
  frame_new (b_snew most) (br_cons br_int br_nil) (.inl rfl) (fun _ => rfl) (by simp [renA, rhoC]) H
abbrev i_snew := Ctr.mk (i := 0) (g := 10) @c_snew
attribute [instance] i_snew
section
variable (most now next : Int) (o : List Bool) (l : List Ent)
theorem b_sok : DoesK Try.prog 1 36 [.ptr 0 0] [.pack (ScO most now next o l)] (EndF 1 (.bool true) ([.pack (ScO most now next o l)] ++ [])) := by
  refine DoesK.close ?_
  refine w_body (rs := [.tmp 2]) (tm := [.ptr 0 0, .any, .any, .any, .any, .any, .any, .any, .any, .any, .any]) fn_36 rfl rfl rfl rfl fun R hR => ?_
  (all_goals (try ((first | (with_reducible refine wp_id ?_) | (with_reducible refine does_id ?_) | (with_reducible refine ops_id ?_)); refine walk ?_; (repeat' (first | exact trivial | with_reducible refine And.intro ?_ ?_)); all_goals (repeat (first | (with_reducible refine ImpB.mk fun hb => ?_) | (with_reducible refine ImpK.mk fun hK => ?_) | (with_reducible refine ImpF.mk fun hF => ?_) | (with_reducible refine ImpQ.mk fun hp => ?_) | (with_reducible refine AllE.mk fun p => ?_) | (with_reducible refine AllR.mk fun rest => ?_) | (with_reducible refine AllK.mk fun K => ?_))))); repeat' (with_reducible refine And.intro ?_ ?_))
  (focus (refine ⟨_, _, gh_close (t := 0) (ts := [1]) (l := ScO most now next o l) ⟨⟨_, _, rfl⟩, ?_, by simp⟩, [0], rfl, ?_⟩; all_goals (refine ⟨?_, ?_, ?_⟩ <;> simp only [go_sem, List.range, List.range.loop, List.nodup_cons, List.nodup_nil, List.mem_cons, List.not_mem_nil, or_false, or_self, decide_true, decide_false, Int.reduceToNat, Nat.min_eq_left, Nat.min_eq_right, Int.reducePow, Nat.reducePow, Int.reduceLE, Int.reduceLT, Int.reduceMul, Int.reduceAdd, Int.reduceSub, Int.reduceNeg, Bool.not_true, Bool.not_false, Bool.not_not, ↓reduceIte, Nat.reduceAdd, Nat.reduceSub, Nat.reduceMul, Nat.reduceEqDiff, reduceCtorEq, Nat.reduceLT, Nat.reduceLeDiff, Nat.reduceGT]); (try any_goals (refine ⟨?_, ?_⟩)); (try any_goals (with_reducible rfl))))
end
theorem c_sok {h : List Ch} {K : KT} {t : Nat} {most now next : Int} {o : List Bool} {l : List Ent} (H : K (.bool true) h) (o1 : hth h t = .pack (ScO most now next o l)) : Does Try.prog 36 [.ptr t 0] h K :=
  frame_look (b_sok most now next o l) o1 (by simp) (fitC_pack _) (br_cons (br_ptr rfl) br_nil) (.inl rfl) (fun _ => rfl) rfl H
abbrev i_sok := Ctr.mk (i := 0) (g := 36) @c_sok
attribute [instance] i_sok
/-- the time, as the calls gave it -/
def passT (now n : Int) : Int := if now < n ∧ n ≤ 1099511627776 then n else now
theorem b_spass (most now next : Int) (o : List Bool) (l : List Ent) (n : Int) : DoesK Try.prog 1 38 [.ptr 0 0, .int .i64 n] [.pack (ScO most now next o l)] (EndF 1 (.tup []) ([.pack (ScO most (passT now n) next o l)] ++ [])) := by
  refine DoesK.close ?_
  by_cases c1 : now < n
  · have d1 : decide (now < n) = true := decide_eq_true c1
    by_cases c2 : n ≤ 1099511627776
    · have d2 : decide (n ≤ 1099511627776) = true := decide_eq_true c2
      have e : passT now n = n := if_pos ⟨c1, c2⟩
      rw [e]
      refine w_body (rs := []) (tm := [.ptr 0 0, .int .i64 n, .any, .any, .any, .any, .any, .any, .any, .any, .any, .any, .any, .any, .any, .any, .any, .any]) fn_38 rfl rfl rfl rfl fun R hR => ?_
      (have zx1 := @d1; have zx2 := @d2; all_goals (try ((first | (with_reducible refine wp_id ?_) | (with_reducible refine does_id ?_) | (with_reducible refine ops_id ?_)); refine walk ?_; (repeat' (first | exact trivial | with_reducible refine And.intro ?_ ?_)); all_goals (repeat (first | (with_reducible refine ImpB.mk fun hb => ?_) | (with_reducible refine ImpK.mk fun hK => ?_) | (with_reducible refine ImpF.mk fun hF => ?_) | (with_reducible refine ImpQ.mk fun hp => ?_) | (with_reducible refine AllE.mk fun p => ?_) | (with_reducible refine AllR.mk fun rest => ?_) | (with_reducible refine AllK.mk fun K => ?_))))); repeat' (with_reducible refine And.intro ?_ ?_))
      (focus (refine ⟨_, _, gh_close (t := 0) (ts := [1]) (l := ScO most n next o l) ⟨⟨_, _, rfl⟩, ?_, by simp⟩, [0], rfl, ?_⟩; all_goals (refine ⟨?_, ?_, ?_⟩ <;> simp only [go_sem, List.range, List.range.loop, List.nodup_cons, List.nodup_nil, List.mem_cons, List.not_mem_nil, or_false, or_self, decide_true, decide_false, Int.reduceToNat, Nat.min_eq_left, Nat.min_eq_right, Int.reducePow, Nat.reducePow, Int.reduceLE, Int.reduceLT, Int.reduceMul, Int.reduceAdd, Int.reduceSub, Int.reduceNeg, Bool.not_true, Bool.not_false, Bool.not_not, ↓reduceIte, Nat.reduceAdd, Nat.reduceSub, Nat.reduceMul, Nat.reduceEqDiff, reduceCtorEq, Nat.reduceLT, Nat.reduceLeDiff, Nat.reduceGT]); (try any_goals (refine ⟨?_, ?_⟩)); (try any_goals (with_reducible rfl))))
    · have d2 : decide (n ≤ 1099511627776) = false := decide_eq_false c2
      have e : passT now n = now := if_neg fun q => c2 q.2
      rw [e]
      refine w_body (rs := []) (tm := [.ptr 0 0, .int .i64 n, .any, .any, .any, .any, .any, .any, .any, .any, .any, .any, .any, .any, .any, .any, .any, .any]) fn_38 rfl rfl rfl rfl fun R hR => ?_
      (have zx1 := @d1; have zx2 := @d2; all_goals (try ((first | (with_reducible refine wp_id ?_) | (with_reducible refine does_id ?_) | (with_reducible refine ops_id ?_)); refine walk ?_; (repeat' (first | exact trivial | with_reducible refine And.intro ?_ ?_)); all_goals (repeat (first | (with_reducible refine ImpB.mk fun hb => ?_) | (with_reducible refine ImpK.mk fun hK => ?_) | (with_reducible refine ImpF.mk fun hF => ?_) | (with_reducible refine ImpQ.mk fun hp => ?_) | (with_reducible refine AllE.mk fun p => ?_) | (with_reducible refine AllR.mk fun rest => ?_) | (with_reducible refine AllK.mk fun K => ?_))))); repeat' (with_reducible refine And.intro ?_ ?_))
      (focus (refine ⟨_, _, gh_close (t := 0) (ts := [1]) (l := ScO most now next o l) ⟨⟨_, _, rfl⟩, ?_, by simp⟩, [0], rfl, ?_⟩; all_goals (refine ⟨?_, ?_, ?_⟩ <;> simp only [go_sem, List.range, List.range.loop, List.nodup_cons, List.nodup_nil, List.mem_cons, List.not_mem_nil, or_false, or_self, decide_true, decide_false, Int.reduceToNat, Nat.min_eq_left, Nat.min_eq_right, Int.reducePow, Nat.reducePow, Int.reduceLE, Int.reduceLT, Int.reduceMul, Int.reduceAdd, Int.reduceSub, Int.reduceNeg, Bool.not_true, Bool.not_false, Bool.not_not, ↓reduceIte, Nat.reduceAdd, Nat.reduceSub, Nat.reduceMul, Nat.reduceEqDiff, reduceCtorEq, Nat.reduceLT, Nat.reduceLeDiff, Nat.reduceGT]); (try any_goals (refine ⟨?_, ?_⟩)); (try any_goals (with_reducible rfl))))
  · have d1 : decide (now < n) = false := decide_eq_false c1
    have e : passT now n = now := if_neg fun q => c1 q.1
    rw [e]
    refine w_body (rs := []) (tm := [.ptr 0 0, .int .i64 n, .any, .any, .any, .any, .any, .any, .any, .any, .any, .any, .any, .any, .any, .any, .any, .any]) fn_38 rfl rfl rfl rfl fun R hR => ?_
    (have zx1 := @d1; all_goals (try ((first | (with_reducible refine wp_id ?_) | (with_reducible refine does_id ?_) | (with_reducible refine ops_id ?_)); refine walk ?_; (repeat' (first | exact trivial | with_reducible refine And.intro ?_ ?_)); all_goals (repeat (first | (with_reducible refine ImpB.mk fun hb => ?_) | (with_reducible refine ImpK.mk fun hK => ?_) | (with_reducible refine ImpF.mk fun hF => ?_) | (with_reducible refine ImpQ.mk fun hp => ?_) | (with_reducible refine AllE.mk fun p => ?_) | (with_reducible refine AllR.mk fun rest => ?_) | (with_reducible refine AllK.mk fun K => ?_))))); repeat' (with_reducible refine And.intro ?_ ?_))
    (focus (refine ⟨_, _, gh_close (t := 0) (ts := [1]) (l := ScO most now next o l) ⟨⟨_, _, rfl⟩, ?_, by simp⟩, [0], rfl, ?_⟩; all_goals (refine ⟨?_, ?_, ?_⟩ <;> simp only [go_sem, List.range, List.range.loop, List.nodup_cons, List.nodup_nil, List.mem_cons, List.not_mem_nil, or_false, or_self, decide_true, decide_false, Int.reduceToNat, Nat.min_eq_left, Nat.min_eq_right, Int.reducePow, Nat.reducePow, Int.reduceLE, Int.reduceLT, Int.reduceMul, Int.reduceAdd, Int.reduceSub, Int.reduceNeg, Bool.not_true, Bool.not_false, Bool.not_not, ↓reduceIte, Nat.reduceAdd, Nat.reduceSub, Nat.reduceMul, Nat.reduceEqDiff, reduceCtorEq, Nat.reduceLT, Nat.reduceLeDiff, Nat.reduceGT]); (try any_goals (refine ⟨?_, ?_⟩)); (try any_goals (with_reducible rfl))))
theorem c_spass {h : List Ch} {K : KT} {t : Nat} {most now next n : Int} {o : List Bool} {l : List Ent} (H : K (.tup []) (h.set t (.pack (ScO most (passT now n) next o l)))) (o1 : hth h t = .pack (ScO most now next o l)) : Does Try.prog 38 [.ptr t 0, .int .i64 n] h K :=
  frame_obj0 (b_spass most now next o l n) o1 (by simp) (fitC_pack _) (br_cons (br_ptr rfl) (br_cons br_int br_nil)) (.inl rfl) (fun _ => rfl) rfl H
/-! ### The order of execution -/
abbrev i_spass := Ctr.mk (i := 0) (g := 38) @c_spass
attribute [instance] i_spass
def srtE (l : List Ent) : List Ent := l.mergeSort fun x y => !befE y x
theorem befE_tot (x y : Ent) : befE x y = true ∨ befE y x = true ∨ (x.time = y.time ∧ x.id = y.id) := by
  unfold befE
  simp only [decide_eq_true_eq]
  omega
theorem srt_perm (l : List Ent) : (srtE l).Perm l := List.mergeSort_perm _ _
theorem srt_len (l : List Ent) : (srtE l).length = l.length := (srt_perm l).length_eq
theorem srt_pw (l : List Ent) : (srtE l).Pairwise fun x y => befE y x = false := by
  have h := List.pairwise_mergeSort (le := fun x y : Ent => !befE y x) (fun a b c h1 h2 => by
    simp only [befE, Bool.not_eq_true', decide_eq_false_iff_not] at *; omega) (fun a b => by
    simp only [befE, Bool.or_eq_true, Bool.not_eq_true', decide_eq_false_iff_not]; omega) l
  exact h.imp fun h => by simpa using h
theorem pw_uniq {l m : List Ent} (hp : l.Perm m) (hn : (l.map (·.id)).Nodup) (h1 : l.Pairwise fun x y => befE y x = false) (h2 : m.Pairwise fun x y => befE y x = false) : l = m := by
  refine List.Perm.eq_of_pairwise (le := fun x y => befE y x = false) (fun a b ha hb q1 q2 => ?_) h1 h2 hp
  have ht := befE_tot a b
  rw [q1, q2] at ht
  simp only [Bool.false_eq_true, false_or] at ht
  have hb' : b ∈ l := hp.mem_iff.2 hb
  rcases List.getElem_of_mem ha with ⟨i, hi, rfl⟩
  rcases List.getElem_of_mem hb' with ⟨j, hj, rfl⟩
  have hid := ht.2
  by_cases e : i = j
  · subst e; rfl
  · exfalso
    rw [List.nodup_iff_pairwise_ne, List.pairwise_map, List.pairwise_iff_getElem] at hn
    rcases Nat.lt_or_gt_of_ne e with q | q
    · exact hn i j hi hj q hid
    · exact hn j i hj hi q hid.symm
theorem srt_eq {l m : List Ent} (hp : m.Perm l) (hn : (l.map (·.id)).Nodup) (h : m.Pairwise fun x y => befE y x = false) : m = srtE l :=
  pw_uniq (hp.trans (srt_perm l).symm) (((hp.map _).nodup_iff).2 hn) h (srt_pw l)
theorem b_ssort (most now next : Int) (o : List Bool) (l : List Ent) (hl : l.length ≤ 1099511627776) (hn : (l.map (·.id)).Nodup) : DoesK Try.prog 1 41 [.ptr 0 0] [.pack (ScO most now next o l)] (EndF 1 (.tup []) ([.pack (ScO most now next o (srtE l))] ++ [])) := by
  refine DoesK.close ?_
  have hsl := srt_len l
  refine w_body (rs := []) (tm := [.ptr 0 0, .any, .any, .any, .any, .any, .any]) fn_41 rfl rfl rfl rfl fun R hR => ?_
  (all_goals (try ((first | (with_reducible refine wp_id ?_) | (with_reducible refine does_id ?_) | (with_reducible refine ops_id ?_)); refine walk ?_; (repeat' (first | exact trivial | with_reducible refine And.intro ?_ ?_)); all_goals (repeat (first | (with_reducible refine ImpB.mk fun hb => ?_) | (with_reducible refine ImpK.mk fun hK => ?_) | (with_reducible refine ImpF.mk fun hF => ?_) | (with_reducible refine ImpQ.mk fun hp => ?_) | (with_reducible refine AllE.mk fun p => ?_) | (with_reducible refine AllR.mk fun rest => ?_) | (with_reducible refine AllK.mk fun K => ?_))))); repeat' (with_reducible refine And.intro ?_ ?_))
  refine c_sortE (xs := l) (fun ys hp hs => ?_) rfl rfl hl
  have hy := srt_eq hp hn hs
  subst hy
  refine hK _ _ ?_
  (intro tm' e'; simp only [putA, List.set_cons_succ, List.set_cons_zero] at e'; subst e')
  simp only [go_sem, decide_true, decide_false, Int.reduceToNat, Nat.min_eq_left, Nat.min_eq_right, Int.reducePow, Nat.reducePow, Int.reduceLE, Int.reduceLT, Int.reduceMul, Int.reduceAdd, Int.reduceSub, Int.reduceNeg, Bool.not_true, Bool.not_false, Bool.not_not, ↓reduceIte, Nat.reduceAdd, Nat.reduceSub, Nat.reduceMul, Nat.reduceEqDiff, reduceCtorEq, Nat.reduceLT, Nat.reduceLeDiff, Nat.reduceGT]
  (all_goals (try ((first | (with_reducible refine wp_id ?_) | (with_reducible refine does_id ?_) | (with_reducible refine ops_id ?_)); refine walk ?_; (repeat' (first | exact trivial | with_reducible refine And.intro ?_ ?_)); all_goals (repeat (first | (with_reducible refine ImpB.mk fun hb => ?_) | (with_reducible refine ImpK.mk fun hK => ?_) | (with_reducible refine ImpF.mk fun hF => ?_) | (with_reducible refine ImpQ.mk fun hp => ?_) | (with_reducible refine AllE.mk fun p => ?_) | (with_reducible refine AllR.mk fun rest => ?_) | (with_reducible refine AllK.mk fun K => ?_))))); repeat' (with_reducible refine And.intro ?_ ?_))
  (focus (refine ⟨_, _, gh_close (t := 0) (ts := [1]) (l := ScO most now next o (srtE l)) ⟨⟨_, _, rfl⟩, ?_, by simp⟩, [0], rfl, ?_⟩; all_goals (refine ⟨?_, ?_, ?_⟩ <;> simp only [go_sem, List.range, List.range.loop, List.nodup_cons, List.nodup_nil, List.mem_cons, List.not_mem_nil, or_false, or_self, decide_true, decide_false, Int.reduceToNat, Nat.min_eq_left, Nat.min_eq_right, Int.reducePow, Nat.reducePow, Int.reduceLE, Int.reduceLT, Int.reduceMul, Int.reduceAdd, Int.reduceSub, Int.reduceNeg, Bool.not_true, Bool.not_false, Bool.not_not, ↓reduceIte, Nat.reduceAdd, Nat.reduceSub, Nat.reduceMul, Nat.reduceEqDiff, reduceCtorEq, Nat.reduceLT, Nat.reduceLeDiff, Nat.reduceGT]); (try any_goals (refine ⟨?_, ?_⟩)); (try any_goals (with_reducible rfl))))
  all_goals first | exact hsl.symm | exact hsl | rfl | skip
theorem c_ssort {h : List Ch} {K : KT} {t : Nat} {most now next : Int} {o : List Bool} {l : List Ent} (H : K (.tup []) (h.set t (.pack (ScO most now next o (srtE l))))) (o1 : hth h t = .pack (ScO most now next o l)) (s1 : l.length ≤ 1099511627776) (s2 : (l.map (·.id)).Nodup) : Does Try.prog 41 [.ptr t 0] h K :=
  frame_obj0 (b_ssort most now next o l s1 s2) o1 (by simp) (fitC_pack _) (br_cons (br_ptr rfl) br_nil) (.inl rfl) (fun _ => rfl) rfl H
end Go.V

set_option maxRecDepth 100000
set_option maxHeartbeats 8000000
namespace Go.V
open Go.Proofs
def insErr (most now next : Int) (n : Nat) (t g : Int) (c : Cmd) : Int :=
  if ¬ (0 ≤ g ∧ g < 16) ∨ validC c = false then 1 else if t ≤ now ∨ 1099511627776 < t then 10 else if most ≤ n ∨ 2147483648 < next then 7 else 0
def insNext (e next : Int) : Int := if e = 0 then next + 1 else next
def insIdE (e next : Int) : Int := if e = 0 then next else 0
def insLst (e : Int) (l : List Ent) (x : Ent) : List Ent := if e = 0 then srtE (l ++ [x]) else l
theorem ins_bad {most now next : Int} {n : Nat} {t g : Int} {c : Cmd} {l : List Ent} {x : Ent} {e : Int} (h : insErr most now next n t g c = e) (he : e ≠ 0) : insNext e next = next ∧ insIdE e next = 0 ∧ insLst e l x = l := by
  unfold insNext insIdE insLst
  rw [if_neg he, if_neg he, if_neg he]
  exact ⟨rfl, rfl, rfl⟩
theorem shut_sc {h : List Ch} {t g n : Nat} {most now next : Int} {o : List Bool} {l : List Ent} (o0 : hth h t = .cells (scC most now next o g n)) (o1 : hth h g = .rows .ent l) (e : n = l.length) : Shut h t [g] (ScO most now next o l) := by
  subst e
  have h1 : t < h.length := hth_lt (by rw [o0]; simp)
  have h2 : g < h.length := hth_lt (by rw [o1]; simp)
  have hne : t ≠ g := fun e => by subst e; rw [o0] at o1; cases o1
  refine ⟨⟨_, _, rfl⟩, ?_, by simp [hne]⟩
  simp only [ScO, fitHs, o0, o1, fitC, asM_self]
  exact ⟨h1, by simp [scC, fitL, fitA], h2, rfl, trivial⟩
theorem c_ssort_o {h : List Ch} {K : KT} {t g n : Nat} {most now next : Int} {off : List Bool} {l : List Ent} (H : K (.tup []) ((closeH h t [g] (ScO most now next off l)).set t (.pack (ScO most now next off (srtE l))))) (o : hth h t = .cells (scC most now next off g n)) (o1 : hth h g = .rows .ent l) (s1 : l.length ≤ 1099511627776) (s2 : (l.map (·.id)).Nodup) (s3 : n = l.length) : Does Try.prog 41 [.ptr t 0] h K := by
  refine Does.ghost (gh_close (shut_sc o o1 s3)) (c_ssort H ?_ s1 s2)
  have h1 : t < h.length := hth_lt (by rw [o]; simp)
  unfold closeH
  rw [hth_set_eq (by rw [goneH_len]; exact h1)]
abbrev i_ssort_o := Ctr.mk (i := 1) (g := 41) @c_ssort_o
attribute [instance] i_ssort_o
theorem b_sins (most now next : Int) (o : List Bool) (l : List Ent) (n t g : Int) (c : Cmd) (hl : l.length ≤ 1000000) (hn : ((l ++ [(⟨next, t, g, c⟩ : Ent)]).map (·.id)).Nodup) (hnx : 0 ≤ next ∧ next ≤ 9223372036854775806) (h1 : c.args.length ≤ 1099511627776) (h2 : c.data.length ≤ 1099511627776) :
    DoesK Try.prog 1 17 [.ptr 0 0, .int .i64 n, .int .i64 t, .int .i64 g, .agg (cmdL c)] [.pack (ScO most now next o l)]
      (EndF 1 (.tup [.int .i64 (insIdE (insErr most (passT now n) next l.length t g c) next), .int .i64 (insErr most (passT now n) next l.length t g c)]) ([.pack (ScO most (passT now n) (insNext (insErr most (passT now n) next l.length t g c) next) o (insLst (insErr most (passT now n) next l.length t g c) l ⟨next, t, g, c⟩))] ++ [])) := by
  refine DoesK.close ?_
  obtain ⟨nw, hnw⟩ : ∃ nw, passT now n = nw := ⟨_, rfl⟩
  rw [hnw]
  by_cases c1 : 0 ≤ g ∧ g < 16
  · have d1 : (decide (0 ≤ g) && decide (g < 16)) = true := by rw [decide_eq_true c1.1, decide_eq_true c1.2]; rfl
    cases hv : validC c
    · have e0 : insErr most nw next l.length t g c = 1 := by unfold insErr; rw [if_pos (.inr hv)]
      have hb := ins_bad (l := l) (x := ⟨next, t, g, c⟩) e0 (by decide)
      rw [e0, hb.1, hb.2.1, hb.2.2]
      refine w_body (rs := [.tmp 10, .tmp 11]) (tm := [.ptr 0 0, .int .i64 n, .int .i64 t, .int .i64 g, .agg (cmdL c), .any, .any, .any, .any, .any, .any, .any, .any, .any, .any, .any, .any, .any, .any, .any, .any, .any, .any, .any, .any, .any, .any, .any, .any, .any, .any, .any, .any, .any, .any, .any, .any, .any, .any, .any, .any, .any, .any, .any, .any, .any, .any, .any, .any, .any, .any, .any, .any, .any, .any, .any, .any, .any, .any, .any, .any, .any, .any, .any, .any, .any, .any, .any, .any, .any, .any, .any, .any, .any, .any, .any, .any, .any, .any, .any, .any, .any, .any, .any, .any, .any]) fn_17 rfl rfl rfl rfl fun R hR => ?_
      (have zx1 := @hnw; have zx2 := @d1; have zx3 := @hv; all_goals (try ((first | (with_reducible refine wp_id ?_) | (with_reducible refine does_id ?_) | (with_reducible refine ops_id ?_)); refine walk ?_; (repeat' (first | exact trivial | with_reducible refine And.intro ?_ ?_)); all_goals (repeat (first | (with_reducible refine ImpB.mk fun hb => ?_) | (with_reducible refine ImpK.mk fun hK => ?_) | (with_reducible refine ImpF.mk fun hF => ?_) | (with_reducible refine ImpQ.mk fun hp => ?_) | (with_reducible refine AllE.mk fun p => ?_) | (with_reducible refine AllR.mk fun rest => ?_) | (with_reducible refine AllK.mk fun K => ?_))))); repeat' (with_reducible refine And.intro ?_ ?_))
      (all_goals first | exact Int.natCast_nonneg _ | exact Int.ofNat_lt.2 (by assumption) | assumption | omega | exact Nat.le_refl _ | (exfalso; simp at hb; done) | (simp only [go_sem, decide_true, decide_false, Int.reduceToNat, Nat.min_eq_left, Nat.min_eq_right, Int.reducePow, Nat.reducePow, Int.reduceLE, Int.reduceLT, Int.reduceMul, Int.reduceAdd, Int.reduceSub, Int.reduceNeg, Bool.not_true, Bool.not_false, Bool.not_not, ↓reduceIte, Nat.reduceAdd, Nat.reduceSub, Nat.reduceMul, Nat.reduceEqDiff, reduceCtorEq, Nat.reduceLT, Nat.reduceLeDiff, Nat.reduceGT]; done) | (unfold capM; omega) | (simp only [List.length_drop, List.length_take, List.length_append, List.length_cons, List.length_nil]; omega) | skip)
      (focus (refine ⟨_, _, Gh.refl, [0], rfl, ?_⟩; (refine ⟨?_, ?_, ?_⟩ <;> simp only [go_sem, List.range, List.range.loop, List.nodup_cons, List.nodup_nil, List.mem_cons, List.not_mem_nil, or_false, or_self, decide_true, decide_false, Int.reduceToNat, Nat.min_eq_left, Nat.min_eq_right, Int.reducePow, Nat.reducePow, Int.reduceLE, Int.reduceLT, Int.reduceMul, Int.reduceAdd, Int.reduceSub, Int.reduceNeg, Bool.not_true, Bool.not_false, Bool.not_not, ↓reduceIte, Nat.reduceAdd, Nat.reduceSub, Nat.reduceMul, Nat.reduceEqDiff, reduceCtorEq, Nat.reduceLT, Nat.reduceLeDiff, Nat.reduceGT]); (try any_goals (refine ⟨?_, ?_⟩)); (try any_goals (with_reducible rfl))))
    · have hc1 : ¬ (¬ (0 ≤ g ∧ g < 16) ∨ validC c = false) := by rw [hv]; rintro (q | q); exact q c1; cases q
      by_cases c2 : t ≤ nw
      · have d2 : decide (t ≤ nw) = true := decide_eq_true c2
        have e0 : insErr most nw next l.length t g c = 10 := by unfold insErr; rw [if_neg hc1, if_pos (.inl c2)]
        have hb := ins_bad (l := l) (x := ⟨next, t, g, c⟩) e0 (by decide)
        rw [e0, hb.1, hb.2.1, hb.2.2]
        refine w_body (rs := [.tmp 10, .tmp 11]) (tm := [.ptr 0 0, .int .i64 n, .int .i64 t, .int .i64 g, .agg (cmdL c), .any, .any, .any, .any, .any, .any, .any, .any, .any, .any, .any, .any, .any, .any, .any, .any, .any, .any, .any, .any, .any, .any, .any, .any, .any, .any, .any, .any, .any, .any, .any, .any, .any, .any, .any, .any, .any, .any, .any, .any, .any, .any, .any, .any, .any, .any, .any, .any, .any, .any, .any, .any, .any, .any, .any, .any, .any, .any, .any, .any, .any, .any, .any, .any, .any, .any, .any, .any, .any, .any, .any, .any, .any, .any, .any, .any, .any, .any, .any, .any, .any]) fn_17 rfl rfl rfl rfl fun R hR => ?_
        (have zx1 := @hnw; have zx2 := @d1; have zx3 := @hv; have zx4 := @d2; all_goals (try ((first | (with_reducible refine wp_id ?_) | (with_reducible refine does_id ?_) | (with_reducible refine ops_id ?_)); refine walk ?_; (repeat' (first | exact trivial | with_reducible refine And.intro ?_ ?_)); all_goals (repeat (first | (with_reducible refine ImpB.mk fun hb => ?_) | (with_reducible refine ImpK.mk fun hK => ?_) | (with_reducible refine ImpF.mk fun hF => ?_) | (with_reducible refine ImpQ.mk fun hp => ?_) | (with_reducible refine AllE.mk fun p => ?_) | (with_reducible refine AllR.mk fun rest => ?_) | (with_reducible refine AllK.mk fun K => ?_))))); repeat' (with_reducible refine And.intro ?_ ?_))
        (all_goals first | exact Int.natCast_nonneg _ | exact Int.ofNat_lt.2 (by assumption) | assumption | omega | exact Nat.le_refl _ | (exfalso; simp at hb; done) | (simp only [go_sem, decide_true, decide_false, Int.reduceToNat, Nat.min_eq_left, Nat.min_eq_right, Int.reducePow, Nat.reducePow, Int.reduceLE, Int.reduceLT, Int.reduceMul, Int.reduceAdd, Int.reduceSub, Int.reduceNeg, Bool.not_true, Bool.not_false, Bool.not_not, ↓reduceIte, Nat.reduceAdd, Nat.reduceSub, Nat.reduceMul, Nat.reduceEqDiff, reduceCtorEq, Nat.reduceLT, Nat.reduceLeDiff, Nat.reduceGT]; done) | (unfold capM; omega) | (simp only [List.length_drop, List.length_take, List.length_append, List.length_cons, List.length_nil]; omega) | skip)
        (focus (refine ⟨_, _, gh_close (t := 0) (ts := [2]) (l := ScO most nw next o l) ⟨⟨_, _, rfl⟩, ?_, by simp⟩, [0], rfl, ?_⟩; all_goals (refine ⟨?_, ?_, ?_⟩ <;> simp only [go_sem, List.range, List.range.loop, List.nodup_cons, List.nodup_nil, List.mem_cons, List.not_mem_nil, or_false, or_self, decide_true, decide_false, Int.reduceToNat, Nat.min_eq_left, Nat.min_eq_right, Int.reducePow, Nat.reducePow, Int.reduceLE, Int.reduceLT, Int.reduceMul, Int.reduceAdd, Int.reduceSub, Int.reduceNeg, Bool.not_true, Bool.not_false, Bool.not_not, ↓reduceIte, Nat.reduceAdd, Nat.reduceSub, Nat.reduceMul, Nat.reduceEqDiff, reduceCtorEq, Nat.reduceLT, Nat.reduceLeDiff, Nat.reduceGT]); (try any_goals (refine ⟨?_, ?_⟩)); (try any_goals (with_reducible rfl))))
      · have d2 : decide (t ≤ nw) = false := decide_eq_false c2
        by_cases c3 : 1099511627776 < t
        · have d3 : decide (1099511627776 < t) = true := decide_eq_true c3
          have e0 : insErr most nw next l.length t g c = 10 := by unfold insErr; rw [if_neg hc1, if_pos (.inr c3)]
          have hb := ins_bad (l := l) (x := ⟨next, t, g, c⟩) e0 (by decide)
          rw [e0, hb.1, hb.2.1, hb.2.2]
          refine w_body (rs := [.tmp 10, .tmp 11]) (tm := [.ptr 0 0, .int .i64 n, .int .i64 t, .int .i64 g, .agg (cmdL c), .any, .any, .any, .any, .any, .any, .any, .any, .any, .any, .any, .any, .any, .any, .any, .any, .any, .any, .any, .any, .any, .any, .any, .any, .any, .any, .any, .any, .any, .any, .any, .any, .any, .any, .any, .any, .any, .any, .any, .any, .any, .any, .any, .any, .any, .any, .any, .any, .any, .any, .any, .any, .any, .any, .any, .any, .any, .any, .any, .any, .any, .any, .any, .any, .any, .any, .any, .any, .any, .any, .any, .any, .any, .any, .any, .any, .any, .any, .any, .any, .any]) fn_17 rfl rfl rfl rfl fun R hR => ?_
          (have zx1 := @hnw; have zx2 := @d1; have zx3 := @hv; have zx4 := @d2; have zx5 := @d3; all_goals (try ((first | (with_reducible refine wp_id ?_) | (with_reducible refine does_id ?_) | (with_reducible refine ops_id ?_)); refine walk ?_; (repeat' (first | exact trivial | with_reducible refine And.intro ?_ ?_)); all_goals (repeat (first | (with_reducible refine ImpB.mk fun hb => ?_) | (with_reducible refine ImpK.mk fun hK => ?_) | (with_reducible refine ImpF.mk fun hF => ?_) | (with_reducible refine ImpQ.mk fun hp => ?_) | (with_reducible refine AllE.mk fun p => ?_) | (with_reducible refine AllR.mk fun rest => ?_) | (with_reducible refine AllK.mk fun K => ?_))))); repeat' (with_reducible refine And.intro ?_ ?_))
          (all_goals first | exact Int.natCast_nonneg _ | exact Int.ofNat_lt.2 (by assumption) | assumption | omega | exact Nat.le_refl _ | (exfalso; simp at hb; done) | (simp only [go_sem, decide_true, decide_false, Int.reduceToNat, Nat.min_eq_left, Nat.min_eq_right, Int.reducePow, Nat.reducePow, Int.reduceLE, Int.reduceLT, Int.reduceMul, Int.reduceAdd, Int.reduceSub, Int.reduceNeg, Bool.not_true, Bool.not_false, Bool.not_not, ↓reduceIte, Nat.reduceAdd, Nat.reduceSub, Nat.reduceMul, Nat.reduceEqDiff, reduceCtorEq, Nat.reduceLT, Nat.reduceLeDiff, Nat.reduceGT]; done) | (unfold capM; omega) | (simp only [List.length_drop, List.length_take, List.length_append, List.length_cons, List.length_nil]; omega) | skip)
          (focus (refine ⟨_, _, gh_close (t := 0) (ts := [2]) (l := ScO most nw next o l) ⟨⟨_, _, rfl⟩, ?_, by simp⟩, [0], rfl, ?_⟩; all_goals (refine ⟨?_, ?_, ?_⟩ <;> simp only [go_sem, List.range, List.range.loop, List.nodup_cons, List.nodup_nil, List.mem_cons, List.not_mem_nil, or_false, or_self, decide_true, decide_false, Int.reduceToNat, Nat.min_eq_left, Nat.min_eq_right, Int.reducePow, Nat.reducePow, Int.reduceLE, Int.reduceLT, Int.reduceMul, Int.reduceAdd, Int.reduceSub, Int.reduceNeg, Bool.not_true, Bool.not_false, Bool.not_not, ↓reduceIte, Nat.reduceAdd, Nat.reduceSub, Nat.reduceMul, Nat.reduceEqDiff, reduceCtorEq, Nat.reduceLT, Nat.reduceLeDiff, Nat.reduceGT]); (try any_goals (refine ⟨?_, ?_⟩)); (try any_goals (with_reducible rfl))))
        · have d3 : decide (1099511627776 < t) = false := decide_eq_false c3
          have hc2 : ¬ (t ≤ nw ∨ 1099511627776 < t) := by omega
          by_cases c4 : most ≤ l.length
          · have d4 : decide (most ≤ (l.length : Int)) = true := decide_eq_true c4
            have e0 : insErr most nw next l.length t g c = 7 := by unfold insErr; rw [if_neg hc1, if_neg hc2, if_pos (.inl c4)]
            have hb := ins_bad (l := l) (x := ⟨next, t, g, c⟩) e0 (by decide)
            rw [e0, hb.1, hb.2.1, hb.2.2]
            refine w_body (rs := [.tmp 10, .tmp 11]) (tm := [.ptr 0 0, .int .i64 n, .int .i64 t, .int .i64 g, .agg (cmdL c), .any, .any, .any, .any, .any, .any, .any, .any, .any, .any, .any, .any, .any, .any, .any, .any, .any, .any, .any, .any, .any, .any, .any, .any, .any, .any, .any, .any, .any, .any, .any, .any, .any, .any, .any, .any, .any, .any, .any, .any, .any, .any, .any, .any, .any, .any, .any, .any, .any, .any, .any, .any, .any, .any, .any, .any, .any, .any, .any, .any, .any, .any, .any, .any, .any, .any, .any, .any, .any, .any, .any, .any, .any, .any, .any, .any, .any, .any, .any, .any, .any]) fn_17 rfl rfl rfl rfl fun R hR => ?_
            (have zx1 := @hnw; have zx2 := @d1; have zx3 := @hv; have zx4 := @d2; have zx5 := @d3; have zx6 := @d4; all_goals (try ((first | (with_reducible refine wp_id ?_) | (with_reducible refine does_id ?_) | (with_reducible refine ops_id ?_)); refine walk ?_; (repeat' (first | exact trivial | with_reducible refine And.intro ?_ ?_)); all_goals (repeat (first | (with_reducible refine ImpB.mk fun hb => ?_) | (with_reducible refine ImpK.mk fun hK => ?_) | (with_reducible refine ImpF.mk fun hF => ?_) | (with_reducible refine ImpQ.mk fun hp => ?_) | (with_reducible refine AllE.mk fun p => ?_) | (with_reducible refine AllR.mk fun rest => ?_) | (with_reducible refine AllK.mk fun K => ?_))))); repeat' (with_reducible refine And.intro ?_ ?_))
            (all_goals first | exact Int.natCast_nonneg _ | exact Int.ofNat_lt.2 (by assumption) | assumption | omega | exact Nat.le_refl _ | (exfalso; simp at hb; done) | (simp only [go_sem, decide_true, decide_false, Int.reduceToNat, Nat.min_eq_left, Nat.min_eq_right, Int.reducePow, Nat.reducePow, Int.reduceLE, Int.reduceLT, Int.reduceMul, Int.reduceAdd, Int.reduceSub, Int.reduceNeg, Bool.not_true, Bool.not_false, Bool.not_not, ↓reduceIte, Nat.reduceAdd, Nat.reduceSub, Nat.reduceMul, Nat.reduceEqDiff, reduceCtorEq, Nat.reduceLT, Nat.reduceLeDiff, Nat.reduceGT]; done) | (unfold capM; omega) | (simp only [List.length_drop, List.length_take, List.length_append, List.length_cons, List.length_nil]; omega) | skip)
            (focus (refine ⟨_, _, gh_close (t := 0) (ts := [2]) (l := ScO most nw next o l) ⟨⟨_, _, rfl⟩, ?_, by simp⟩, [0], rfl, ?_⟩; all_goals (refine ⟨?_, ?_, ?_⟩ <;> simp only [go_sem, List.range, List.range.loop, List.nodup_cons, List.nodup_nil, List.mem_cons, List.not_mem_nil, or_false, or_self, decide_true, decide_false, Int.reduceToNat, Nat.min_eq_left, Nat.min_eq_right, Int.reducePow, Nat.reducePow, Int.reduceLE, Int.reduceLT, Int.reduceMul, Int.reduceAdd, Int.reduceSub, Int.reduceNeg, Bool.not_true, Bool.not_false, Bool.not_not, ↓reduceIte, Nat.reduceAdd, Nat.reduceSub, Nat.reduceMul, Nat.reduceEqDiff, reduceCtorEq, Nat.reduceLT, Nat.reduceLeDiff, Nat.reduceGT]); (try any_goals (refine ⟨?_, ?_⟩)); (try any_goals (with_reducible rfl))))
          · have d4 : decide (most ≤ (l.length : Int)) = false := decide_eq_false c4
            by_cases c5 : 2147483648 < next
            · have d5 : decide (2147483648 < next) = true := decide_eq_true c5
              have e0 : insErr most nw next l.length t g c = 7 := by unfold insErr; rw [if_neg hc1, if_neg hc2, if_pos (.inr c5)]
              have hb := ins_bad (l := l) (x := ⟨next, t, g, c⟩) e0 (by decide)
              rw [e0, hb.1, hb.2.1, hb.2.2]
              refine w_body (rs := [.tmp 10, .tmp 11]) (tm := [.ptr 0 0, .int .i64 n, .int .i64 t, .int .i64 g, .agg (cmdL c), .any, .any, .any, .any, .any, .any, .any, .any, .any, .any, .any, .any, .any, .any, .any, .any, .any, .any, .any, .any, .any, .any, .any, .any, .any, .any, .any, .any, .any, .any, .any, .any, .any, .any, .any, .any, .any, .any, .any, .any, .any, .any, .any, .any, .any, .any, .any, .any, .any, .any, .any, .any, .any, .any, .any, .any, .any, .any, .any, .any, .any, .any, .any, .any, .any, .any, .any, .any, .any, .any, .any, .any, .any, .any, .any, .any, .any, .any, .any, .any, .any]) fn_17 rfl rfl rfl rfl fun R hR => ?_
              (have zx1 := @hnw; have zx2 := @d1; have zx3 := @hv; have zx4 := @d2; have zx5 := @d3; have zx6 := @d4; have zx7 := @d5; all_goals (try ((first | (with_reducible refine wp_id ?_) | (with_reducible refine does_id ?_) | (with_reducible refine ops_id ?_)); refine walk ?_; (repeat' (first | exact trivial | with_reducible refine And.intro ?_ ?_)); all_goals (repeat (first | (with_reducible refine ImpB.mk fun hb => ?_) | (with_reducible refine ImpK.mk fun hK => ?_) | (with_reducible refine ImpF.mk fun hF => ?_) | (with_reducible refine ImpQ.mk fun hp => ?_) | (with_reducible refine AllE.mk fun p => ?_) | (with_reducible refine AllR.mk fun rest => ?_) | (with_reducible refine AllK.mk fun K => ?_))))); repeat' (with_reducible refine And.intro ?_ ?_))
              (all_goals first | exact Int.natCast_nonneg _ | exact Int.ofNat_lt.2 (by assumption) | assumption | omega | exact Nat.le_refl _ | (exfalso; simp at hb; done) | (simp only [go_sem, decide_true, decide_false, Int.reduceToNat, Nat.min_eq_left, Nat.min_eq_right, Int.reducePow, Nat.reducePow, Int.reduceLE, Int.reduceLT, Int.reduceMul, Int.reduceAdd, Int.reduceSub, Int.reduceNeg, Bool.not_true, Bool.not_false, Bool.not_not, ↓reduceIte, Nat.reduceAdd, Nat.reduceSub, Nat.reduceMul, Nat.reduceEqDiff, reduceCtorEq, Nat.reduceLT, Nat.reduceLeDiff, Nat.reduceGT]; done) | (unfold capM; omega) | (simp only [List.length_drop, List.length_take, List.length_append, List.length_cons, List.length_nil]; omega) | skip)
              (focus (refine ⟨_, _, gh_close (t := 0) (ts := [2]) (l := ScO most nw next o l) ⟨⟨_, _, rfl⟩, ?_, by simp⟩, [0], rfl, ?_⟩; all_goals (refine ⟨?_, ?_, ?_⟩ <;> simp only [go_sem, List.range, List.range.loop, List.nodup_cons, List.nodup_nil, List.mem_cons, List.not_mem_nil, or_false, or_self, decide_true, decide_false, Int.reduceToNat, Nat.min_eq_left, Nat.min_eq_right, Int.reducePow, Nat.reducePow, Int.reduceLE, Int.reduceLT, Int.reduceMul, Int.reduceAdd, Int.reduceSub, Int.reduceNeg, Bool.not_true, Bool.not_false, Bool.not_not, ↓reduceIte, Nat.reduceAdd, Nat.reduceSub, Nat.reduceMul, Nat.reduceEqDiff, reduceCtorEq, Nat.reduceLT, Nat.reduceLeDiff, Nat.reduceGT]); (try any_goals (refine ⟨?_, ?_⟩)); (try any_goals (with_reducible rfl))))
            · have d5 : decide (2147483648 < next) = false := decide_eq_false c5
              have e0 : insErr most nw next l.length t g c = 0 := by unfold insErr; rw [if_neg hc1, if_neg hc2, if_neg (by omega)]
              have e1 : insNext 0 next = next + 1 := rfl
              have e2 : insIdE 0 next = next := rfl
              have e3 : insLst 0 l ⟨next, t, g, c⟩ = srtE (l ++ [⟨next, t, g, c⟩]) := rfl
              have hw : IntKind.i64.wrap (next + 1) = next + 1 := wrap_i64 _ (by omega) (by omega)
              have hll : (l ++ [(⟨next, t, g, c⟩ : Ent)]).length ≤ 1099511627776 := by rw [List.length_append]; simp; omega
              rw [e0, e1, e2, e3]
              refine w_body (rs := [.tmp 10, .tmp 11]) (tm := [.ptr 0 0, .int .i64 n, .int .i64 t, .int .i64 g, .agg (cmdL c), .any, .any, .any, .any, .any, .any, .any, .any, .any, .any, .any, .any, .any, .any, .any, .any, .any, .any, .any, .any, .any, .any, .any, .any, .any, .any, .any, .any, .any, .any, .any, .any, .any, .any, .any, .any, .any, .any, .any, .any, .any, .any, .any, .any, .any, .any, .any, .any, .any, .any, .any, .any, .any, .any, .any, .any, .any, .any, .any, .any, .any, .any, .any, .any, .any, .any, .any, .any, .any, .any, .any, .any, .any, .any, .any, .any, .any, .any, .any, .any, .any]) fn_17 rfl rfl rfl rfl fun R hR => ?_
              (have zx1 := @hnw; have zx2 := @d1; have zx3 := @hv; have zx4 := @d2; have zx5 := @d3; have zx6 := @d4; have zx7 := @d5; have zx8 := @hw; all_goals (try ((first | (with_reducible refine wp_id ?_) | (with_reducible refine does_id ?_) | (with_reducible refine ops_id ?_)); refine walk ?_; (repeat' (first | exact trivial | with_reducible refine And.intro ?_ ?_)); all_goals (repeat (first | (with_reducible refine ImpB.mk fun hb => ?_) | (with_reducible refine ImpK.mk fun hK => ?_) | (with_reducible refine ImpF.mk fun hF => ?_) | (with_reducible refine ImpQ.mk fun hp => ?_) | (with_reducible refine AllE.mk fun p => ?_) | (with_reducible refine AllR.mk fun rest => ?_) | (with_reducible refine AllK.mk fun K => ?_))))); repeat' (with_reducible refine And.intro ?_ ?_))
              (all_goals first | exact Int.natCast_nonneg _ | exact Int.ofNat_lt.2 (by assumption) | assumption | omega | exact Nat.le_refl _ | (exfalso; simp at hb; done) | (simp only [go_sem, decide_true, decide_false, Int.reduceToNat, Nat.min_eq_left, Nat.min_eq_right, Int.reducePow, Nat.reducePow, Int.reduceLE, Int.reduceLT, Int.reduceMul, Int.reduceAdd, Int.reduceSub, Int.reduceNeg, Bool.not_true, Bool.not_false, Bool.not_not, ↓reduceIte, Nat.reduceAdd, Nat.reduceSub, Nat.reduceMul, Nat.reduceEqDiff, reduceCtorEq, Nat.reduceLT, Nat.reduceLeDiff, Nat.reduceGT]; done) | (unfold capM; omega) | (simp only [List.length_drop, List.length_take, List.length_append, List.length_cons, List.length_nil]; omega) | skip)
              (focus (refine ⟨_, _, Gh.refl, [0], rfl, ?_⟩; (refine ⟨?_, ?_, ?_⟩ <;> simp only [go_sem, List.range, List.range.loop, List.nodup_cons, List.nodup_nil, List.mem_cons, List.not_mem_nil, or_false, or_self, decide_true, decide_false, Int.reduceToNat, Nat.min_eq_left, Nat.min_eq_right, Int.reducePow, Nat.reducePow, Int.reduceLE, Int.reduceLT, Int.reduceMul, Int.reduceAdd, Int.reduceSub, Int.reduceNeg, Bool.not_true, Bool.not_false, Bool.not_not, ↓reduceIte, Nat.reduceAdd, Nat.reduceSub, Nat.reduceMul, Nat.reduceEqDiff, reduceCtorEq, Nat.reduceLT, Nat.reduceLeDiff, Nat.reduceGT]); (try any_goals (refine ⟨?_, ?_⟩)); (try any_goals (with_reducible rfl))))
  · have e0 : insErr most nw next l.length t g c = 1 := by unfold insErr; rw [if_pos (.inl c1)]
    have hb := ins_bad (l := l) (x := ⟨next, t, g, c⟩) e0 (by decide)
    rw [e0, hb.1, hb.2.1, hb.2.2]
    have d1 : (decide (0 ≤ g) && decide (g < 16)) = false := by
      rw [Bool.eq_false_iff]; intro q; simp at q; exact c1 q
    refine w_body (rs := [.tmp 10, .tmp 11]) (tm := [.ptr 0 0, .int .i64 n, .int .i64 t, .int .i64 g, .agg (cmdL c), .any, .any, .any, .any, .any, .any, .any, .any, .any, .any, .any, .any, .any, .any, .any, .any, .any, .any, .any, .any, .any, .any, .any, .any, .any, .any, .any, .any, .any, .any, .any, .any, .any, .any, .any, .any, .any, .any, .any, .any, .any, .any, .any, .any, .any, .any, .any, .any, .any, .any, .any, .any, .any, .any, .any, .any, .any, .any, .any, .any, .any, .any, .any, .any, .any, .any, .any, .any, .any, .any, .any, .any, .any, .any, .any, .any, .any, .any, .any, .any, .any]) fn_17 rfl rfl rfl rfl fun R hR => ?_
    (have zx1 := @hnw; have zx2 := @d1; all_goals (try ((first | (with_reducible refine wp_id ?_) | (with_reducible refine does_id ?_) | (with_reducible refine ops_id ?_)); refine walk ?_; (repeat' (first | exact trivial | with_reducible refine And.intro ?_ ?_)); all_goals (repeat (first | (with_reducible refine ImpB.mk fun hb => ?_) | (with_reducible refine ImpK.mk fun hK => ?_) | (with_reducible refine ImpF.mk fun hF => ?_) | (with_reducible refine ImpQ.mk fun hp => ?_) | (with_reducible refine AllE.mk fun p => ?_) | (with_reducible refine AllR.mk fun rest => ?_) | (with_reducible refine AllK.mk fun K => ?_))))); repeat' (with_reducible refine And.intro ?_ ?_))
    (all_goals first | exact Int.natCast_nonneg _ | exact Int.ofNat_lt.2 (by assumption) | assumption | omega | exact Nat.le_refl _ | (exfalso; simp at hb; done) | (simp only [go_sem, decide_true, decide_false, Int.reduceToNat, Nat.min_eq_left, Nat.min_eq_right, Int.reducePow, Nat.reducePow, Int.reduceLE, Int.reduceLT, Int.reduceMul, Int.reduceAdd, Int.reduceSub, Int.reduceNeg, Bool.not_true, Bool.not_false, Bool.not_not, ↓reduceIte, Nat.reduceAdd, Nat.reduceSub, Nat.reduceMul, Nat.reduceEqDiff, reduceCtorEq, Nat.reduceLT, Nat.reduceLeDiff, Nat.reduceGT]; done) | (unfold capM; omega) | (simp only [List.length_drop, List.length_take, List.length_append, List.length_cons, List.length_nil]; omega) | skip)
    (focus (refine ⟨_, _, Gh.refl, [0], rfl, ?_⟩; (refine ⟨?_, ?_, ?_⟩ <;> simp only [go_sem, List.range, List.range.loop, List.nodup_cons, List.nodup_nil, List.mem_cons, List.not_mem_nil, or_false, or_self, decide_true, decide_false, Int.reduceToNat, Nat.min_eq_left, Nat.min_eq_right, Int.reducePow, Nat.reducePow, Int.reduceLE, Int.reduceLT, Int.reduceMul, Int.reduceAdd, Int.reduceSub, Int.reduceNeg, Bool.not_true, Bool.not_false, Bool.not_not, ↓reduceIte, Nat.reduceAdd, Nat.reduceSub, Nat.reduceMul, Nat.reduceEqDiff, reduceCtorEq, Nat.reduceLT, Nat.reduceLeDiff, Nat.reduceGT]); (try any_goals (refine ⟨?_, ?_⟩)); (try any_goals (with_reducible rfl))))
theorem c_sins0 {h : List Ch} {K : KT} {u : Nat} {most now next : Int} {o : List Bool} {l : List Ent} {n t g x y z : Int} (H : K (.tup [.int .i64 (insIdE (insErr most (passT now n) next l.length t g ⟨x, y, z, [], []⟩) next), .int .i64 (insErr most (passT now n) next l.length t g ⟨x, y, z, [], []⟩)]) (h.set u (.pack (ScO most (passT now n) (insNext (insErr most (passT now n) next l.length t g ⟨x, y, z, [], []⟩) next) o (insLst (insErr most (passT now n) next l.length t g ⟨x, y, z, [], []⟩) l ⟨next, t, g, ⟨x, y, z, [], []⟩⟩))))) (o1 : hth h u = .pack (ScO most now next o l)) (s1 : l.length ≤ 1000000) (s2 : ((l ++ [(⟨next, t, g, ⟨x, y, z, [], []⟩⟩ : Ent)]).map (·.id)).Nodup) (s3 : 0 ≤ next ∧ next ≤ 9223372036854775806) : Does Try.prog 17 [.ptr u 0, .int .i64 n, .int .i64 t, .int .i64 g, .agg [.int .i64 x, .int .i64 y, .int .i64 z, .lit (.slice none 0 0), .lit (.slice none 0 0)]] h K :=
  frame_obj0 (b_sins most now next o l n t g ⟨x, y, z, [], []⟩ s1 s2 s3 (by simp) (by simp)) o1 (by simp) (fitC_pack _) (br_cons (br_ptr rfl) (br_cons br_int (br_cons br_int (br_cons br_int (br_cons (br_agg (br_cons br_int (br_cons br_int (br_cons br_int (br_cons br_ro0 (br_cons br_ro0 br_nil)))))) br_nil))))) (.inl rfl) (fun _ => rfl) rfl H
end Go.V

set_option maxRecDepth 100000
set_option maxHeartbeats 8000000
namespace Go.V
open Go.Proofs
theorem ixE_app {p : Ent → Bool} {x : Ent} {l2 : List Ent} (hx : p x = true) : ∀ {l1 : List Ent} {k : Nat}, (∀ y ∈ l1, p y = false) → ixE p (l1 ++ x :: l2) k = ((k + l1.length : Nat) : Int)
  | [], k, _ => by rw [List.nil_append, ixE, if_pos hx]; rfl
  | y :: l1, k, h => by
    rw [List.cons_append, ixE, h y (by simp)]
    simp only [Bool.false_eq_true, if_false]
    rw [ixE_app hx fun z hz => h z (by simp [hz]), List.length_cons]
    congr 1; omega
def delB (n : Int) (l : List Ent) : Bool := l.any (idB n)
def delE (n : Int) (l : List Ent) : Int := if delB n l then 0 else 8
def delL (n : Int) (l : List Ent) : List Ent := l.filter fun x => !idB n x
theorem idB_eq (n : Int) (x : Ent) : idB n x = true ↔ x.id = n := by unfold idB; simp
theorem first_at {p : Ent → Bool} : ∀ {l : List Ent}, l.any p = true → ∃ l1 x l2, l = l1 ++ x :: l2 ∧ p x = true ∧ ∀ y ∈ l1, p y = false
  | [], h => by simp at h
  | y :: l, h => by
    cases hp : p y
    · obtain ⟨l1, x, l2, e, h1, h2⟩ := first_at (l := l) (by simpa [hp] using h)
      refine ⟨y :: l1, x, l2, by rw [e]; rfl, h1, ?_⟩
      intro z hz
      rcases List.mem_cons.1 hz with rfl | hz
      · exact hp
      · exact h2 z hz
    · exact ⟨[], y, l, rfl, hp, by simp⟩
theorem del_split {n : Int} {l1 l2 : List Ent} {x : Ent} (hx : idB n x = true) (h1 : ∀ y ∈ l1, idB n y = false) (hn : ((l1 ++ x :: l2).map (·.id)).Nodup) : delL n (l1 ++ x :: l2) = l1 ++ l2 := by
  unfold delL
  rw [List.filter_append, List.filter_cons, hx]
  simp only [Bool.not_true, Bool.false_eq_true, if_false]
  have ha : l1.filter (fun x => !idB n x) = l1 := List.filter_eq_self.2 fun y hy => by rw [h1 y hy]; rfl
  have hb : l2.filter (fun x => !idB n x) = l2 := List.filter_eq_self.2 fun y hy => by
    cases hc : idB n y
    · rfl
    · exfalso
      have e : y.id = x.id := by rw [(idB_eq n y).1 hc, (idB_eq n x).1 hx]
      rw [List.map_append, List.map_cons, List.nodup_append] at hn
      have := (List.nodup_cons.1 hn.2.1).1
      exact this (List.mem_map.2 ⟨y, hy, e⟩)
  rw [ha, hb]
theorem b_sdelete (most now next : Int) (o : List Bool) (l : List Ent) (n : Int) (hl : l.length ≤ 1000000) (hn : (l.map (·.id)).Nodup) : DoesK Try.prog 1 19 [.ptr 0 0, .int .i64 n] [.pack (ScO most now next o l)]
    (EndF 1 (.int .i64 (delE n l)) ([.pack (ScO most now next o (delL n l))] ++ [])) := by
  refine DoesK.close ?_
  cases hb : delB n l
  · have h0 : ∀ x ∈ l, idB n x = false := by simpa [delB] using hb
    have e1 : delE n l = 8 := by unfold delE; rw [hb]; rfl
    have e2 : delL n l = l := List.filter_eq_self.2 fun y hy => by rw [h0 y hy]; rfl
    have e3 : ixE (idB n) l 0 = -1 := ixE_none h0
    rw [e1, e2]
    refine w_body (rs := [.tmp 4]) (tm := [.ptr 0 0, .int .i64 n, .any, .any, .any, .any, .any, .any, .any, .any, .any, .any, .any, .any, .any, .any, .any, .any, .any, .any, .any, .any, .any, .any, .any, .any, .any, .any]) fn_19 rfl rfl rfl rfl fun R hR => ?_
    (have zx1 := @e3; all_goals (try ((first | (with_reducible refine wp_id ?_) | (with_reducible refine does_id ?_) | (with_reducible refine ops_id ?_)); refine walk ?_; (repeat' (first | exact trivial | with_reducible refine And.intro ?_ ?_)); all_goals (repeat (first | (with_reducible refine ImpB.mk fun hb => ?_) | (with_reducible refine ImpK.mk fun hK => ?_) | (with_reducible refine ImpF.mk fun hF => ?_) | (with_reducible refine ImpQ.mk fun hp => ?_) | (with_reducible refine AllE.mk fun p => ?_) | (with_reducible refine AllR.mk fun rest => ?_) | (with_reducible refine AllK.mk fun K => ?_))))); repeat' (with_reducible refine And.intro ?_ ?_))
    (all_goals first | exact Int.natCast_nonneg _ | exact Int.ofNat_lt.2 (by assumption) | assumption | omega | exact Nat.le_refl _ | (exfalso; simp at hb; done) | (simp only [go_sem, decide_true, decide_false, Int.reduceToNat, Nat.min_eq_left, Nat.min_eq_right, Int.reducePow, Nat.reducePow, Int.reduceLE, Int.reduceLT, Int.reduceMul, Int.reduceAdd, Int.reduceSub, Int.reduceNeg, Bool.not_true, Bool.not_false, Bool.not_not, ↓reduceIte, Nat.reduceAdd, Nat.reduceSub, Nat.reduceMul, Nat.reduceEqDiff, reduceCtorEq, Nat.reduceLT, Nat.reduceLeDiff, Nat.reduceGT]; done) | (unfold capM; omega) | (simp only [List.length_drop, List.length_take, List.length_append, List.length_cons, List.length_nil]; omega) | skip)
    all_goals first | omega | skip
    (focus (refine ⟨_, _, gh_close (t := 0) (ts := [2]) (l := ScO most now next o l) ⟨⟨_, _, rfl⟩, ?_, by simp⟩, [0], rfl, ?_⟩; all_goals (refine ⟨?_, ?_, ?_⟩ <;> simp only [go_sem, List.range, List.range.loop, List.nodup_cons, List.nodup_nil, List.mem_cons, List.not_mem_nil, or_false, or_self, decide_true, decide_false, Int.reduceToNat, Nat.min_eq_left, Nat.min_eq_right, Int.reducePow, Nat.reducePow, Int.reduceLE, Int.reduceLT, Int.reduceMul, Int.reduceAdd, Int.reduceSub, Int.reduceNeg, Bool.not_true, Bool.not_false, Bool.not_not, ↓reduceIte, Nat.reduceAdd, Nat.reduceSub, Nat.reduceMul, Nat.reduceEqDiff, reduceCtorEq, Nat.reduceLT, Nat.reduceLeDiff, Nat.reduceGT]); (try any_goals (refine ⟨?_, ?_⟩)); (try any_goals (with_reducible rfl))))
  · obtain ⟨l1, x, l2, hL, hx, h1⟩ := first_at hb
    have e1 : delE n l = 0 := by unfold delE; rw [hb]; rfl
    have e2 : delL n l = l1 ++ l2 := by rw [hL]; exact del_split hx h1 (hL ▸ hn)
    have e3 : ixE (idB n) l 0 = (l1.length : Int) := by rw [hL, ixE_app hx h1, Nat.zero_add]
    have e4 : decide ((l1.length : Int) < 0) = false := decide_eq_false (by omega)
    have hLl : l.length = l1.length + l2.length + 1 := by rw [hL]; simp; omega
    have e5 : IntKind.i64.wrap ((l1.length : Int) + 1) = ((l1.length + 1 : Nat) : Int) := wrap_i64 _ (by omega) (by omega)
    have e6 : List.take l1.length l ++ List.drop (l1.length + 1) l = l1 ++ l2 := by rw [hL]; simp
    rw [e1, e2]
    refine w_body (rs := [.tmp 4]) (tm := [.ptr 0 0, .int .i64 n, .any, .any, .any, .any, .any, .any, .any, .any, .any, .any, .any, .any, .any, .any, .any, .any, .any, .any, .any, .any, .any, .any, .any, .any, .any, .any]) fn_19 rfl rfl rfl rfl fun R hR => ?_
    (have zx1 := @e3; have zx2 := @e4; have zx3 := @e5; have zx4 := @e6; all_goals (try ((first | (with_reducible refine wp_id ?_) | (with_reducible refine does_id ?_) | (with_reducible refine ops_id ?_)); refine walk ?_; (repeat' (first | exact trivial | with_reducible refine And.intro ?_ ?_)); all_goals (repeat (first | (with_reducible refine ImpB.mk fun hb => ?_) | (with_reducible refine ImpK.mk fun hK => ?_) | (with_reducible refine ImpF.mk fun hF => ?_) | (with_reducible refine ImpQ.mk fun hp => ?_) | (with_reducible refine AllE.mk fun p => ?_) | (with_reducible refine AllR.mk fun rest => ?_) | (with_reducible refine AllK.mk fun K => ?_))))); repeat' (with_reducible refine And.intro ?_ ?_))
    (all_goals first | exact Int.natCast_nonneg _ | exact Int.ofNat_lt.2 (by assumption) | assumption | omega | exact Nat.le_refl _ | (exfalso; simp at hb; done) | (simp only [go_sem, decide_true, decide_false, Int.reduceToNat, Nat.min_eq_left, Nat.min_eq_right, Int.reducePow, Nat.reducePow, Int.reduceLE, Int.reduceLT, Int.reduceMul, Int.reduceAdd, Int.reduceSub, Int.reduceNeg, Bool.not_true, Bool.not_false, Bool.not_not, ↓reduceIte, Nat.reduceAdd, Nat.reduceSub, Nat.reduceMul, Nat.reduceEqDiff, reduceCtorEq, Nat.reduceLT, Nat.reduceLeDiff, Nat.reduceGT]; done) | (unfold capM; omega) | (simp only [List.length_drop, List.length_take, List.length_append, List.length_cons, List.length_nil]; omega) | skip)
    (focus (refine ⟨_, _, gh_close (t := 0) (ts := [2]) (l := ScO most now next o (l1 ++ l2)) ⟨⟨_, _, rfl⟩, ?_, by simp⟩, [0], rfl, ?_⟩; all_goals (refine ⟨?_, ?_, ?_⟩ <;> simp only [go_sem, List.range, List.range.loop, List.nodup_cons, List.nodup_nil, List.mem_cons, List.not_mem_nil, or_false, or_self, decide_true, decide_false, Int.reduceToNat, Nat.min_eq_left, Nat.min_eq_right, Int.reducePow, Nat.reducePow, Int.reduceLE, Int.reduceLT, Int.reduceMul, Int.reduceAdd, Int.reduceSub, Int.reduceNeg, Bool.not_true, Bool.not_false, Bool.not_not, ↓reduceIte, Nat.reduceAdd, Nat.reduceSub, Nat.reduceMul, Nat.reduceEqDiff, reduceCtorEq, Nat.reduceLT, Nat.reduceLeDiff, Nat.reduceGT]); (try any_goals (refine ⟨?_, ?_⟩)); (try any_goals (with_reducible rfl))))
theorem c_sdelete {h : List Ch} {K : KT} {u : Nat} {most now next : Int} {o : List Bool} {l : List Ent} {n : Int} (H : K (.int .i64 (delE n l)) (h.set u (.pack (ScO most now next o (delL n l))))) (o1 : hth h u = .pack (ScO most now next o l)) (s1 : l.length ≤ 1000000) (s2 : (l.map (·.id)).Nodup) : Does Try.prog 19 [.ptr u 0, .int .i64 n] h K :=
  frame_obj0 (b_sdelete most now next o l n s1 s2) o1 (by simp) (fitC_pack _) (br_cons (br_ptr rfl) (br_cons br_int br_nil)) (.inl rfl) (fun _ => rfl) rfl H
/-! ### Enable -/
def enaE (g : Int) : Int := if 0 ≤ g ∧ g < 16 then 0 else 1
def enaO (o : List Bool) (g : Int) (b : Bool) : List Bool := if 0 ≤ g ∧ g < 16 then o.set g.toNat (!b) else o
theorem scC_set {most now next : Int} {o : List Bool} {g n k : Nat} {b : Bool} (hk : k < 16) (ho : o.length = 16) : (scC most now next o g n).set (4 + k) (.bool b) = scC most now next (o.set k b) g n := by
  obtain ⟨o0, o1, o2, o3, o4, o5, o6, o7, o8, o9, oa, ob, oc, od, oe, of, rfl⟩ : ∃ o0 o1 o2 o3 o4 o5 o6 o7 o8 o9 oa ob oc od oe of, o = [o0, o1, o2, o3, o4, o5, o6, o7, o8, o9, oa, ob, oc, od, oe, of] := by
    match o, ho with
    | [o0, o1, o2, o3, o4, o5, o6, o7, o8, o9, oa, ob, oc, od, oe, of], _ => exact ⟨_, _, _, _, _, _, _, _, _, _, _, _, _, _, _, _, rfl⟩
  obtain rfl | rfl | rfl | rfl | rfl | rfl | rfl | rfl | rfl | rfl | rfl | rfl | rfl | rfl | rfl | rfl : k = 0 ∨ k = 1 ∨ k = 2 ∨ k = 3 ∨ k = 4 ∨ k = 5 ∨ k = 6 ∨ k = 7 ∨ k = 8 ∨ k = 9 ∨ k = 10 ∨ k = 11 ∨ k = 12 ∨ k = 13 ∨ k = 14 ∨ k = 15 := by omega
  all_goals rfl
theorem scC_get {most now next : Int} {o : List Bool} {g n k : Nat} (hk : k < 16) : nthA (scC most now next o g n) (4 + k) = .bool (o.getD k false) := by
  obtain rfl | rfl | rfl | rfl | rfl | rfl | rfl | rfl | rfl | rfl | rfl | rfl | rfl | rfl | rfl | rfl : k = 0 ∨ k = 1 ∨ k = 2 ∨ k = 3 ∨ k = 4 ∨ k = 5 ∨ k = 6 ∨ k = 7 ∨ k = 8 ∨ k = 9 ∨ k = 10 ∨ k = 11 ∨ k = 12 ∨ k = 13 ∨ k = 14 ∨ k = 15 := by omega
  all_goals rfl
theorem b_sena (most now next : Int) (o : List Bool) (l : List Ent) (g : Int) (b : Bool) (ho : o.length = 16) : DoesK Try.prog 1 21 [.ptr 0 0, .int .i64 g, .bool b] [.pack (ScO most now next o l)]
    (EndF 1 (.int .i64 (enaE g)) ([.pack (ScO most now next (enaO o g b) l)] ++ [])) := by
  refine DoesK.close ?_
  by_cases c1 : 0 ≤ g ∧ g < 16
  · have d1 : (decide (0 ≤ g) && decide (g < 16)) = true := by rw [decide_eq_true c1.1, decide_eq_true c1.2]; rfl
    have e1 : enaE g = 0 := if_pos c1
    have e2 : enaO o g b = o.set g.toNat (!b) := if_pos c1
    obtain ⟨k, hk, rfl⟩ : ∃ k : Nat, k < 16 ∧ g = (k : Int) := ⟨g.toNat, by omega, by omega⟩
    rw [e1, e2, Int.toNat_natCast]
    have hst := scC_set (most := most) (now := now) (next := next) (o := o) (g := 1) (n := l.length) (k := k) (b := !b) hk ho
    refine w_body (rs := [.tmp 6]) (tm := [.ptr 0 0, .int .i64 (k : Int), .bool b, .any, .any, .any, .any, .any, .any, .any, .any, .any, .any, .any, .any, .any, .any, .any, .any, .any, .any, .any]) fn_21 rfl rfl rfl rfl fun R hR => ?_
    simp only [scC] at hst
    (have zx1 := @d1; all_goals (try ((first | (with_reducible refine wp_id ?_) | (with_reducible refine does_id ?_) | (with_reducible refine ops_id ?_)); refine walk ?_; (repeat' (first | exact trivial | with_reducible refine And.intro ?_ ?_)); all_goals (repeat (first | (with_reducible refine ImpB.mk fun hb => ?_) | (with_reducible refine ImpK.mk fun hK => ?_) | (with_reducible refine ImpF.mk fun hF => ?_) | (with_reducible refine ImpQ.mk fun hp => ?_) | (with_reducible refine AllE.mk fun p => ?_) | (with_reducible refine AllR.mk fun rest => ?_) | (with_reducible refine AllK.mk fun K => ?_))))); repeat' (with_reducible refine And.intro ?_ ?_))
    · exact Int.natCast_nonneg _
    · exact_mod_cast hk
    · omega
    · rw [hst]
      (focus (refine ⟨_, _, gh_close (t := 0) (ts := [1]) (l := ScO most now next (o.set k (!b)) l) ⟨⟨_, _, rfl⟩, ?_, by simp⟩, [0], rfl, ?_⟩; all_goals (refine ⟨?_, ?_, ?_⟩ <;> simp only [go_sem, List.range, List.range.loop, List.nodup_cons, List.nodup_nil, List.mem_cons, List.not_mem_nil, or_false, or_self, decide_true, decide_false, Int.reduceToNat, Nat.min_eq_left, Nat.min_eq_right, Int.reducePow, Nat.reducePow, Int.reduceLE, Int.reduceLT, Int.reduceMul, Int.reduceAdd, Int.reduceSub, Int.reduceNeg, Bool.not_true, Bool.not_false, Bool.not_not, ↓reduceIte, Nat.reduceAdd, Nat.reduceSub, Nat.reduceMul, Nat.reduceEqDiff, reduceCtorEq, Nat.reduceLT, Nat.reduceLeDiff, Nat.reduceGT]); (try any_goals (refine ⟨?_, ?_⟩)); (try any_goals (with_reducible rfl))))
  · have d1 : (decide (0 ≤ g) && decide (g < 16)) = false := by
      rw [Bool.eq_false_iff]; intro q; simp at q; exact c1 q
    have e1 : enaE g = 1 := if_neg c1
    have e2 : enaO o g b = o := if_neg c1
    rw [e1, e2]
    refine w_body (rs := [.tmp 6]) (tm := [.ptr 0 0, .int .i64 g, .bool b, .any, .any, .any, .any, .any, .any, .any, .any, .any, .any, .any, .any, .any, .any, .any, .any, .any, .any, .any]) fn_21 rfl rfl rfl rfl fun R hR => ?_
    (have zx1 := @d1; all_goals (try ((first | (with_reducible refine wp_id ?_) | (with_reducible refine does_id ?_) | (with_reducible refine ops_id ?_)); refine walk ?_; (repeat' (first | exact trivial | with_reducible refine And.intro ?_ ?_)); all_goals (repeat (first | (with_reducible refine ImpB.mk fun hb => ?_) | (with_reducible refine ImpK.mk fun hK => ?_) | (with_reducible refine ImpF.mk fun hF => ?_) | (with_reducible refine ImpQ.mk fun hp => ?_) | (with_reducible refine AllE.mk fun p => ?_) | (with_reducible refine AllR.mk fun rest => ?_) | (with_reducible refine AllK.mk fun K => ?_))))); repeat' (with_reducible refine And.intro ?_ ?_))
    (focus (refine ⟨_, _, Gh.refl, [0], rfl, ?_⟩; (refine ⟨?_, ?_, ?_⟩ <;> simp only [go_sem, List.range, List.range.loop, List.nodup_cons, List.nodup_nil, List.mem_cons, List.not_mem_nil, or_false, or_self, decide_true, decide_false, Int.reduceToNat, Nat.min_eq_left, Nat.min_eq_right, Int.reducePow, Nat.reducePow, Int.reduceLE, Int.reduceLT, Int.reduceMul, Int.reduceAdd, Int.reduceSub, Int.reduceNeg, Bool.not_true, Bool.not_false, Bool.not_not, ↓reduceIte, Nat.reduceAdd, Nat.reduceSub, Nat.reduceMul, Nat.reduceEqDiff, reduceCtorEq, Nat.reduceLT, Nat.reduceLeDiff, Nat.reduceGT]); (try any_goals (refine ⟨?_, ?_⟩)); (try any_goals (with_reducible rfl))))
theorem c_sena {h : List Ch} {K : KT} {u : Nat} {most now next : Int} {o : List Bool} {l : List Ent} {g : Int} {b : Bool} (H : K (.int .i64 (enaE g)) (h.set u (.pack (ScO most now next (enaO o g b) l)))) (o1 : hth h u = .pack (ScO most now next o l)) (s1 : o.length = 16) : Does Try.prog 21 [.ptr u 0, .int .i64 g, .bool b] h K :=
  frame_obj0 (b_sena most now next o l g b s1) o1 (by simp) (fitC_pack _) (br_cons (br_ptr rfl) (br_cons br_int (br_cons br_bool br_nil))) (.inl rfl) (fun _ => rfl) rfl H
/-! ### Clone, Entries -/
abbrev smallE (l : List Ent) : Prop := ∀ x ∈ l, x.c.args.length ≤ 1099511627776 ∧ x.c.data.length ≤ 1099511627776
theorem take_ent {l : List Ent} {k : Nat} (hk : k < l.length) : l.take (k + 1) = l.take k ++ [eAt l k] := by
  rw [List.take_succ_eq_append_getElem hk, eAt_eq hk]
theorem smallE_at {l : List Ent} (h : smallE l) {k : Nat} (hk : k < l.length) : (eAt l k).c.args.length ≤ 1099511627776 ∧ (eAt l k).c.data.length ≤ 1099511627776 := by
  rw [eAt_eq hk]; exact h _ (List.getElem_mem hk)
theorem b_sents (most now next : Int) (o : List Bool) (l : List Ent) (hl : l.length ≤ 1000000) (hs : smallE l) : DoesK Try.prog 1 16 [.ptr 0 0] [.pack (ScO most now next o l)]
    (EndF 1 (.sl 1 .ent 0 l.length) ([.pack (ScO most now next o l)] ++ [.rows .ent l])) := by
  refine DoesK.close ?_
  refine w_body (rs := [.tmp 2]) (tm := [.ptr 0 0, .any, .any, .any, .any, .any, .any, .any, .any, .any, .any, .any, .any, .any, .any, .any, .any, .any, .any, .any, .any, .any, .any, .any, .any, .any, .any, .any]) fn_16 rfl rfl rfl rfl fun R hR => ?_
  (all_goals (try ((first | (with_reducible refine wp_id ?_) | (with_reducible refine does_id ?_) | (with_reducible refine ops_id ?_)); refine walk ?_; (repeat' (first | exact trivial | with_reducible refine And.intro ?_ ?_)); all_goals (repeat (first | (with_reducible refine ImpB.mk fun hb => ?_) | (with_reducible refine ImpK.mk fun hK => ?_) | (with_reducible refine ImpF.mk fun hF => ?_) | (with_reducible refine ImpQ.mk fun hp => ?_) | (with_reducible refine AllE.mk fun p => ?_) | (with_reducible refine AllR.mk fun rest => ?_) | (with_reducible refine AllK.mk fun K => ?_))))); repeat' (with_reducible refine And.intro ?_ ?_))
  (all_goals first | exact Int.natCast_nonneg _ | exact Int.ofNat_lt.2 (by assumption) | assumption | omega | exact Nat.le_refl _ | (exfalso; simp at hb; done) | (simp only [go_sem, decide_true, decide_false, Int.reduceToNat, Nat.min_eq_left, Nat.min_eq_right, Int.reducePow, Nat.reducePow, Int.reduceLE, Int.reduceLT, Int.reduceMul, Int.reduceAdd, Int.reduceSub, Int.reduceNeg, Bool.not_true, Bool.not_false, Bool.not_not, ↓reduceIte, Nat.reduceAdd, Nat.reduceSub, Nat.reduceMul, Nat.reduceEqDiff, reduceCtorEq, Nat.reduceLT, Nat.reduceLeDiff, Nat.reduceGT]; done) | (unfold capM; omega) | (simp only [List.length_drop, List.length_take, List.length_append, List.length_cons, List.length_nil]; omega) | skip)
  refine Wp.ghost (gh_adopt (s := 3) .ent trivial) ?_
  any_goals ((try (refine w_seq fun K hK => ?_)); (try (refine w_block ?_)); refine w_loop (A := Nat × List Ent) (fun p => p.2 = l.take p.1 ∧ p.1 ≤ l.length) (fun p => l.length - p.1) (fun p => [(14, .int .i64 p.1), (3, .sl 2 .ent 0 p.2.length)]) (fun p => [(0, .cells (scC most now next o 1 l.length)), (1, .rows .ent l), (2, .rows .ent p.2)]) ((0, [])) (ws := ?ws1) (tk := ?tk1) ?hw1 ?ht1 ?hi ?h0 ?LH1; (case hw1 => simp only [go_sem, decide_true, decide_false, Int.reduceToNat, Nat.min_eq_left, Nat.min_eq_right, Int.reducePow, Nat.reducePow, Int.reduceLE, Int.reduceLT, Int.reduceMul, Int.reduceAdd, Int.reduceSub, Int.reduceNeg, Bool.not_true, Bool.not_false, Bool.not_not, ↓reduceIte, Nat.reduceAdd, Nat.reduceSub, Nat.reduceMul, Nat.reduceEqDiff, reduceCtorEq, Nat.reduceLT, Nat.reduceLeDiff, Nat.reduceGT]; exact rfl); (case ht1 => simp only [go_sem, decide_true, decide_false, Int.reduceToNat, Nat.min_eq_left, Nat.min_eq_right, Int.reducePow, Nat.reducePow, Int.reduceLE, Int.reduceLT, Int.reduceMul, Int.reduceAdd, Int.reduceSub, Int.reduceNeg, Bool.not_true, Bool.not_false, Bool.not_not, ↓reduceIte, Nat.reduceAdd, Nat.reduceSub, Nat.reduceMul, Nat.reduceEqDiff, reduceCtorEq, Nat.reduceLT, Nat.reduceLeDiff, Nat.reduceGT]; exact rfl); (case' LH1 => rintro ⟨k, acc⟩ E t hx hE ht; simp only [go_sem] at ht; subst ht; simp only [go_sem]; try dsimp only at hx))
  case LH1 =>
    obtain ⟨ha, hk⟩ := hx
    have hal : acc.length = k := by rw [ha, List.length_take]; omega
    by_cases c1 : k < l.length
    · have d1 : decide ((k : Int) < (l.length : Int)) = true := decide_eq_true (by omega)
      have hsm := smallE_at hs c1
      have hst := take_ent c1
      have hw : IntKind.i64.wrap ((k : Int) + 1) = ((k + 1 : Nat) : Int) := wrap_i64 _ (by omega) (by omega)
      (have zx1 := @d1; have zx2 := @hw; all_goals (try ((first | (with_reducible refine wp_id ?_) | (with_reducible refine does_id ?_) | (with_reducible refine ops_id ?_)); refine walk ?_; (repeat' (first | exact trivial | with_reducible refine And.intro ?_ ?_)); all_goals (repeat (first | (with_reducible refine ImpB.mk fun hb => ?_) | (with_reducible refine ImpK.mk fun hK => ?_) | (with_reducible refine ImpF.mk fun hF => ?_) | (with_reducible refine ImpQ.mk fun hp => ?_) | (with_reducible refine AllE.mk fun p => ?_) | (with_reducible refine AllR.mk fun rest => ?_) | (with_reducible refine AllK.mk fun K => ?_))))); repeat' (with_reducible refine And.intro ?_ ?_))
      · exact Int.natCast_nonneg _
      · exact_mod_cast c1
      · exact c1
      · omega
      · omega
      · refine ⟨(k + 1, acc ++ [eAt l k]), ⟨⟨by rw [hst, ← ha], c1⟩, by dsimp only; omega⟩, ?_⟩
        (focus (refine ⟨_, _, Gh.refl, [0, 1, 5], rfl, ?_⟩; (refine ⟨?_, ?_, ?_⟩ <;> simp only [go_sem, List.range, List.range.loop, List.nodup_cons, List.nodup_nil, List.mem_cons, List.not_mem_nil, or_false, or_self, decide_true, decide_false, Int.reduceToNat, Nat.min_eq_left, Nat.min_eq_right, Int.reducePow, Nat.reducePow, Int.reduceLE, Int.reduceLT, Int.reduceMul, Int.reduceAdd, Int.reduceSub, Int.reduceNeg, Bool.not_true, Bool.not_false, Bool.not_not, ↓reduceIte, Nat.reduceAdd, Nat.reduceSub, Nat.reduceMul, Nat.reduceEqDiff, reduceCtorEq, Nat.reduceLT, Nat.reduceLeDiff, Nat.reduceGT]); (try any_goals (refine ⟨?_, ?_⟩)); (try any_goals (with_reducible rfl))))
      · exact hsm.1
      · exact hsm.2
    · have d1 : decide ((k : Int) < (l.length : Int)) = false := decide_eq_false (by omega)
      have hacc : acc = l := by rw [ha]; exact List.take_of_length_le (by omega)
      subst hacc
      (have zx1 := @d1; all_goals (try ((first | (with_reducible refine wp_id ?_) | (with_reducible refine does_id ?_) | (with_reducible refine ops_id ?_)); refine walk ?_; (repeat' (first | exact trivial | with_reducible refine And.intro ?_ ?_)); all_goals (repeat (first | (with_reducible refine ImpB.mk fun hb => ?_) | (with_reducible refine ImpK.mk fun hK => ?_) | (with_reducible refine ImpF.mk fun hF => ?_) | (with_reducible refine ImpQ.mk fun hp => ?_) | (with_reducible refine AllE.mk fun p => ?_) | (with_reducible refine AllR.mk fun rest => ?_) | (with_reducible refine AllK.mk fun K => ?_))))); repeat' (with_reducible refine And.intro ?_ ?_))
      (focus (refine ⟨_, _, gh_close (t := 0) (ts := [1]) (l := ScO most now next o acc) ⟨⟨_, _, rfl⟩, ?_, by simp⟩, [0, 2], rfl, ?_⟩; all_goals (refine ⟨?_, ?_, ?_⟩ <;> simp only [go_sem, List.range, List.range.loop, List.nodup_cons, List.nodup_nil, List.mem_cons, List.not_mem_nil, or_false, or_self, decide_true, decide_false, Int.reduceToNat, Nat.min_eq_left, Nat.min_eq_right, Int.reducePow, Nat.reducePow, Int.reduceLE, Int.reduceLT, Int.reduceMul, Int.reduceAdd, Int.reduceSub, Int.reduceNeg, Bool.not_true, Bool.not_false, Bool.not_not, ↓reduceIte, Nat.reduceAdd, Nat.reduceSub, Nat.reduceMul, Nat.reduceEqDiff, reduceCtorEq, Nat.reduceLT, Nat.reduceLeDiff, Nat.reduceGT]); (try any_goals (refine ⟨?_, ?_⟩)); (try any_goals (with_reducible rfl))))
  · exact ⟨rfl, Nat.zero_le _⟩
  · (focus (refine ⟨_, _, Gh.refl, [0, 1, 2], rfl, ?_⟩; (refine ⟨?_, ?_, ?_⟩ <;> simp only [go_sem, List.range, List.range.loop, List.nodup_cons, List.nodup_nil, List.mem_cons, List.not_mem_nil, or_false, or_self, decide_true, decide_false, Int.reduceToNat, Nat.min_eq_left, Nat.min_eq_right, Int.reducePow, Nat.reducePow, Int.reduceLE, Int.reduceLT, Int.reduceMul, Int.reduceAdd, Int.reduceSub, Int.reduceNeg, Bool.not_true, Bool.not_false, Bool.not_not, ↓reduceIte, Nat.reduceAdd, Nat.reduceSub, Nat.reduceMul, Nat.reduceEqDiff, reduceCtorEq, Nat.reduceLT, Nat.reduceLeDiff, Nat.reduceGT]); (try any_goals (refine ⟨?_, ?_⟩)); (try any_goals (with_reducible rfl))))
theorem c_sents {h : List Ch} {K : KT} {u : Nat} {most now next : Int} {o : List Bool} {l : List Ent} (H : K (.sl h.length .ent 0 l.length) (h ++ [.rows .ent l])) (o1 : hth h u = .pack (ScO most now next o l)) (s1 : l.length ≤ 1000000) (s2 : smallE l) : Does Try.prog 16 [.ptr u 0] h K :=
  frame_obj (ret' := .sl h.length .ent 0 l.length) (b_sents most now next o l s1 s2) o1 (by simp) (fitC_pack _) (br_cons (br_ptr rfl) br_nil) (.inl rfl) (fun _ => rfl) (fun _ => rfl) (by simp [renA, rhoC]) (by rw [set_hth o1 (by simp)]; exact H)
end Go.V
