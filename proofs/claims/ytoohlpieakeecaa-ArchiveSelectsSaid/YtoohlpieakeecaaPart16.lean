/-
  archive.Add of any item in an archive of any number of application processes: what is new.
  archive.Add of an item of a known application process.
-/
import Derived.Test.YtoohlpieakeecaaPart15
set_option linter.unusedVariables false
set_option linter.unusedSimpArgs false
set_option maxRecDepth 100000
set_option maxHeartbeats 8000000
namespace Go.V
open Go.Proofs
attribute [-go_sem] AE AO
abbrev itL (i : Itm) : List AV := [.int .i64 i.apid, .int .i64 i.count, .int .i64 i.time, .ro .byte i.data]
theorem br_it {h : List Ch} {σ : List Nat} (i : Itm) : brA σ h (.agg (itL i)) (.agg (itL i)) := br_agg (br_cons br_int (br_cons br_int (br_cons br_int (br_cons br_ro br_nil))))
def rightB (i : Itm) : Bool := decide (0 ≤ i.apid) && (decide (i.apid ≤ 2046) && (decide (0 ≤ i.count) && (decide (i.count < 16384) && (decide (0 ≤ i.time) && (decide (i.time ≤ 1099511627776) && decide ((i.data.length : Int) ≤ 4096))))))
theorem b_rightD (i : Itm) : DoesK Try.prog 0 28 [.agg (itL i)] [] (EndF 0 (.bool (rightB i)) []) := by
  refine DoesK.close ?_
  unfold rightB
  obtain ⟨a, c, t, d⟩ := i
  dsimp only [itL]
  cases d1 : decide (0 ≤ a)
  · refine w_body (rs := [.tmp 2]) (tm := [.agg [.int .i64 a, .int .i64 c, .int .i64 t, .ro .byte d], .any, .any, .any, .any, .any, .any, .any, .any, .any, .any, .any, .any, .any, .any, .any, .any, .any, .any, .any, .any, .any, .any, .any, .any, .any, .any, .any, .any, .any, .any, .any, .any, .any, .any, .any, .any]) fn_28 rfl rfl rfl rfl fun R hR => ?_
    (have zx1 := @d1; all_goals (try ((first | (with_reducible refine wp_id ?_) | (with_reducible refine does_id ?_) | (with_reducible refine ops_id ?_)); refine walk ?_; (repeat' (first | exact trivial | with_reducible refine And.intro ?_ ?_)); all_goals (repeat (first | (with_reducible refine ImpB.mk fun hb => ?_) | (with_reducible refine ImpK.mk fun hK => ?_) | (with_reducible refine ImpF.mk fun hF => ?_) | (with_reducible refine ImpQ.mk fun hp => ?_) | (with_reducible refine AllE.mk fun p => ?_) | (with_reducible refine AllR.mk fun rest => ?_) | (with_reducible refine AllK.mk fun K => ?_))))); repeat' (with_reducible refine And.intro ?_ ?_))
    (focus (refine ⟨_, _, Gh.refl, [], rfl, ?_⟩; (refine fitq ?_ ?_ ?_ <;> try exact trivial); (try any_goals (refine ⟨?_, ?_⟩)); (try any_goals (with_reducible rfl))))
    all_goals (repeat' (first | (refine And.intro ?_ ?_) | rfl))
  cases d2 : decide (a ≤ 2046)
  · refine w_body (rs := [.tmp 2]) (tm := [.agg [.int .i64 a, .int .i64 c, .int .i64 t, .ro .byte d], .any, .any, .any, .any, .any, .any, .any, .any, .any, .any, .any, .any, .any, .any, .any, .any, .any, .any, .any, .any, .any, .any, .any, .any, .any, .any, .any, .any, .any, .any, .any, .any, .any, .any, .any, .any]) fn_28 rfl rfl rfl rfl fun R hR => ?_
    (have zx1 := @d1; have zx2 := @d2; all_goals (try ((first | (with_reducible refine wp_id ?_) | (with_reducible refine does_id ?_) | (with_reducible refine ops_id ?_)); refine walk ?_; (repeat' (first | exact trivial | with_reducible refine And.intro ?_ ?_)); all_goals (repeat (first | (with_reducible refine ImpB.mk fun hb => ?_) | (with_reducible refine ImpK.mk fun hK => ?_) | (with_reducible refine ImpF.mk fun hF => ?_) | (with_reducible refine ImpQ.mk fun hp => ?_) | (with_reducible refine AllE.mk fun p => ?_) | (with_reducible refine AllR.mk fun rest => ?_) | (with_reducible refine AllK.mk fun K => ?_))))); repeat' (with_reducible refine And.intro ?_ ?_))
    (focus (refine ⟨_, _, Gh.refl, [], rfl, ?_⟩; (refine fitq ?_ ?_ ?_ <;> try exact trivial); (try any_goals (refine ⟨?_, ?_⟩)); (try any_goals (with_reducible rfl))))
    all_goals (repeat' (first | (refine And.intro ?_ ?_) | rfl))
  cases d3 : decide (0 ≤ c)
  · refine w_body (rs := [.tmp 2]) (tm := [.agg [.int .i64 a, .int .i64 c, .int .i64 t, .ro .byte d], .any, .any, .any, .any, .any, .any, .any, .any, .any, .any, .any, .any, .any, .any, .any, .any, .any, .any, .any, .any, .any, .any, .any, .any, .any, .any, .any, .any, .any, .any, .any, .any, .any, .any, .any, .any]) fn_28 rfl rfl rfl rfl fun R hR => ?_
    (have zx1 := @d1; have zx2 := @d2; have zx3 := @d3; all_goals (try ((first | (with_reducible refine wp_id ?_) | (with_reducible refine does_id ?_) | (with_reducible refine ops_id ?_)); refine walk ?_; (repeat' (first | exact trivial | with_reducible refine And.intro ?_ ?_)); all_goals (repeat (first | (with_reducible refine ImpB.mk fun hb => ?_) | (with_reducible refine ImpK.mk fun hK => ?_) | (with_reducible refine ImpF.mk fun hF => ?_) | (with_reducible refine ImpQ.mk fun hp => ?_) | (with_reducible refine AllE.mk fun p => ?_) | (with_reducible refine AllR.mk fun rest => ?_) | (with_reducible refine AllK.mk fun K => ?_))))); repeat' (with_reducible refine And.intro ?_ ?_))
    (focus (refine ⟨_, _, Gh.refl, [], rfl, ?_⟩; (refine fitq ?_ ?_ ?_ <;> try exact trivial); (try any_goals (refine ⟨?_, ?_⟩)); (try any_goals (with_reducible rfl))))
    all_goals (repeat' (first | (refine And.intro ?_ ?_) | rfl))
  cases d4 : decide (c < 16384)
  · refine w_body (rs := [.tmp 2]) (tm := [.agg [.int .i64 a, .int .i64 c, .int .i64 t, .ro .byte d], .any, .any, .any, .any, .any, .any, .any, .any, .any, .any, .any, .any, .any, .any, .any, .any, .any, .any, .any, .any, .any, .any, .any, .any, .any, .any, .any, .any, .any, .any, .any, .any, .any, .any, .any, .any]) fn_28 rfl rfl rfl rfl fun R hR => ?_
    (have zx1 := @d1; have zx2 := @d2; have zx3 := @d3; have zx4 := @d4; all_goals (try ((first | (with_reducible refine wp_id ?_) | (with_reducible refine does_id ?_) | (with_reducible refine ops_id ?_)); refine walk ?_; (repeat' (first | exact trivial | with_reducible refine And.intro ?_ ?_)); all_goals (repeat (first | (with_reducible refine ImpB.mk fun hb => ?_) | (with_reducible refine ImpK.mk fun hK => ?_) | (with_reducible refine ImpF.mk fun hF => ?_) | (with_reducible refine ImpQ.mk fun hp => ?_) | (with_reducible refine AllE.mk fun p => ?_) | (with_reducible refine AllR.mk fun rest => ?_) | (with_reducible refine AllK.mk fun K => ?_))))); repeat' (with_reducible refine And.intro ?_ ?_))
    (focus (refine ⟨_, _, Gh.refl, [], rfl, ?_⟩; (refine fitq ?_ ?_ ?_ <;> try exact trivial); (try any_goals (refine ⟨?_, ?_⟩)); (try any_goals (with_reducible rfl))))
    all_goals (repeat' (first | (refine And.intro ?_ ?_) | rfl))
  cases d5 : decide (0 ≤ t)
  · refine w_body (rs := [.tmp 2]) (tm := [.agg [.int .i64 a, .int .i64 c, .int .i64 t, .ro .byte d], .any, .any, .any, .any, .any, .any, .any, .any, .any, .any, .any, .any, .any, .any, .any, .any, .any, .any, .any, .any, .any, .any, .any, .any, .any, .any, .any, .any, .any, .any, .any, .any, .any, .any, .any, .any]) fn_28 rfl rfl rfl rfl fun R hR => ?_
    (have zx1 := @d1; have zx2 := @d2; have zx3 := @d3; have zx4 := @d4; have zx5 := @d5; all_goals (try ((first | (with_reducible refine wp_id ?_) | (with_reducible refine does_id ?_) | (with_reducible refine ops_id ?_)); refine walk ?_; (repeat' (first | exact trivial | with_reducible refine And.intro ?_ ?_)); all_goals (repeat (first | (with_reducible refine ImpB.mk fun hb => ?_) | (with_reducible refine ImpK.mk fun hK => ?_) | (with_reducible refine ImpF.mk fun hF => ?_) | (with_reducible refine ImpQ.mk fun hp => ?_) | (with_reducible refine AllE.mk fun p => ?_) | (with_reducible refine AllR.mk fun rest => ?_) | (with_reducible refine AllK.mk fun K => ?_))))); repeat' (with_reducible refine And.intro ?_ ?_))
    (focus (refine ⟨_, _, Gh.refl, [], rfl, ?_⟩; (refine fitq ?_ ?_ ?_ <;> try exact trivial); (try any_goals (refine ⟨?_, ?_⟩)); (try any_goals (with_reducible rfl))))
    all_goals (repeat' (first | (refine And.intro ?_ ?_) | rfl))
  cases d6 : decide (t ≤ 1099511627776)
  · refine w_body (rs := [.tmp 2]) (tm := [.agg [.int .i64 a, .int .i64 c, .int .i64 t, .ro .byte d], .any, .any, .any, .any, .any, .any, .any, .any, .any, .any, .any, .any, .any, .any, .any, .any, .any, .any, .any, .any, .any, .any, .any, .any, .any, .any, .any, .any, .any, .any, .any, .any, .any, .any, .any, .any]) fn_28 rfl rfl rfl rfl fun R hR => ?_
    (have zx1 := @d1; have zx2 := @d2; have zx3 := @d3; have zx4 := @d4; have zx5 := @d5; have zx6 := @d6; all_goals (try ((first | (with_reducible refine wp_id ?_) | (with_reducible refine does_id ?_) | (with_reducible refine ops_id ?_)); refine walk ?_; (repeat' (first | exact trivial | with_reducible refine And.intro ?_ ?_)); all_goals (repeat (first | (with_reducible refine ImpB.mk fun hb => ?_) | (with_reducible refine ImpK.mk fun hK => ?_) | (with_reducible refine ImpF.mk fun hF => ?_) | (with_reducible refine ImpQ.mk fun hp => ?_) | (with_reducible refine AllE.mk fun p => ?_) | (with_reducible refine AllR.mk fun rest => ?_) | (with_reducible refine AllK.mk fun K => ?_))))); repeat' (with_reducible refine And.intro ?_ ?_))
    (focus (refine ⟨_, _, Gh.refl, [], rfl, ?_⟩; (refine fitq ?_ ?_ ?_ <;> try exact trivial); (try any_goals (refine ⟨?_, ?_⟩)); (try any_goals (with_reducible rfl))))
    all_goals (repeat' (first | (refine And.intro ?_ ?_) | rfl))
  · refine w_body (rs := [.tmp 2]) (tm := [.agg [.int .i64 a, .int .i64 c, .int .i64 t, .ro .byte d], .any, .any, .any, .any, .any, .any, .any, .any, .any, .any, .any, .any, .any, .any, .any, .any, .any, .any, .any, .any, .any, .any, .any, .any, .any, .any, .any, .any, .any, .any, .any, .any, .any, .any, .any, .any]) fn_28 rfl rfl rfl rfl fun R hR => ?_
    (have zx1 := @d1; have zx2 := @d2; have zx3 := @d3; have zx4 := @d4; have zx5 := @d5; have zx6 := @d6; all_goals (try ((first | (with_reducible refine wp_id ?_) | (with_reducible refine does_id ?_) | (with_reducible refine ops_id ?_)); refine walk ?_; (repeat' (first | exact trivial | with_reducible refine And.intro ?_ ?_)); all_goals (repeat (first | (with_reducible refine ImpB.mk fun hb => ?_) | (with_reducible refine ImpK.mk fun hK => ?_) | (with_reducible refine ImpF.mk fun hF => ?_) | (with_reducible refine ImpQ.mk fun hp => ?_) | (with_reducible refine AllE.mk fun p => ?_) | (with_reducible refine AllR.mk fun rest => ?_) | (with_reducible refine AllK.mk fun K => ?_))))); repeat' (with_reducible refine And.intro ?_ ?_))
    (focus (refine ⟨_, _, Gh.refl, [], rfl, ?_⟩; (refine fitq ?_ ?_ ?_ <;> try exact trivial); (try any_goals (refine ⟨?_, ?_⟩)); (try any_goals (with_reducible rfl))))
    all_goals (repeat' (first | (refine And.intro ?_ ?_) | rfl))
theorem c_rightD {h : List Ch} {K : KT} {a c t : Int} {d : List UInt8} (H : K (.bool (rightB ⟨a, c, t, d⟩)) h) : Does Try.prog 28 [.agg [.int .i64 a, .int .i64 c, .int .i64 t, .ro .byte d]] h K :=
  frame_pure (b_rightD ⟨a, c, t, d⟩) (br_cons (br_it ⟨a, c, t, d⟩) br_nil) (.inr rfl) (fun _ => rfl) H
abbrev i_rightD := Ctr.mk (i := 1) (g := 28) @c_rightD
attribute [instance] i_rightD
def newE (i : Itm) (e : Int) : Ent := ⟨e, i.apid, i.count, i.time, i.data⟩
def addQ (i : Itm) (e : Int) (xs : List Ent) : List Ent × Int :=
  if posE xs e xs.length < xs.length ∧ (eAt xs (posE xs e xs.length)).count = e then (xs, if (eAt xs (posE xs e xs.length)).time = i.time ∧ (eAt xs (posE xs e xs.length)).data = i.data then 9 else 4)
  else (xs.take (posE xs e xs.length) ++ newE i e :: xs.drop (posE xs e xs.length), 0)
def addL (i : Itm) (xs : List Ent) : List Ent × Int := if xs.length = 0 then ([newE i i.count], 0) else addQ i (ext (eAt xs (xs.length - 1)).count i.count) xs
def addM (i : Itm) (ps : List Prc) : List Prc × Int :=
  if rightB i = false then (ps, 1)
  else if isP ps i.apid = true then (ps.set (findP ps i.apid) ⟨i.apid, (addL i (getP ps i.apid)).1⟩, (addL i (getP ps i.apid)).2)
  else (ps.take (findP ps i.apid) ++ ⟨i.apid, [newE i i.count]⟩ :: ps.drop (findP ps i.apid), 0)
theorem b_addMW (i : Itm) (ps : List Prc) (hr : rightB i = false) : DoesK Try.prog 1 10 [.ptr 0 0, .agg (itL i)] [.pack (AM ps)] (EndF 1 (.int .i64 1) ([.pack (AM ps)] ++ [])) := by
  refine DoesK.close ?_
  obtain ⟨a, c, t, d⟩ := i
  by_cases hn : ps.length = 0
  · obtain rfl := List.eq_nil_of_length_eq_zero hn
    rw [show AM [] = AE from rfl]
    refine w_body (rs := [.tmp 4]) (tm := [.ptr 0 0, .agg [.int .i64 a, .int .i64 c, .int .i64 t, .ro .byte d], .any, .any, .any, .any, .any, .any, .any, .any, .any, .any, .any, .any, .any, .any, .any, .any, .any, .any, .any, .any, .any, .any, .any, .any, .any, .any, .any, .any, .any, .any, .any, .any, .any, .any, .any, .any, .any, .any, .any, .any, .any, .any, .any, .any, .any, .any, .any, .any, .any, .any, .any, .any, .any, .any, .any, .any, .any, .any, .any, .any, .any, .any, .any, .any, .any, .any, .any, .any, .any, .any, .any, .any, .any, .any, .any, .any, .any, .any, .any, .any, .any, .any, .any, .any, .any, .any, .any, .any, .any, .any, .any, .any, .any, .any, .any, .any, .any, .any, .any, .any, .any, .any, .any, .any, .any, .any, .any, .any, .any, .any, .any, .any, .any, .any, .any, .any, .any, .any, .any, .any, .any, .any, .any, .any, .any, .any, .any, .any, .any, .any, .any, .any, .any, .any, .any, .any, .any, .any, .any, .any, .any, .any, .any, .any, .any, .any, .any]) fn_10 rfl rfl rfl rfl fun R hR => ?_
    unfold AE
    refine w_open 0 rfl rfl ?_
    simp only [go_sem, decide_true, decide_false, Int.reduceToNat, Nat.min_eq_left, Nat.min_eq_right, Int.reducePow, Nat.reducePow, Int.reduceLE, Int.reduceLT, Int.reduceMul, Int.reduceAdd, Int.reduceSub, Int.reduceNeg, Bool.not_true, Bool.not_false, Bool.not_not, ↓reduceIte, Nat.reduceAdd, Nat.reduceSub, Nat.reduceMul, Nat.reduceEqDiff, reduceCtorEq, Nat.reduceLT, Nat.reduceLeDiff, Nat.reduceGT]
    (have zx1 := @hr; all_goals (try ((first | (with_reducible refine wp_id ?_) | (with_reducible refine does_id ?_) | (with_reducible refine ops_id ?_)); refine walk ?_; (repeat' (first | exact trivial | with_reducible refine And.intro ?_ ?_)); all_goals (repeat (first | (with_reducible refine ImpB.mk fun hb => ?_) | (with_reducible refine ImpK.mk fun hK => ?_) | (with_reducible refine ImpF.mk fun hF => ?_) | (with_reducible refine ImpQ.mk fun hp => ?_) | (with_reducible refine AllE.mk fun p => ?_) | (with_reducible refine AllR.mk fun rest => ?_) | (with_reducible refine AllK.mk fun K => ?_))))); repeat' (with_reducible refine And.intro ?_ ?_))
    (focus (refine ⟨_, _, gh_close (t := 0) (ts := []) (l := AE) ⟨⟨_, _, rfl⟩, ?_, by simp⟩, [0], rfl, ?_⟩; all_goals (refine fitq ?_ ?_ ?_ <;> try exact trivial); (try any_goals (refine ⟨?_, ?_⟩)); (try any_goals (with_reducible rfl))))
    all_goals (repeat' (first | (refine And.intro ?_ ?_) | rfl))
  · refine w_body (rs := [.tmp 4]) (tm := [.ptr 0 0, .agg [.int .i64 a, .int .i64 c, .int .i64 t, .ro .byte d], .any, .any, .any, .any, .any, .any, .any, .any, .any, .any, .any, .any, .any, .any, .any, .any, .any, .any, .any, .any, .any, .any, .any, .any, .any, .any, .any, .any, .any, .any, .any, .any, .any, .any, .any, .any, .any, .any, .any, .any, .any, .any, .any, .any, .any, .any, .any, .any, .any, .any, .any, .any, .any, .any, .any, .any, .any, .any, .any, .any, .any, .any, .any, .any, .any, .any, .any, .any, .any, .any, .any, .any, .any, .any, .any, .any, .any, .any, .any, .any, .any, .any, .any, .any, .any, .any, .any, .any, .any, .any, .any, .any, .any, .any, .any, .any, .any, .any, .any, .any, .any, .any, .any, .any, .any, .any, .any, .any, .any, .any, .any, .any, .any, .any, .any, .any, .any, .any, .any, .any, .any, .any, .any, .any, .any, .any, .any, .any, .any, .any, .any, .any, .any, .any, .any, .any, .any, .any, .any, .any, .any, .any, .any, .any, .any, .any, .any]) fn_10 rfl rfl rfl rfl fun R hR => ?_
    refine w_openM (by omega) ?_
    have A := arc_open (ps := ps) (by omega)
    generalize AM ps = h at A ⊢
    have o := A.o
    have o1 : ∀ l, hth (h ++ l) 0 = .cells [.bool true, .csl 1 ps.length 2] := fun l => (A.app l).o
    have t2 := symH h
    (have zx1 := @hr; have zx2 := @o; have zx3 := @o1; have zx4 := @t2; all_goals (try ((first | (with_reducible refine wp_id ?_) | (with_reducible refine does_id ?_) | (with_reducible refine ops_id ?_)); refine walk ?_; (repeat' (first | exact trivial | with_reducible refine And.intro ?_ ?_)); all_goals (repeat (first | (with_reducible refine ImpB.mk fun hb => ?_) | (with_reducible refine ImpK.mk fun hK => ?_) | (with_reducible refine ImpF.mk fun hF => ?_) | (with_reducible refine ImpQ.mk fun hp => ?_) | (with_reducible refine AllE.mk fun p => ?_) | (with_reducible refine AllR.mk fun rest => ?_) | (with_reducible refine AllK.mk fun K => ?_))))); repeat' (with_reducible refine And.intro ?_ ?_))
    exact end_arc (A.app _) ⟨rfl, rfl⟩
theorem b_addMZ (i : Itm) (hr : rightB i = true) (hd : i.data.length ≤ 1099511627776) : DoesK Try.prog 1 10 [.ptr 0 0, .agg (itL i)] [.pack AE] (EndF 1 (.int .i64 0) ([.pack (AM [⟨i.apid, [newE i i.count]⟩])] ++ [])) := by
  refine DoesK.close ?_
  obtain ⟨a, c, t, d⟩ := i
  dsimp only at hd
  rw [show AM [⟨(⟨a, c, t, d⟩ : Itm).apid, [newE ⟨a, c, t, d⟩ (⟨a, c, t, d⟩ : Itm).count]⟩] = [.cells [.bool true, .csl 1 1 2], .crow [.int .i64 a, .sl 2 .ent 0 1], .rows .ent [⟨c, a, c, t, d⟩]] from rfl]
  refine w_body (rs := [.tmp 4]) (tm := [.ptr 0 0, .agg [.int .i64 a, .int .i64 c, .int .i64 t, .ro .byte d], .any, .any, .any, .any, .any, .any, .any, .any, .any, .any, .any, .any, .any, .any, .any, .any, .any, .any, .any, .any, .any, .any, .any, .any, .any, .any, .any, .any, .any, .any, .any, .any, .any, .any, .any, .any, .any, .any, .any, .any, .any, .any, .any, .any, .any, .any, .any, .any, .any, .any, .any, .any, .any, .any, .any, .any, .any, .any, .any, .any, .any, .any, .any, .any, .any, .any, .any, .any, .any, .any, .any, .any, .any, .any, .any, .any, .any, .any, .any, .any, .any, .any, .any, .any, .any, .any, .any, .any, .any, .any, .any, .any, .any, .any, .any, .any, .any, .any, .any, .any, .any, .any, .any, .any, .any, .any, .any, .any, .any, .any, .any, .any, .any, .any, .any, .any, .any, .any, .any, .any, .any, .any, .any, .any, .any, .any, .any, .any, .any, .any, .any, .any, .any, .any, .any, .any, .any, .any, .any, .any, .any, .any, .any, .any, .any, .any, .any]) fn_10 rfl rfl rfl rfl fun R hR => ?_
  unfold AE
  refine w_open 0 rfl rfl ?_
  simp only [go_sem, decide_true, decide_false, Int.reduceToNat, Nat.min_eq_left, Nat.min_eq_right, Int.reducePow, Nat.reducePow, Int.reduceLE, Int.reduceLT, Int.reduceMul, Int.reduceAdd, Int.reduceSub, Int.reduceNeg, Bool.not_true, Bool.not_false, Bool.not_not, ↓reduceIte, Nat.reduceAdd, Nat.reduceSub, Nat.reduceMul, Nat.reduceEqDiff, reduceCtorEq, Nat.reduceLT, Nat.reduceLeDiff, Nat.reduceGT]
  (have zx1 := @hr; all_goals (try ((first | (with_reducible refine wp_id ?_) | (with_reducible refine does_id ?_) | (with_reducible refine ops_id ?_)); refine walk ?_; (repeat' (first | exact trivial | with_reducible refine And.intro ?_ ?_)); all_goals (repeat (first | (with_reducible refine ImpB.mk fun hb => ?_) | (with_reducible refine ImpK.mk fun hK => ?_) | (with_reducible refine ImpF.mk fun hF => ?_) | (with_reducible refine ImpQ.mk fun hp => ?_) | (with_reducible refine AllE.mk fun p => ?_) | (with_reducible refine AllR.mk fun rest => ?_) | (with_reducible refine AllK.mk fun K => ?_))))); repeat' (with_reducible refine And.intro ?_ ?_))
  (focus (refine ⟨_, _, gh_close (t := 0) (ts := [4, 2]) (l := [.cells [.bool true, .csl 1 1 2], .crow [.int .i64 a, .sl 2 .ent 0 1], .rows .ent [⟨c, a, c, t, d⟩]]) ⟨⟨_, _, rfl⟩, ?_, by simp⟩, [0], rfl, ?_⟩; all_goals (refine fitq ?_ ?_ ?_ <;> try exact trivial); (try any_goals (refine ⟨?_, ?_⟩)); (try any_goals (with_reducible rfl))))
  all_goals (repeat' (first | (refine And.intro ?_ ?_) | rfl))
theorem getD_ins {α : Type} {l : List α} {x d : α} {i : Nat} (hi : i ≤ l.length) (j : Nat) : (l.take i ++ x :: l.drop i).getD j d = if j < i then l.getD j d else if j = i then x else l.getD (j - 1) d := by
  have hlt : (l.take i).length = i := by rw [List.length_take]; omega
  rw [List.getD_eq_getElem?_getD]
  by_cases c1 : j < i
  · rw [if_pos c1, List.getElem?_append_left (by omega), List.getElem?_take_of_lt c1, List.getD_eq_getElem?_getD]
  · rw [if_neg c1, List.getElem?_append_right (by omega), hlt]
    by_cases c2 : j = i
    · rw [if_pos c2, c2, Nat.sub_self]; rfl
    · rw [if_neg c2, show j - i = (j - i - 1) + 1 by omega, List.getElem?_cons_succ, List.getElem?_drop, show i + (j - i - 1) = j - 1 by omega, List.getD_eq_getElem?_getD]
theorem Arc.ins {h : List Ch} {ts : List Nat} {ps : List Prc} {i : Nat} {p' : Prc} {B C : Ch} (A : Arc h 1 ts ps) (hi : i ≤ ps.length) : Arc ((h.set 1 .gone).set 0 (.cells [.bool true, .csl (h.length + 3) (ps.length + 1) 2]) ++ [B, .rows .ent p'.list, C, .crow ((flatP ts ps).take (i * 2) ++ [.int .i64 p'.apid, .sl (h.length + 1) .ent 0 p'.list.length] ++ (flatP ts ps).drop (i * 2))]) (h.length + 3) (ts.take i ++ (h.length + 1) :: ts.drop i) (ps.take i ++ p' :: ps.drop i) := by
  have hln := A.lt
  have hh0 := hln 0 (by simp)
  have hl2 : ((h.set 1 .gone).set 0 (.cells [.bool true, .csl (h.length + 3) (ps.length + 1) 2])).length = h.length := by simp
  have hpl : (ps.take i ++ p' :: ps.drop i).length = ps.length + 1 := by simp; omega
  obtain ⟨h2, hh2⟩ : ∃ h2, (h.set 1 .gone).set 0 (.cells [.bool true, .csl (h.length + 3) (ps.length + 1) 2]) = h2 := ⟨_, rfl⟩
  have hr : ∀ t, t ≠ 0 → t ≠ 1 → hth h2 t = hth h t := fun t q0 q1 => by rw [← hh2, hth_set_ne (Ne.symm q0), hth_set_ne (Ne.symm q1)]
  have h0 : hth h2 0 = .cells [.bool true, .csl (h.length + 3) (ps.length + 1) 2] := by rw [← hh2]; exact hth_set_eq (by simpa using hh0)
  rw [hh2] at hl2 ⊢
  have hnd := A.nd
  have hnt : ∀ t ∈ ts, t ≠ 0 ∧ t ≠ 1 ∧ t < h.length := fun t ht => by
    obtain ⟨n1, n2⟩ := List.nodup_cons.1 hnd
    obtain ⟨n3, n4⟩ := List.nodup_cons.1 n2
    exact ⟨fun q => n1 (by rw [q] at ht; simp [ht]), fun q => n3 (by rw [q] at ht; exact ht), hln t (by simp [ht])⟩
  have hti : i ≤ ts.length := by rw [A.len]; exact hi
  refine ⟨by rw [hpl]; omega, ?_, ?_, ?_, fun j hj => ?_, ?_⟩
  · rw [hth_app (by omega), h0, hpl]
  · rw [← hl2, hth_app_r]
    show Ch.crow _ = _
    rw [hl2, flatP_ins A.len hi]
  · simp only [List.length_append, List.length_cons, List.length_take, List.length_drop, A.len]
  · rw [hpl] at hj
    rw [getD_ins hti, show pAt (ps.take i ++ p' :: ps.drop i) j = (ps.take i ++ p' :: ps.drop i).getD j Prc.zero from rfl, getD_ins hi]
    have old : ∀ k, k < ps.length → hth (h2 ++ [B, .rows .ent p'.list, C, .crow ((flatP ts ps).take (i * 2) ++ [.int .i64 p'.apid, .sl (h.length + 1) .ent 0 p'.list.length] ++ (flatP ts ps).drop (i * 2))]) (ts.getD k 0) = .rows .ent (pAt ps k).list := fun k hk => by
      have hk2 : k < ts.length := by rw [A.len]; exact hk
      have hm : ts.getD k 0 ∈ ts := by
        rw [List.getD_eq_getElem?_getD, List.getElem?_eq_getElem hk2]; exact List.getElem_mem hk2
      obtain ⟨q0, q1, q2⟩ := hnt _ hm
      rw [hth_app (by omega), hr _ q0 q1, A.rows k hk]
    by_cases c1 : j < i
    · rw [if_pos c1, if_pos c1]; exact old j (by omega)
    · rw [if_neg c1, if_neg c1]
      by_cases c2 : j = i
      · rw [if_pos c2, if_pos c2, ← hl2, hth_app_r]; rfl
      · rw [if_neg c2, if_neg c2]; exact old (j - 1) (by omega)
  · have hp : (ts.take i ++ (h.length + 1) :: ts.drop i).Perm ((h.length + 1) :: ts) := by
      have := List.perm_middle (a := h.length + 1) (l₁ := ts.take i) (l₂ := ts.drop i)
      rwa [List.take_append_drop] at this
    have hz : ∀ t ∈ ts.take i ++ (h.length + 1) :: ts.drop i, t ≠ 0 ∧ t ≠ h.length + 3 := fun t ht => by
      rcases List.mem_cons.1 (hp.mem_iff.1 ht) with q | q
      · omega
      · have := hnt t q; omega
    refine List.nodup_cons.2 ⟨fun q => ?_, List.nodup_cons.2 ⟨fun q => (hz _ q).2 rfl, ?_⟩⟩
    · rcases List.mem_cons.1 q with q | q
      · omega
      · exact (hz _ q).1 rfl
    · refine hp.nodup_iff.2 (List.nodup_cons.2 ⟨fun q => ?_, (List.nodup_cons.1 (List.nodup_cons.1 hnd).2).2⟩)
      have := hnt _ q; omega
theorem b_addMN (i : Itm) (ps : List Prc) (hpp : 0 < ps.length) (hm : ps.length ≤ 900000) (hr : rightB i = true) (e2 : isP ps i.apid = false) (hd : i.data.length ≤ 1099511627776) : DoesK Try.prog 1 10 [.ptr 0 0, .agg (itL i)] [.pack (AM ps)] (EndF 1 (.int .i64 0) ([.pack (AM (ps.take (findP ps i.apid) ++ ⟨i.apid, [newE i i.count]⟩ :: ps.drop (findP ps i.apid)))] ++ [])) := by
  refine DoesK.close ?_
  obtain ⟨a, c, t, d⟩ := i
  dsimp only at hd e2 ⊢
  refine w_body (rs := [.tmp 4]) (tm := [.ptr 0 0, .agg [.int .i64 a, .int .i64 c, .int .i64 t, .ro .byte d], .any, .any, .any, .any, .any, .any, .any, .any, .any, .any, .any, .any, .any, .any, .any, .any, .any, .any, .any, .any, .any, .any, .any, .any, .any, .any, .any, .any, .any, .any, .any, .any, .any, .any, .any, .any, .any, .any, .any, .any, .any, .any, .any, .any, .any, .any, .any, .any, .any, .any, .any, .any, .any, .any, .any, .any, .any, .any, .any, .any, .any, .any, .any, .any, .any, .any, .any, .any, .any, .any, .any, .any, .any, .any, .any, .any, .any, .any, .any, .any, .any, .any, .any, .any, .any, .any, .any, .any, .any, .any, .any, .any, .any, .any, .any, .any, .any, .any, .any, .any, .any, .any, .any, .any, .any, .any, .any, .any, .any, .any, .any, .any, .any, .any, .any, .any, .any, .any, .any, .any, .any, .any, .any, .any, .any, .any, .any, .any, .any, .any, .any, .any, .any, .any, .any, .any, .any, .any, .any, .any, .any, .any, .any, .any, .any, .any, .any]) fn_10 rfl rfl rfl rfl fun R hR => ?_
  refine w_openM hpp ?_
  have A := arc_open hpp
  generalize AM ps = h at A ⊢
  obtain ⟨ts, hts⟩ : ∃ ts, List.range' 2 ps.length = ts := ⟨_, rfl⟩
  rw [hts] at A
  have hln : ∀ t ∈ 0 :: 1 :: ts, t < h.length := A.lt
  have hh1 : 1 < h.length := hln 1 (by simp)
  have e1 : PL ts ps ps.length := ⟨A.len, rfl, Nat.le_trans hm (by decide)⟩
  have o : (hth h 0 = .cells [.bool true, .csl 1 ps.length 2] ∧ hth h 1 = .crow (flatP ts ps)) ∧ (∀ l, hth (h ++ l) 0 = .cells [.bool true, .csl 1 ps.length 2]) ∧ ∀ l, hth (h ++ l) 1 = .crow (flatP ts ps) := ⟨⟨A.o, A.o1⟩, fun l => (A.app l).o, fun l => (A.app l).o1⟩
  have t2 := symH h
  have hfl := flatP_len A.len
  have hfc := flatP_cells ts ps
  have hfp := findP_le ps a
  have hh0 : 0 < h.length := hln 0 (by simp)
  have t3 : ∀ l l', hth ((h ++ l).set 1 .gone ++ l') 0 = .cells [.bool true, .csl 1 ps.length 2] := fun l l' => by
    rw [hth_app (by simp; omega), hth_set_ne (by decide), hth_app hh0, A.o]
  have t4 : ∀ l l' c, ((h ++ l).set 1 .gone ++ l').set 0 c = (h.set 1 .gone).set 0 c ++ (l ++ l') := fun l l' c => by
    rw [List.set_append_left _ _ hh1, List.append_assoc, List.set_append_left _ _ (by simpa using hh0)]
  (have zx1 := @hr; have zx2 := @e2; have zx3 := @o; have zx4 := @t2; have zx5 := @hfl; have zx6 := @t3; all_goals (try ((first | (with_reducible refine wp_id ?_) | (with_reducible refine does_id ?_) | (with_reducible refine ops_id ?_)); refine walk ?_; (repeat' (first | exact trivial | with_reducible refine And.intro ?_ ?_)); all_goals (repeat (first | (with_reducible refine ImpB.mk fun hb => ?_) | (with_reducible refine ImpK.mk fun hK => ?_) | (with_reducible refine ImpF.mk fun hF => ?_) | (with_reducible refine ImpQ.mk fun hp => ?_) | (with_reducible refine AllE.mk fun p => ?_) | (with_reducible refine AllR.mk fun rest => ?_) | (with_reducible refine AllK.mk fun K => ?_))))); repeat' (with_reducible refine And.intro ?_ ?_))
  rw [t4]
  exact end_arc (r := .int .i64 0) (A.ins (p' := ⟨a, [newE ⟨a, c, t, d⟩ c]⟩) hfp) (show fitA [0] (.int .i64 0) (.int .i64 0) from ⟨rfl, rfl⟩)
end Go.V

set_option maxRecDepth 100000
set_option maxHeartbeats 8000000
namespace Go.V
open Go.Proofs
attribute [-go_sem] AE AO
theorem Arc.upd {h : List Ch} {ts : List Nat} {ps : List Prc} {i m T : Nat} {p' : Prc} {B X C : Ch} (A : Arc h 1 ts ps) (hT : ts.getD i 0 = T) (hi : i < ps.length) (hp : p'.apid = (pAt ps i).apid) (hm : m = p'.list.length) : Arc ((h.set T .gone).set 1 (.crow ((flatP ts ps).set (i * 2 + 1) (.sl (h.length + 3) .ent 0 m))) ++ [B, X, C, .rows .ent p'.list]) 1 (ts.set i (h.length + 3)) (ps.set i p') := by
  subst hm
  have hln := A.lt
  have hti : i < ts.length := by rw [A.len]; exact hi
  have hTm : T ∈ ts := by
    rw [← hT, List.getD_eq_getElem?_getD, List.getElem?_eq_getElem hti]; exact List.getElem_mem hti
  have hnd := A.nd
  have hnt : ∀ t ∈ ts, t ≠ 0 ∧ t ≠ 1 ∧ t < h.length := fun t ht => by
    obtain ⟨n1, n2⟩ := List.nodup_cons.1 hnd
    obtain ⟨n3, n4⟩ := List.nodup_cons.1 n2
    exact ⟨fun q => n1 (by rw [q] at ht; simp [ht]), fun q => n3 (by rw [q] at ht; exact ht), hln t (by simp [ht])⟩
  have hts : ts.Nodup := (List.nodup_cons.1 (List.nodup_cons.1 hnd).2).2
  have hh1 := hln 1 (by simp)
  obtain ⟨h2, hh2⟩ : ∃ h2, (h.set T .gone).set 1 (.crow ((flatP ts ps).set (i * 2 + 1) (.sl (h.length + 3) .ent 0 p'.list.length))) = h2 := ⟨_, rfl⟩
  have hl2 : h2.length = h.length := by rw [← hh2]; simp
  have hr : ∀ t, t ≠ T → t ≠ 1 → hth h2 t = hth h t := fun t q0 q1 => by rw [← hh2, hth_set_ne (Ne.symm q1), hth_set_ne (Ne.symm q0)]
  have h1 : hth h2 1 = .crow ((flatP ts ps).set (i * 2 + 1) (.sl (h.length + 3) .ent 0 p'.list.length)) := by rw [← hh2]; exact hth_set_eq (by simpa using hh1)
  obtain ⟨q0, q1, q2⟩ := hnt T hTm
  rw [hh2]
  refine ⟨by simp; exact A.pos, ?_, ?_, by simp [A.len], fun j hj => ?_, ?_⟩
  · rw [hth_app (by have := hln 0 (by simp); omega), hr 0 (Ne.symm q0) (by decide), A.o]; simp
  · rw [hth_app (by omega), h1, flatP_set A.len hi hp]
  · rw [List.length_set] at hj
    by_cases c : j = i
    · subst c
      have e1 : (ts.set j (h.length + 3)).getD j 0 = h.length + 3 := by rw [List.getD_eq_getElem?_getD, List.getElem?_set_self hti]; rfl
      have e2 : pAt (ps.set j p') j = p' := by show (ps.set j p').getD j Prc.zero = _; rw [List.getD_eq_getElem?_getD, List.getElem?_set_self hi]; rfl
      rw [e1, e2, ← hl2, hth_app_r]; rfl
    · have e1 : (ts.set i (h.length + 3)).getD j 0 = ts.getD j 0 := by rw [List.getD_eq_getElem?_getD, List.getElem?_set_ne (Ne.symm c), List.getD_eq_getElem?_getD]
      have e2 : pAt (ps.set i p') j = pAt ps j := by show (ps.set i p').getD j Prc.zero = ps.getD j Prc.zero; rw [List.getD_eq_getElem?_getD, List.getElem?_set_ne (Ne.symm c), List.getD_eq_getElem?_getD]
      have hj2 : j < ts.length := by rw [A.len]; exact hj
      have hm : ts.getD j 0 ∈ ts := by
        rw [List.getD_eq_getElem?_getD, List.getElem?_eq_getElem hj2]; exact List.getElem_mem hj2
      obtain ⟨r0, r1, r2⟩ := hnt _ hm
      have hne : ts.getD j 0 ≠ T := fun q => c (by
        rw [← hT, List.getD_eq_getElem?_getD, List.getD_eq_getElem?_getD, List.getElem?_eq_getElem hj2, List.getElem?_eq_getElem hti] at q
        exact (List.getElem_inj hts).1 q)
      rw [e1, e2, hth_app (by omega), hr _ hne r1, A.rows j hj]
  · refine List.nodup_cons.2 ⟨fun q => ?_, List.nodup_cons.2 ⟨fun q => ?_, ?_⟩⟩
    · rcases List.mem_cons.1 q with q | q
      · omega
      · rcases List.mem_or_eq_of_mem_set q with q | q
        · exact (hnt _ q).1 rfl
        · omega
    · rcases List.mem_or_eq_of_mem_set q with q | q
      · exact (hnt _ q).2.1 rfl
      · omega
    · rw [List.set_eq_take_append_cons_drop, if_pos hti]
      have hp2 : (ts.take i ++ (h.length + 3) :: ts.drop (i + 1)).Perm ((h.length + 3) :: (ts.take i ++ ts.drop (i + 1))) := List.perm_middle
      refine hp2.nodup_iff.2 (List.nodup_cons.2 ⟨fun q => ?_, ?_⟩)
      · rcases List.mem_append.1 q with q | q
        · have := hnt _ (List.mem_of_mem_take q); omega
        · have := hnt _ (List.mem_of_mem_drop q); omega
      · have hsub : (ts.take i ++ ts.drop (i + 1)).Sublist ts := by
          conv => rhs; rw [← List.take_append_drop i ts]
          exact (List.Sublist.refl _).append (List.drop_sublist_drop_left _ (by omega))
        exact hts.sublist hsub
theorem fit_ro (σ : List Nat) (e : Ety) (xs : List e.T) : fitA σ (.ro e xs) (.ro e xs) := by
  show (match asE e e xs with | some ys => xs = ys | none => False)
  rw [asE_self]
theorem at_sameS {k : Nat} {gt tm : List AV} {h : List Ch} (hk : k ≤ h.length) (hs : SelfFit h) (ht : ∀ σ : List Nat, (∀ t, t < h.length → σ[t]? = some t) → fitL σ gt tm) : At k gt h tm h :=
  at_same hk hs (ht _ fun _ h => rng_at2 h)
theorem b_addMI (i : Itm) (ps : List Prc) (hm : ps.length ≤ 900000) (hr : rightB i = true) (e2 : isP ps i.apid = true) (hd : i.data.length ≤ 1099511627776)
    (hl : 0 < (getP ps i.apid).length) (hl2 : (getP ps i.apid).length ≤ 1000000) (hg : -1099511627776 ≤ (eAt (getP ps i.apid) ((getP ps i.apid).length - 1)).count ∧ (eAt (getP ps i.apid) ((getP ps i.apid).length - 1)).count ≤ 1099511627776) (hc : 0 ≤ i.count ∧ i.count < 16384) :
    DoesK Try.prog 1 10 [.ptr 0 0, .agg (itL i)] [.pack (AM ps)] (EndF 1 (.int .i64 (addQ i (ext (eAt (getP ps i.apid) ((getP ps i.apid).length - 1)).count i.count) (getP ps i.apid)).2) ([.pack (AM (ps.set (findP ps i.apid) ⟨i.apid, (addQ i (ext (eAt (getP ps i.apid) ((getP ps i.apid).length - 1)).count i.count) (getP ps i.apid)).1⟩))] ++ [])) := by
  refine DoesK.close ?_
  have hpp : 0 < ps.length := by have := (isP_at e2).1; omega
  have hgp : getP ps i.apid = (pAt ps (findP ps i.apid)).list := if_pos e2
  obtain ⟨xs, hxs⟩ : ∃ xs, getP ps i.apid = xs := ⟨_, rfl⟩
  rw [hxs] at hl hl2 hg hgp ⊢
  obtain ⟨a, c, t, d⟩ := i
  dsimp only at hd e2 hgp hxs hc ⊢
  obtain ⟨e, he⟩ : ∃ e, ext (eAt xs (xs.length - 1)).count c = e := ⟨_, rfl⟩
  rw [he]
  have hgg : ((xs.getD (xs.length - 1) Ent.zero).count) = (eAt xs (xs.length - 1)).count := rfl
  generalize eAt xs (xs.length - 1) = gE at *
  have hw1 : IntKind.i64.wrap ((xs.length : Int) - 1) = ((xs.length - 1 : Nat) : Int) := by rw [wrap_i64 _ (by omega) (by omega)]; omega
  refine w_body (rs := [.tmp 4]) (tm := [.ptr 0 0, .agg [.int .i64 a, .int .i64 c, .int .i64 t, .ro .byte d], .any, .any, .any, .any, .any, .any, .any, .any, .any, .any, .any, .any, .any, .any, .any, .any, .any, .any, .any, .any, .any, .any, .any, .any, .any, .any, .any, .any, .any, .any, .any, .any, .any, .any, .any, .any, .any, .any, .any, .any, .any, .any, .any, .any, .any, .any, .any, .any, .any, .any, .any, .any, .any, .any, .any, .any, .any, .any, .any, .any, .any, .any, .any, .any, .any, .any, .any, .any, .any, .any, .any, .any, .any, .any, .any, .any, .any, .any, .any, .any, .any, .any, .any, .any, .any, .any, .any, .any, .any, .any, .any, .any, .any, .any, .any, .any, .any, .any, .any, .any, .any, .any, .any, .any, .any, .any, .any, .any, .any, .any, .any, .any, .any, .any, .any, .any, .any, .any, .any, .any, .any, .any, .any, .any, .any, .any, .any, .any, .any, .any, .any, .any, .any, .any, .any, .any, .any, .any, .any, .any, .any, .any, .any, .any, .any, .any, .any]) fn_10 rfl rfl rfl rfl fun R hR => ?_
  refine w_openM hpp ?_
  have A := arc_open hpp
  have S := AM_self hpp
  generalize AM ps = h at A S ⊢
  obtain ⟨ts, hts⟩ : ∃ ts, List.range' 2 ps.length = ts := ⟨_, rfl⟩
  rw [hts] at A
  have hln : ∀ t ∈ 0 :: 1 :: ts, t < h.length := A.lt
  have hh0 : 0 < h.length := hln 0 (by simp)
  have hh1 : 1 < h.length := hln 1 (by simp)
  have e1 : PL ts ps ps.length := ⟨A.len, rfl, Nat.le_trans hm (by decide)⟩
  obtain ⟨f1, f2⟩ := isP_at e2
  obtain ⟨at_, hat⟩ : ∃ at_, findP ps a = at_ := ⟨_, rfl⟩
  rw [hat] at f1 f2 hgp
  have hrow := A.rows at_ f1
  obtain ⟨T, hT⟩ : ∃ T, ts.getD at_ 0 = T := ⟨_, rfl⟩
  rw [hT, ← hgp] at hrow
  have hTl : T < h.length := hth_lt (by rw [hrow]; simp)
  have hT1 : T ≠ 1 := fun q => by rw [q, A.o1] at hrow; cases hrow
  have hgp2 : (pAt ps at_).list.length = xs.length := by rw [hgp]
  obtain ⟨n1, n2⟩ := flatP_at A.len f1
  rw [hT, hgp2] at n2
  have o : (hth h 0 = .cells [.bool true, .csl 1 ps.length 2] ∧ hth h 1 = .crow (flatP ts ps) ∧ hth h T = .rows .ent xs) ∧ (∀ l, hth (h ++ l) 0 = .cells [.bool true, .csl 1 ps.length 2]) ∧ (∀ l, hth (h ++ l) 1 = .crow (flatP ts ps)) ∧ ∀ l, hth (h ++ l) T = .rows .ent xs := ⟨⟨A.o, A.o1, hrow⟩, fun l => (A.app l).o, fun l => (A.app l).o1, fun l => by rw [hth_app hTl, hrow]⟩
  have t2 := symH h
  have hfl := flatP_len A.len
  have F : findP ps a = at_ ∧ (nthA (flatP ts ps) (at_ * 2 + 1) = .sl T .ent 0 xs.length ∧ (flatP ts ps).length = ps.length * 2) := ⟨hat, n2, hfl⟩
  (have zx1 := @hr; have zx2 := @e2; have zx3 := @o; have zx4 := @t2; have zx5 := @F; have zx6 := @hw1; have zx7 := @hgg; have zx8 := @he; all_goals (try ((first | (with_reducible refine wp_id ?_) | (with_reducible refine does_id ?_) | (with_reducible refine ops_id ?_)); refine walk ?_; (repeat' (first | exact trivial | with_reducible refine And.intro ?_ ?_)); all_goals (repeat (first | (with_reducible refine ImpB.mk fun hb => ?_) | (with_reducible refine ImpK.mk fun hK => ?_) | (with_reducible refine ImpF.mk fun hF => ?_) | (with_reducible refine ImpQ.mk fun hp => ?_) | (with_reducible refine AllE.mk fun p => ?_) | (with_reducible refine AllR.mk fun rest => ?_) | (with_reducible refine AllK.mk fun K => ?_))))); repeat' (with_reducible refine And.intro ?_ ?_))
  any_goals first | exact Int.natCast_nonneg _ | (show (at_ : Int) < (ps.length : Int); omega) | (show at_ * 2 + 1 < ps.length * 2; omega) | (show ((xs.length - 1 : Nat) : Int) < (xs.length : Int); omega) | (show xs.length - 1 < xs.length; omega)
  have S2 : SelfFit (h ++ [.cells [.int .i64 a, .int .i64 c, .int .i64 t, .ro .byte d], .cells [.int .i64 e, .int .i64 a, .int .i64 c, .int .i64 t, .ro .byte d]]) := S.app (by
    intro x hx σ
    rcases List.mem_cons.1 hx with rfl | hx
    · exact ⟨⟨rfl, rfl⟩, ⟨rfl, rfl⟩, ⟨rfl, rfl⟩, fit_ro _ _ _, trivial⟩
    rcases List.mem_cons.1 hx with rfl | hx
    · exact ⟨⟨rfl, rfl⟩, ⟨rfl, rfl⟩, ⟨rfl, rfl⟩, ⟨rfl, rfl⟩, fit_ro _ _ _, trivial⟩
    · cases hx)
  any_goals (refine w_meet (A := Nat) (fun k => k ≤ xs.length ∧ posE xs e xs.length = k) (fun k => [(9, .int .i64 k)]) (fun k => []) (ws := ?ws2) (tk := ?tk2) ?hw2 ?ht2 ?HM1 ?HN1; (case hw2 => simp only [go_sem, decide_true, decide_false, Int.reduceToNat, Nat.min_eq_left, Nat.min_eq_right, Int.reducePow, Nat.reducePow, Int.reduceLE, Int.reduceLT, Int.reduceMul, Int.reduceAdd, Int.reduceSub, Int.reduceNeg, Bool.not_true, Bool.not_false, Bool.not_not, ↓reduceIte, Nat.reduceAdd, Nat.reduceSub, Nat.reduceMul, Nat.reduceEqDiff, reduceCtorEq, Nat.reduceLT, Nat.reduceLeDiff, Nat.reduceGT]; exact rfl); (case ht2 => simp only [go_sem, decide_true, decide_false, Int.reduceToNat, Nat.min_eq_left, Nat.min_eq_right, Int.reducePow, Nat.reducePow, Int.reduceLE, Int.reduceLT, Int.reduceMul, Int.reduceAdd, Int.reduceSub, Int.reduceNeg, Bool.not_true, Bool.not_false, Bool.not_not, ↓reduceIte, Nat.reduceAdd, Nat.reduceSub, Nat.reduceMul, Nat.reduceEqDiff, reduceCtorEq, Nat.reduceLT, Nat.reduceLeDiff, Nat.reduceGT]; exact rfl); (case' HM1 => intro K hK); (case' HN1 => rintro k t hx ht; simp only [go_sem] at ht; subst ht; simp only [go_sem]; try dsimp only at hx))
  case' HM1 => any_goals ((try (refine w_seq fun K hK => ?_)); (try (refine w_block ?_)); refine w_loopS (A := Nat) (fun k => k ≤ xs.length ∧ posE xs e xs.length = posE xs e k) (fun k => k) (fun k => [(9, .int .i64 k)]) (xs.length) (ws := ?ws1) (tk := ?tk1) ?hw1 ?ht1 ?hi ?h0 ?LH1; (case hw1 => simp only [go_sem, decide_true, decide_false, Int.reduceToNat, Nat.min_eq_left, Nat.min_eq_right, Int.reducePow, Nat.reducePow, Int.reduceLE, Int.reduceLT, Int.reduceMul, Int.reduceAdd, Int.reduceSub, Int.reduceNeg, Bool.not_true, Bool.not_false, Bool.not_not, ↓reduceIte, Nat.reduceAdd, Nat.reduceSub, Nat.reduceMul, Nat.reduceEqDiff, reduceCtorEq, Nat.reduceLT, Nat.reduceLeDiff, Nat.reduceGT]; exact rfl); (case ht1 => simp only [go_sem, decide_true, decide_false, Int.reduceToNat, Nat.min_eq_left, Nat.min_eq_right, Int.reducePow, Nat.reducePow, Int.reduceLE, Int.reduceLT, Int.reduceMul, Int.reduceAdd, Int.reduceSub, Int.reduceNeg, Bool.not_true, Bool.not_false, Bool.not_not, ↓reduceIte, Nat.reduceAdd, Nat.reduceSub, Nat.reduceMul, Nat.reduceEqDiff, reduceCtorEq, Nat.reduceLT, Nat.reduceLeDiff, Nat.reduceGT]; exact rfl); (case' LH1 => rintro k E t hx hE ht; simp only [go_sem] at ht; subst ht; simp only [go_sem]; try dsimp only at hx))
  case hi => exact ⟨Nat.le_refl _, rfl⟩
  case h0 => (focus (simp only [go_sem]; (repeat' (first | exact sub_nil | refine sub_cons ?_ ?_)); (any_goals (first | exact .inl rfl | exact .inr rfl)); (try any_goals (refine .inr ?_)); (try any_goals (refine congrArg _ ?_))))
  case LH1 =>
    obtain ⟨hk0, hkp⟩ := hx
    by_cases hk : 0 < k
    · have hw : IntKind.i64.wrap ((k : Int) - 1) = ((k - 1 : Nat) : Int) := by rw [wrap_i64 _ (by omega) (by omega)]; omega
      have hkd : decide (0 < (k : Int)) = true := decide_eq_true (by omega)
      by_cases hc3 : e ≤ (xs.getD (k - 1) Ent.zero).count
      · have d3 : decide (e ≤ (xs.getD (k - 1) Ent.zero).count) = true := decide_eq_true hc3
        (have zx1 := @o; have zx2 := @t2; have zx3 := @F; have zx4 := @hkd; have zx5 := @hw; have zx6 := @d3; all_goals (try ((first | (with_reducible refine wp_id ?_) | (with_reducible refine does_id ?_) | (with_reducible refine ops_id ?_)); refine walk ?_; (repeat' (first | exact trivial | with_reducible refine And.intro ?_ ?_)); all_goals (repeat (first | (with_reducible refine ImpB.mk fun hb => ?_) | (with_reducible refine ImpK.mk fun hK => ?_) | (with_reducible refine ImpF.mk fun hF => ?_) | (with_reducible refine ImpQ.mk fun hp => ?_) | (with_reducible refine AllE.mk fun p => ?_) | (with_reducible refine AllR.mk fun rest => ?_) | (with_reducible refine AllK.mk fun K => ?_))))); repeat' (with_reducible refine And.intro ?_ ?_))
        any_goals first | exact Int.natCast_nonneg _ | (show ((k - 1 : Nat) : Int) < (xs.length : Int); omega) | (show k - 1 < xs.length; omega) | (show at_ * 2 + 1 < ps.length * 2; omega)
        refine ⟨k - 1, ⟨⟨(by omega : k - 1 ≤ xs.length), hkp.trans (posE_dn xs e ⟨hk, hc3⟩)⟩, (by omega : k - 1 < k)⟩, ?_, rfl⟩
        (focus (simp only [go_sem]; (repeat' (first | exact sub_nil | refine sub_cons ?_ ?_)); (any_goals (first | exact .inl rfl | exact .inr rfl)); (try any_goals (refine .inr ?_)); (try any_goals (refine congrArg _ ?_))))
      · have d3 : decide (e ≤ (xs.getD (k - 1) Ent.zero).count) = false := decide_eq_false hc3
        have hP : posE xs e xs.length = k := hkp.trans (posE_eq xs e fun q => hc3 q.2)
        (have zx1 := @o; have zx2 := @t2; have zx3 := @F; have zx4 := @hkd; have zx5 := @hw; have zx6 := @d3; all_goals (try ((first | (with_reducible refine wp_id ?_) | (with_reducible refine does_id ?_) | (with_reducible refine ops_id ?_)); refine walk ?_; (repeat' (first | exact trivial | with_reducible refine And.intro ?_ ?_)); all_goals (repeat (first | (with_reducible refine ImpB.mk fun hb => ?_) | (with_reducible refine ImpK.mk fun hK => ?_) | (with_reducible refine ImpF.mk fun hF => ?_) | (with_reducible refine ImpQ.mk fun hp => ?_) | (with_reducible refine AllE.mk fun p => ?_) | (with_reducible refine AllR.mk fun rest => ?_) | (with_reducible refine AllK.mk fun K => ?_))))); repeat' (with_reducible refine And.intro ?_ ?_))
        any_goals first | exact Int.natCast_nonneg _ | (show ((k - 1 : Nat) : Int) < (xs.length : Int); omega) | (show k - 1 < xs.length; omega) | (show at_ * 2 + 1 < ps.length * 2; omega)
        refine ⟨k, ⟨hk0, hP⟩, at_sameS (show 1 ≤ (h ++ _).length by rw [List.length_append]; omega) S2 fun σ hσ => ?_⟩
        have hσ2 : ∀ t, t < h.length + 2 → σ[t]? = some t := fun z hz => hσ z (show z < (h ++ [_, _]).length by rw [List.length_append]; exact hz)
        simp only [go_sem]
        (repeat' (first | (refine And.intro ?_ ?_) | (with_reducible rfl) | exact hσ2 _ (by omega) | exact trivial))
    · have hkd : decide (0 < (k : Int)) = false := decide_eq_false (by omega)
      have hP : posE xs e xs.length = k := hkp.trans (posE_eq xs e fun q => hk q.1)
      (have zx1 := @o; have zx2 := @t2; have zx3 := @F; have zx4 := @hkd; all_goals (try ((first | (with_reducible refine wp_id ?_) | (with_reducible refine does_id ?_) | (with_reducible refine ops_id ?_)); refine walk ?_; (repeat' (first | exact trivial | with_reducible refine And.intro ?_ ?_)); all_goals (repeat (first | (with_reducible refine ImpB.mk fun hb => ?_) | (with_reducible refine ImpK.mk fun hK => ?_) | (with_reducible refine ImpF.mk fun hF => ?_) | (with_reducible refine ImpQ.mk fun hp => ?_) | (with_reducible refine AllE.mk fun p => ?_) | (with_reducible refine AllR.mk fun rest => ?_) | (with_reducible refine AllK.mk fun K => ?_))))); repeat' (with_reducible refine And.intro ?_ ?_))
      refine ⟨k, ⟨hk0, hP⟩, at_sameS (show 1 ≤ (h ++ _).length by rw [List.length_append]; omega) S2 fun σ hσ => ?_⟩
      have hσ2 : ∀ t, t < h.length + 2 → σ[t]? = some t := fun z hz => hσ z (show z < (h ++ [_, _]).length by rw [List.length_append]; exact hz)
      simp only [go_sem]
      (repeat' (first | (refine And.intro ?_ ?_) | (with_reducible rfl) | exact hσ2 _ (by omega) | exact trivial))
  case HN1 =>
    obtain ⟨hk0, hP⟩ := hx
    obtain ⟨y, hy⟩ : ∃ y, xs.getD k Ent.zero = y := ⟨_, rfl⟩
    have hsame : ps.set at_ ⟨a, xs⟩ = ps := by
      have e0 : ps[at_]'f1 = ⟨a, xs⟩ := by
        have e3 : pAt ps at_ = ps[at_]'f1 := by show ps.getD at_ Prc.zero = _; rw [List.getD_eq_getElem?_getD, List.getElem?_eq_getElem f1]; rfl
        rw [← e3]
        rw [← f2, hgp]
      rw [← e0]
      exact List.set_getElem_self f1
    have t3 : ∀ l l', hth ((h ++ l).set T .gone ++ l') 1 = .crow (flatP ts ps) := fun l l' => by
      rw [hth_app (by simp; omega), hth_set_ne hT1, hth_app hh1, A.o1]
    have t4 : ∀ l l' c, ((h ++ l).set T .gone ++ l').set 1 c = (h.set T .gone).set 1 c ++ (l ++ l') := fun l l' c => by
      rw [List.set_append_left _ _ hTl, List.append_assoc, List.set_append_left _ _ (by simpa using hh1)]
    by_cases c5 : k < xs.length
    · have d5 : decide ((k : Int) < (xs.length : Int)) = true := decide_eq_true (by omega)
      by_cases c6 : y.count = e
      · have d6 : decide (y.count = e) = true := decide_eq_true c6
        by_cases c7 : y.time = t
        · have d7 : decide (y.time = t) = true := decide_eq_true c7
          by_cases c8 : y.data = d
          · have d8 : decide (y.data = d) = true := decide_eq_true c8
            have hr2 : addQ ⟨a, c, t, d⟩ e xs = (xs, 9) := by
              unfold addQ
              rw [hP]
              show (if k < xs.length ∧ (xs.getD k Ent.zero).count = e then (xs, if (xs.getD k Ent.zero).time = t ∧ (xs.getD k Ent.zero).data = d then (9 : Int) else 4) else _) = _
              rw [hy, if_pos ⟨c5, c6⟩, if_pos ⟨c7, c8⟩]
            (have zx1 := @o; have zx2 := @t2; have zx3 := @F; have zx4 := @d5; have zx5 := @hy; have zx6 := @d6; have zx7 := @d7; have zx8 := @d8; all_goals (try ((first | (with_reducible refine wp_id ?_) | (with_reducible refine does_id ?_) | (with_reducible refine ops_id ?_)); refine walk ?_; (repeat' (first | exact trivial | with_reducible refine And.intro ?_ ?_)); all_goals (repeat (first | (with_reducible refine ImpB.mk fun hb => ?_) | (with_reducible refine ImpK.mk fun hK => ?_) | (with_reducible refine ImpF.mk fun hF => ?_) | (with_reducible refine ImpQ.mk fun hp => ?_) | (with_reducible refine AllE.mk fun p => ?_) | (with_reducible refine AllR.mk fun rest => ?_) | (with_reducible refine AllK.mk fun K => ?_))))); repeat' (with_reducible refine And.intro ?_ ?_))
            try any_goals first | exact Int.natCast_nonneg _ | (show (k : Int) < (xs.length : Int); omega) | (show k < xs.length; omega) | (show at_ * 2 + 1 < ps.length * 2; omega) | (show T ≠ h.length + 2; omega) | (show xs.length ≤ (_ : Nat); omega)
            rw [hr2]
            dsimp only
            rw [hsame]
            exact end_arc (r := .int .i64 9) (A.app _) (show fitA [0] (.int .i64 9) (.int .i64 9) from ⟨rfl, rfl⟩)
          · have d8 : decide (y.data = d) = false := decide_eq_false c8
            have hr2 : addQ ⟨a, c, t, d⟩ e xs = (xs, 4) := by
              unfold addQ
              rw [hP]
              show (if k < xs.length ∧ (xs.getD k Ent.zero).count = e then (xs, if (xs.getD k Ent.zero).time = t ∧ (xs.getD k Ent.zero).data = d then (9 : Int) else 4) else _) = _
              rw [hy, if_pos ⟨c5, c6⟩, if_neg (fun q => c8 q.2)]
            (have zx1 := @o; have zx2 := @t2; have zx3 := @F; have zx4 := @d5; have zx5 := @hy; have zx6 := @d6; have zx7 := @d7; have zx8 := @d8; all_goals (try ((first | (with_reducible refine wp_id ?_) | (with_reducible refine does_id ?_) | (with_reducible refine ops_id ?_)); refine walk ?_; (repeat' (first | exact trivial | with_reducible refine And.intro ?_ ?_)); all_goals (repeat (first | (with_reducible refine ImpB.mk fun hb => ?_) | (with_reducible refine ImpK.mk fun hK => ?_) | (with_reducible refine ImpF.mk fun hF => ?_) | (with_reducible refine ImpQ.mk fun hp => ?_) | (with_reducible refine AllE.mk fun p => ?_) | (with_reducible refine AllR.mk fun rest => ?_) | (with_reducible refine AllK.mk fun K => ?_))))); repeat' (with_reducible refine And.intro ?_ ?_))
            try any_goals first | exact Int.natCast_nonneg _ | (show (k : Int) < (xs.length : Int); omega) | (show k < xs.length; omega) | (show at_ * 2 + 1 < ps.length * 2; omega) | (show T ≠ h.length + 2; omega) | (show xs.length ≤ (_ : Nat); omega)
            rw [hr2]
            dsimp only
            rw [hsame]
            exact end_arc (r := .int .i64 4) (A.app _) (show fitA [0] (.int .i64 4) (.int .i64 4) from ⟨rfl, rfl⟩)
        · have d7 : decide (y.time = t) = false := decide_eq_false c7
          have hr2 : addQ ⟨a, c, t, d⟩ e xs = (xs, 4) := by
            unfold addQ
            rw [hP]
            show (if k < xs.length ∧ (xs.getD k Ent.zero).count = e then (xs, if (xs.getD k Ent.zero).time = t ∧ (xs.getD k Ent.zero).data = d then (9 : Int) else 4) else _) = _
            rw [hy, if_pos ⟨c5, c6⟩, if_neg (fun q => c7 q.1)]
          (have zx1 := @o; have zx2 := @t2; have zx3 := @F; have zx4 := @d5; have zx5 := @hy; have zx6 := @d6; have zx7 := @d7; all_goals (try ((first | (with_reducible refine wp_id ?_) | (with_reducible refine does_id ?_) | (with_reducible refine ops_id ?_)); refine walk ?_; (repeat' (first | exact trivial | with_reducible refine And.intro ?_ ?_)); all_goals (repeat (first | (with_reducible refine ImpB.mk fun hb => ?_) | (with_reducible refine ImpK.mk fun hK => ?_) | (with_reducible refine ImpF.mk fun hF => ?_) | (with_reducible refine ImpQ.mk fun hp => ?_) | (with_reducible refine AllE.mk fun p => ?_) | (with_reducible refine AllR.mk fun rest => ?_) | (with_reducible refine AllK.mk fun K => ?_))))); repeat' (with_reducible refine And.intro ?_ ?_))
          try any_goals first | exact Int.natCast_nonneg _ | (show (k : Int) < (xs.length : Int); omega) | (show k < xs.length; omega) | (show at_ * 2 + 1 < ps.length * 2; omega) | (show T ≠ h.length + 2; omega) | (show xs.length ≤ (_ : Nat); omega)
          rw [hr2]
          dsimp only
          rw [hsame]
          exact end_arc (r := .int .i64 4) (A.app _) (show fitA [0] (.int .i64 4) (.int .i64 4) from ⟨rfl, rfl⟩)
      · have d6 : decide (y.count = e) = false := decide_eq_false c6
        have hr2 : addQ ⟨a, c, t, d⟩ e xs = (xs.take k ++ newE ⟨a, c, t, d⟩ e :: xs.drop k, 0) := by
          unfold addQ
          rw [hP]
          show (if k < xs.length ∧ (xs.getD k Ent.zero).count = e then _ else _) = _
          rw [hy, if_neg (fun q => c6 q.2)]
        have hlen : xs.length + 1 = (xs.take k ++ newE ⟨a, c, t, d⟩ e :: xs.drop k).length := by simp; omega
        (have zx1 := @o; have zx2 := @t2; have zx3 := @F; have zx4 := @d5; have zx5 := @hy; have zx6 := @d6; have zx7 := @t3; all_goals (try ((first | (with_reducible refine wp_id ?_) | (with_reducible refine does_id ?_) | (with_reducible refine ops_id ?_)); refine walk ?_; (repeat' (first | exact trivial | with_reducible refine And.intro ?_ ?_)); all_goals (repeat (first | (with_reducible refine ImpB.mk fun hb => ?_) | (with_reducible refine ImpK.mk fun hK => ?_) | (with_reducible refine ImpF.mk fun hF => ?_) | (with_reducible refine ImpQ.mk fun hp => ?_) | (with_reducible refine AllE.mk fun p => ?_) | (with_reducible refine AllR.mk fun rest => ?_) | (with_reducible refine AllK.mk fun K => ?_))))); repeat' (with_reducible refine And.intro ?_ ?_))
        try any_goals first | exact Int.natCast_nonneg _ | (show (k : Int) < (xs.length : Int); omega) | (show k < xs.length; omega) | (show at_ * 2 + 1 < ps.length * 2; omega) | (show T ≠ h.length + 2; omega) | (show xs.length ≤ (_ : Nat); omega)
        rw [hr2, t4]
        dsimp only
        exact end_arc (r := .int .i64 0) (A.upd hT (p' := ⟨a, xs.take k ++ newE ⟨a, c, t, d⟩ e :: xs.drop k⟩) f1 f2.symm hlen) (show fitA [0] (.int .i64 0) (.int .i64 0) from ⟨rfl, rfl⟩)
    · have d5 : decide ((k : Int) < (xs.length : Int)) = false := decide_eq_false (by omega)
      have hr2 : addQ ⟨a, c, t, d⟩ e xs = (xs.take k ++ newE ⟨a, c, t, d⟩ e :: xs.drop k, 0) := by
        unfold addQ
        rw [hP]
        show (if k < xs.length ∧ (xs.getD k Ent.zero).count = e then _ else _) = _
        rw [hy, if_neg (fun q => c5 q.1)]
      have hlen : xs.length + 1 = (xs.take k ++ newE ⟨a, c, t, d⟩ e :: xs.drop k).length := by simp; omega
      (have zx1 := @o; have zx2 := @t2; have zx3 := @F; have zx4 := @d5; have zx5 := @hy; have zx6 := @t3; all_goals (try ((first | (with_reducible refine wp_id ?_) | (with_reducible refine does_id ?_) | (with_reducible refine ops_id ?_)); refine walk ?_; (repeat' (first | exact trivial | with_reducible refine And.intro ?_ ?_)); all_goals (repeat (first | (with_reducible refine ImpB.mk fun hb => ?_) | (with_reducible refine ImpK.mk fun hK => ?_) | (with_reducible refine ImpF.mk fun hF => ?_) | (with_reducible refine ImpQ.mk fun hp => ?_) | (with_reducible refine AllE.mk fun p => ?_) | (with_reducible refine AllR.mk fun rest => ?_) | (with_reducible refine AllK.mk fun K => ?_))))); repeat' (with_reducible refine And.intro ?_ ?_))
      try any_goals first | exact Int.natCast_nonneg _ | (show (k : Int) < (xs.length : Int); omega) | (show k < xs.length; omega) | (show at_ * 2 + 1 < ps.length * 2; omega) | (show T ≠ h.length + 2; omega) | (show xs.length ≤ (_ : Nat); omega)
      rw [hr2, t4]
      dsimp only
      exact end_arc (r := .int .i64 0) (A.upd hT (p' := ⟨a, xs.take k ++ newE ⟨a, c, t, d⟩ e :: xs.drop k⟩) f1 f2.symm hlen) (show fitA [0] (.int .i64 0) (.int .i64 0) from ⟨rfl, rfl⟩)
end Go.V
