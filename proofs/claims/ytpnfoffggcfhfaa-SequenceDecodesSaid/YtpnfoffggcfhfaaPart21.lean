/-
  sequence: read, Decode.
-/
import Derived.Test.YtpnfoffggcfhfaaPart20
set_option linter.unusedVariables false
set_option linter.unusedSimpArgs false
set_option maxRecDepth 100000
set_option maxHeartbeats 8000000
namespace Go.V
open Go.Proofs
attribute [-go_sem] Wr
attribute [local go_sem] decA rdecA
theorem blobR_lens (r : Option (List UInt8)) (m : Int) : (blobR r m).1.length ≤ lenR r ∧ lenR (blobR r m).2 ≤ lenR r := by
  have h := countR_len r m
  unfold blobR
  split
  · exact ⟨Nat.zero_le _, Nat.zero_le _⟩
  · rename_i n ys e
    rw [e] at h
    simp only [lenR, Option.getD_some] at h
    split
    · exact ⟨Nat.zero_le _, Nat.zero_le _⟩
    · constructor
      · rw [List.length_take]; unfold lenR; omega
      · simp only [lenR, Option.getD_some, List.length_drop]; omega
/-- a step as it is read, whether it may be one, and what is left -/
def rdX (r : Option (List UInt8)) : Stp × Bool × Option (List UInt8) :=
  let k := uintR r 1
  if k.1 = 1 then (⟨k.1, 0, 0, 0, 0, 0, (decC (blobR k.2 4096).1).getD Cmd.zero⟩, (decC (blobR k.2 4096).1).isSome, (blobR k.2 4096).2)
  else if k.1 = 2 then (⟨k.1, 0, 0, 0, 0, (intR k.2).1, Cmd.zero⟩, (intR k.2).2.isSome, (intR k.2).2)
  else if k.1 = 3 then
    let p := intR k.2; let o := uintR p.2 1; let v := intR o.2; let n := intR v.2
    (⟨k.1, p.1, o.1, v.1, n.1, 0, Cmd.zero⟩, n.2.isSome, n.2)
  else if k.1 = 4 then
    let p := intR k.2; let o := uintR p.2 1; let v := intR o.2
    (⟨k.1, p.1, o.1, v.1, 0, 0, Cmd.zero⟩, v.2.isSome, v.2)
  else if k.1 = 5 then (⟨k.1, 0, 0, 0, (intR k.2).1, 0, Cmd.zero⟩, (intR k.2).2.isSome, (intR k.2).2)
  else (⟨k.1, 0, 0, 0, 0, 0, Cmd.zero⟩, k.2.isSome, k.2)
theorem okr_if {α : Type} (r : Option (List UInt8)) (x : α) : okr r x = if r.isSome then some x else none := by cases r <;> rfl
theorem map_if {α β : Type} (o : Option α) (f : α → β) (z : α) : o.map f = if o.isSome then some (f (o.getD z)) else none := by cases o <;> rfl
theorem oneS_rdX (r : Option (List UInt8)) : oneS r = (if (rdX r).2.1 then some (rdX r).1 else none, (rdX r).2.2) := by
  unfold oneS rdX
  simp only
  by_cases k1 : (uintR r 1).1 = 1
  · rw [if_pos k1, if_pos k1, map_if _ _ Cmd.zero, k1]; rfl
  rw [if_neg k1, if_neg k1]
  by_cases k2 : (uintR r 1).1 = 2
  · rw [if_pos k2, if_pos k2, okr_if, k2]; rfl
  rw [if_neg k2, if_neg k2]
  by_cases k3 : (uintR r 1).1 = 3
  · rw [if_pos k3, if_pos k3, okr_if, k3]; rfl
  rw [if_neg k3, if_neg k3]
  by_cases k4 : (uintR r 1).1 = 4
  · rw [if_pos k4, if_pos k4, okr_if, k4]; rfl
  rw [if_neg k4, if_neg k4]
  by_cases k5 : (uintR r 1).1 = 5
  · rw [if_pos k5, if_pos k5, okr_if, k5]; rfl
  rw [if_neg k5, if_neg k5, okr_if]
theorem b_rfailedN : DoesK Try.prog 1 74 [.ptr 0 0] [.pack RdN] (EndF 1 (.bool true) ([.pack RdN] ++ [])) := by
  refine DoesK.close ?_
  refine w_body (rs := [.tmp 2]) (tm := [.ptr 0 0, .any, .any, .any, .any, .any, .any, .any, .any, .any, .any]) fn_74 rfl rfl rfl rfl fun R hR => ?_
  (all_goals (try ((first | (with_reducible refine wp_id ?_) | (with_reducible refine does_id ?_) | (with_reducible refine ops_id ?_)); refine walk ?_; (repeat' (first | exact trivial | with_reducible refine And.intro ?_ ?_)); all_goals (repeat (first | (with_reducible refine ImpB.mk fun hb => ?_) | (with_reducible refine ImpK.mk fun hK => ?_) | (with_reducible refine ImpF.mk fun hF => ?_) | (with_reducible refine ImpQ.mk fun hp => ?_) | (with_reducible refine AllE.mk fun p => ?_) | (with_reducible refine AllR.mk fun rest => ?_) | (with_reducible refine AllK.mk fun K => ?_))))); repeat' (with_reducible refine And.intro ?_ ?_))
  (focus (refine ⟨_, _, gh_close (t := 0) (ts := []) (l := RdN) ⟨⟨_, _, rfl⟩, ?_, by simp⟩, [0], rfl, ?_⟩; all_goals (refine ⟨?_, ?_, ?_⟩ <;> simp only [go_sem, List.range, List.range.loop, List.nodup_cons, List.nodup_nil, List.mem_cons, List.not_mem_nil, or_false, or_self, decide_true, decide_false, Int.reduceToNat, Nat.min_eq_left, Nat.min_eq_right, Int.reducePow, Nat.reducePow, Int.reduceLE, Int.reduceLT, Int.reduceMul, Int.reduceAdd, Int.reduceSub, Int.reduceNeg, Bool.not_true, Bool.not_false, Bool.not_not, ↓reduceIte, Nat.reduceAdd, Nat.reduceSub, Nat.reduceMul, Nat.reduceEqDiff, reduceCtorEq, Nat.reduceLT, Nat.reduceLeDiff, Nat.reduceGT]); (try any_goals (refine ⟨?_, ?_⟩)); (try any_goals (with_reducible rfl))))
theorem b_rfailedS (ys : List UInt8) : DoesK Try.prog 1 74 [.ptr 0 0] [.pack (RdS ys)] (EndF 1 (.bool false) ([.pack (RdS ys)] ++ [])) := by
  refine DoesK.close ?_
  refine w_body (rs := [.tmp 2]) (tm := [.ptr 0 0, .any, .any, .any, .any, .any, .any, .any, .any, .any, .any]) fn_74 rfl rfl rfl rfl fun R hR => ?_
  (all_goals (try ((first | (with_reducible refine wp_id ?_) | (with_reducible refine does_id ?_) | (with_reducible refine ops_id ?_)); refine walk ?_; (repeat' (first | exact trivial | with_reducible refine And.intro ?_ ?_)); all_goals (repeat (first | (with_reducible refine ImpB.mk fun hb => ?_) | (with_reducible refine ImpK.mk fun hK => ?_) | (with_reducible refine ImpF.mk fun hF => ?_) | (with_reducible refine ImpQ.mk fun hp => ?_) | (with_reducible refine AllE.mk fun p => ?_) | (with_reducible refine AllR.mk fun rest => ?_) | (with_reducible refine AllK.mk fun K => ?_))))); repeat' (with_reducible refine And.intro ?_ ?_))
  (focus (refine ⟨_, _, gh_close (t := 0) (ts := []) (l := RdS ys) ⟨⟨_, _, rfl⟩, ?_, by simp⟩, [0], rfl, ?_⟩; all_goals (refine ⟨?_, ?_, ?_⟩ <;> simp only [go_sem, List.range, List.range.loop, List.nodup_cons, List.nodup_nil, List.mem_cons, List.not_mem_nil, or_false, or_self, decide_true, decide_false, Int.reduceToNat, Nat.min_eq_left, Nat.min_eq_right, Int.reducePow, Nat.reducePow, Int.reduceLE, Int.reduceLT, Int.reduceMul, Int.reduceAdd, Int.reduceSub, Int.reduceNeg, Bool.not_true, Bool.not_false, Bool.not_not, ↓reduceIte, Nat.reduceAdd, Nat.reduceSub, Nat.reduceMul, Nat.reduceEqDiff, reduceCtorEq, Nat.reduceLT, Nat.reduceLeDiff, Nat.reduceGT]); (try any_goals (refine ⟨?_, ?_⟩)); (try any_goals (with_reducible rfl))))
theorem b_rfailed (r : Option (List UInt8)) : DoesK Try.prog 1 74 [.ptr 0 0] [.pack (Rd r)] (EndF 1 (.bool (!r.isSome)) ([.pack (Rd r)] ++ [])) := by
  cases r with
  | none => exact b_rfailedN
  | some ys => exact b_rfailedS ys
theorem c_rfailed {h : List Ch} {K : KT} {t : Nat} {r : Option (List UInt8)} (H : K (.bool (!r.isSome)) h) (o : hth h t = .pack (Rd r)) : Does Try.prog 74 [.ptr t 0] h K :=
  frame_look (b_rfailed r) o (by simp) (fitC_pack _) (br_cons (br_ptr rfl) br_nil) (.inl rfl) (fun _ => rfl) rfl H
abbrev i_rfailed := Ctr.mk (i := 0) (g := 74) @c_rfailed
attribute [instance] i_rfailed
/-- what reading answers -/
abbrev rdA (x : Stp × Bool × Option (List UInt8)) : AV := .tup [.agg [.int .i64 x.1.kind, .int .i64 x.1.param, .int .i64 x.1.op, .int .i64 x.1.value, .int .i64 x.1.next, .int .i64 x.1.ticks, .int .i64 x.1.c.src, .int .i64 x.1.c.num, .int .i64 x.1.c.srv, .ro .int x.1.c.args, .ro .byte x.1.c.data], .bool x.2.1]
theorem b_read (r : Option (List UInt8)) (hl : lenR r ≤ 1000000) : DoesK Try.prog 1 46 [.ptr 0 0] [.pack (Rd r)] (EndF 1 (rdA (rdX r)) ([.pack (Rd (rdX r).2.2)] ++ [])) := by
  refine DoesK.close ?_
  obtain ⟨Z, hZ⟩ : ∃ Z, rdX r = Z := ⟨_, rfl⟩
  rw [hZ]
  unfold rdX at hZ
  have hb0 := uintR_bd r 1
  have hM0 := uintR_lenR r 1
  rcases e0 : uintR r 1 with ⟨k, q0⟩
  rw [e0] at hZ hb0 hM0
  simp only at hZ hb0 hM0
  have w1 : IntKind.i64.wrap (k : Int) = k := wrap_i64 _ (by omega) (by omega)
  by_cases k1 : k = 1
  · rw [if_pos k1] at hZ
    have d1 : decide ((k : Int) = 1) = true := decide_eq_true (by omega)
    have hM1 := blobR_lens q0 4096
    rcases e1 : blobR q0 4096 with ⟨d, q1⟩
    rw [e1] at hZ hM1
    simp only at hZ hM1
    cases hd : decC d
    · rw [hd] at hZ
      subst hZ
      refine w_body (rs := [.cell 2 34, .tmp 3]) (tm := [.ptr 0 0, .any, .any, .any, .any, .any, .any, .any, .any, .any, .any, .any, .any, .any, .any, .any, .any, .any, .any, .any, .any, .any, .any, .any, .any, .any, .any, .any, .any, .any, .any, .any, .any, .any, .any, .any, .any, .any, .any, .any, .any, .any, .any, .any, .any, .any, .any, .any, .any, .any, .any, .any, .any, .any, .any, .any, .any, .any, .any]) fn_46 rfl rfl rfl rfl fun R hR => ?_
      (have zx1 := @w1; have zx2 := @d1; have zx3 := @hd; all_goals (try ((first | (with_reducible refine wp_id ?_) | (with_reducible refine does_id ?_) | (with_reducible refine ops_id ?_)); refine walk ?_; (repeat' (first | exact trivial | with_reducible refine And.intro ?_ ?_)); all_goals (repeat (first | (with_reducible refine ImpB.mk fun hb => ?_) | (with_reducible refine ImpK.mk fun hK => ?_) | (with_reducible refine ImpF.mk fun hF => ?_) | (with_reducible refine ImpQ.mk fun hp => ?_) | (with_reducible refine AllE.mk fun p => ?_) | (with_reducible refine AllR.mk fun rest => ?_) | (with_reducible refine AllK.mk fun K => ?_))))); repeat' (with_reducible refine And.intro ?_ ?_))
      all_goals first | (with_reducible exact Nat.le_refl _) | (show _ ≤ (_ : Nat); omega) | (show _ < (_ : Int); omega) | (show _ ≤ (_ : Int); omega) | (show (_ : Nat) = _; omega) | skip
      (focus (refine ⟨_, _, Gh.refl, [0], rfl, ?_⟩; (refine ⟨?_, ?_, ?_⟩ <;> simp only [go_sem, List.range, List.range.loop, List.nodup_cons, List.nodup_nil, List.mem_cons, List.not_mem_nil, or_false, or_self, decide_true, decide_false, Int.reduceToNat, Nat.min_eq_left, Nat.min_eq_right, Int.reducePow, Nat.reducePow, Int.reduceLE, Int.reduceLT, Int.reduceMul, Int.reduceAdd, Int.reduceSub, Int.reduceNeg, Bool.not_true, Bool.not_false, Bool.not_not, ↓reduceIte, Nat.reduceAdd, Nat.reduceSub, Nat.reduceMul, Nat.reduceEqDiff, reduceCtorEq, Nat.reduceLT, Nat.reduceLeDiff, Nat.reduceGT]); (try any_goals (refine ⟨?_, ?_⟩)); (try any_goals (with_reducible rfl))))
      all_goals (repeat' (first | (refine And.intro ?_ ?_) | (with_reducible rfl) | omega | rfl))
    · rw [hd] at hZ
      subst hZ
      refine w_body (rs := [.cell 2 34, .tmp 3]) (tm := [.ptr 0 0, .any, .any, .any, .any, .any, .any, .any, .any, .any, .any, .any, .any, .any, .any, .any, .any, .any, .any, .any, .any, .any, .any, .any, .any, .any, .any, .any, .any, .any, .any, .any, .any, .any, .any, .any, .any, .any, .any, .any, .any, .any, .any, .any, .any, .any, .any, .any, .any, .any, .any, .any, .any, .any, .any, .any, .any, .any, .any]) fn_46 rfl rfl rfl rfl fun R hR => ?_
      (have zx1 := @w1; have zx2 := @d1; have zx3 := @hd; all_goals (try ((first | (with_reducible refine wp_id ?_) | (with_reducible refine does_id ?_) | (with_reducible refine ops_id ?_)); refine walk ?_; (repeat' (first | exact trivial | with_reducible refine And.intro ?_ ?_)); all_goals (repeat (first | (with_reducible refine ImpB.mk fun hb => ?_) | (with_reducible refine ImpK.mk fun hK => ?_) | (with_reducible refine ImpF.mk fun hF => ?_) | (with_reducible refine ImpQ.mk fun hp => ?_) | (with_reducible refine AllE.mk fun p => ?_) | (with_reducible refine AllR.mk fun rest => ?_) | (with_reducible refine AllK.mk fun K => ?_))))); repeat' (with_reducible refine And.intro ?_ ?_))
      all_goals first | (with_reducible exact Nat.le_refl _) | (show _ ≤ (_ : Nat); omega) | (show _ < (_ : Int); omega) | (show _ ≤ (_ : Int); omega) | (show (_ : Nat) = _; omega) | skip
      (focus (refine ⟨_, _, Gh.refl, [0], rfl, ?_⟩; (refine ⟨?_, ?_, ?_⟩ <;> simp only [go_sem, List.range, List.range.loop, List.nodup_cons, List.nodup_nil, List.mem_cons, List.not_mem_nil, or_false, or_self, decide_true, decide_false, Int.reduceToNat, Nat.min_eq_left, Nat.min_eq_right, Int.reducePow, Nat.reducePow, Int.reduceLE, Int.reduceLT, Int.reduceMul, Int.reduceAdd, Int.reduceSub, Int.reduceNeg, Bool.not_true, Bool.not_false, Bool.not_not, ↓reduceIte, Nat.reduceAdd, Nat.reduceSub, Nat.reduceMul, Nat.reduceEqDiff, reduceCtorEq, Nat.reduceLT, Nat.reduceLeDiff, Nat.reduceGT]); (try any_goals (refine ⟨?_, ?_⟩)); (try any_goals (with_reducible rfl))))
      all_goals (repeat' (first | (refine And.intro ?_ ?_) | (with_reducible rfl) | omega | rfl))
  have d1 : decide ((k : Int) = 1) = false := decide_eq_false (by omega)
  rw [if_neg k1] at hZ
  have hM1 := intR_len q0
  by_cases k2 : k = 2
  · rw [if_pos k2] at hZ
    have d2 : decide ((k : Int) = 2) = true := decide_eq_true (by omega)
    rcases e1 : intR q0 with ⟨i1, q1⟩
    rw [e1] at hZ
    subst hZ
    refine w_body (rs := [.cell 2 34, .tmp 3]) (tm := [.ptr 0 0, .any, .any, .any, .any, .any, .any, .any, .any, .any, .any, .any, .any, .any, .any, .any, .any, .any, .any, .any, .any, .any, .any, .any, .any, .any, .any, .any, .any, .any, .any, .any, .any, .any, .any, .any, .any, .any, .any, .any, .any, .any, .any, .any, .any, .any, .any, .any, .any, .any, .any, .any, .any, .any, .any, .any, .any, .any, .any]) fn_46 rfl rfl rfl rfl fun R hR => ?_
    (have zx1 := @w1; have zx2 := @d1; have zx3 := @d2; all_goals (try ((first | (with_reducible refine wp_id ?_) | (with_reducible refine does_id ?_) | (with_reducible refine ops_id ?_)); refine walk ?_; (repeat' (first | exact trivial | with_reducible refine And.intro ?_ ?_)); all_goals (repeat (first | (with_reducible refine ImpB.mk fun hb => ?_) | (with_reducible refine ImpK.mk fun hK => ?_) | (with_reducible refine ImpF.mk fun hF => ?_) | (with_reducible refine ImpQ.mk fun hp => ?_) | (with_reducible refine AllE.mk fun p => ?_) | (with_reducible refine AllR.mk fun rest => ?_) | (with_reducible refine AllK.mk fun K => ?_))))); repeat' (with_reducible refine And.intro ?_ ?_))
    all_goals first | (with_reducible exact Nat.le_refl _) | (show _ ≤ (_ : Nat); omega) | (show _ < (_ : Int); omega) | (show _ ≤ (_ : Int); omega) | (show (_ : Nat) = _; omega) | skip
    (focus (refine ⟨_, _, Gh.refl, [0], rfl, ?_⟩; (refine ⟨?_, ?_, ?_⟩ <;> simp only [go_sem, List.range, List.range.loop, List.nodup_cons, List.nodup_nil, List.mem_cons, List.not_mem_nil, or_false, or_self, decide_true, decide_false, Int.reduceToNat, Nat.min_eq_left, Nat.min_eq_right, Int.reducePow, Nat.reducePow, Int.reduceLE, Int.reduceLT, Int.reduceMul, Int.reduceAdd, Int.reduceSub, Int.reduceNeg, Bool.not_true, Bool.not_false, Bool.not_not, ↓reduceIte, Nat.reduceAdd, Nat.reduceSub, Nat.reduceMul, Nat.reduceEqDiff, reduceCtorEq, Nat.reduceLT, Nat.reduceLeDiff, Nat.reduceGT]); (try any_goals (refine ⟨?_, ?_⟩)); (try any_goals (with_reducible rfl))))
    all_goals (repeat' (first | (refine And.intro ?_ ?_) | (with_reducible rfl) | omega | rfl))
  have d2 : decide ((k : Int) = 2) = false := decide_eq_false (by omega)
  rw [if_neg k2] at hZ
  by_cases k3 : k = 3
  · rw [if_pos k3] at hZ
    have d3 : decide ((k : Int) = 3) = true := decide_eq_true (by omega)
    rcases e1 : intR q0 with ⟨i1, q1⟩
    have hM2 := uintR_lenR q1 1
    have hb2 := uintR_bd q1 1
    rcases e2 : uintR q1 1 with ⟨g, q2⟩
    have hM3 := intR_len q2
    rcases e3 : intR q2 with ⟨i3, q3⟩
    have hM4 := intR_len q3
    rcases e4 : intR q3 with ⟨i4, q4⟩
    rw [e1] at hZ hM1
    rw [e2] at hM2 hb2
    rw [e3] at hM3
    rw [e4] at hM4
    simp only [e2, e3, e4] at hZ hM1 hM2 hM3 hM4 hb2
    have w2 : IntKind.i64.wrap (g : Int) = g := wrap_i64 _ (by omega) (by omega)
    subst hZ
    refine w_body (rs := [.cell 2 34, .tmp 3]) (tm := [.ptr 0 0, .any, .any, .any, .any, .any, .any, .any, .any, .any, .any, .any, .any, .any, .any, .any, .any, .any, .any, .any, .any, .any, .any, .any, .any, .any, .any, .any, .any, .any, .any, .any, .any, .any, .any, .any, .any, .any, .any, .any, .any, .any, .any, .any, .any, .any, .any, .any, .any, .any, .any, .any, .any, .any, .any, .any, .any, .any, .any]) fn_46 rfl rfl rfl rfl fun R hR => ?_
    (have zx1 := @w1; have zx2 := @d1; have zx3 := @d2; have zx4 := @d3; have zx5 := @w2; all_goals (try ((first | (with_reducible refine wp_id ?_) | (with_reducible refine does_id ?_) | (with_reducible refine ops_id ?_)); refine walk ?_; (repeat' (first | exact trivial | with_reducible refine And.intro ?_ ?_)); all_goals (repeat (first | (with_reducible refine ImpB.mk fun hb => ?_) | (with_reducible refine ImpK.mk fun hK => ?_) | (with_reducible refine ImpF.mk fun hF => ?_) | (with_reducible refine ImpQ.mk fun hp => ?_) | (with_reducible refine AllE.mk fun p => ?_) | (with_reducible refine AllR.mk fun rest => ?_) | (with_reducible refine AllK.mk fun K => ?_))))); repeat' (with_reducible refine And.intro ?_ ?_))
    all_goals first | (with_reducible exact Nat.le_refl _) | (show _ ≤ (_ : Nat); omega) | (show _ < (_ : Int); omega) | (show _ ≤ (_ : Int); omega) | (show (_ : Nat) = _; omega) | skip
    (focus (refine ⟨_, _, Gh.refl, [0], rfl, ?_⟩; (refine ⟨?_, ?_, ?_⟩ <;> simp only [go_sem, List.range, List.range.loop, List.nodup_cons, List.nodup_nil, List.mem_cons, List.not_mem_nil, or_false, or_self, decide_true, decide_false, Int.reduceToNat, Nat.min_eq_left, Nat.min_eq_right, Int.reducePow, Nat.reducePow, Int.reduceLE, Int.reduceLT, Int.reduceMul, Int.reduceAdd, Int.reduceSub, Int.reduceNeg, Bool.not_true, Bool.not_false, Bool.not_not, ↓reduceIte, Nat.reduceAdd, Nat.reduceSub, Nat.reduceMul, Nat.reduceEqDiff, reduceCtorEq, Nat.reduceLT, Nat.reduceLeDiff, Nat.reduceGT]); (try any_goals (refine ⟨?_, ?_⟩)); (try any_goals (with_reducible rfl))))
    all_goals (repeat' (first | (refine And.intro ?_ ?_) | (with_reducible rfl) | omega | rfl))
  have d3 : decide ((k : Int) = 3) = false := decide_eq_false (by omega)
  rw [if_neg k3] at hZ
  by_cases k4 : k = 4
  · rw [if_pos k4] at hZ
    have d4 : decide ((k : Int) = 4) = true := decide_eq_true (by omega)
    rcases e1 : intR q0 with ⟨i1, q1⟩
    have hM2 := uintR_lenR q1 1
    have hb2 := uintR_bd q1 1
    rcases e2 : uintR q1 1 with ⟨g, q2⟩
    have hM3 := intR_len q2
    rcases e3 : intR q2 with ⟨i3, q3⟩
    rw [e1] at hZ hM1
    rw [e2] at hM2 hb2
    rw [e3] at hM3
    simp only [e2, e3] at hZ hM1 hM2 hM3 hb2
    have w2 : IntKind.i64.wrap (g : Int) = g := wrap_i64 _ (by omega) (by omega)
    subst hZ
    refine w_body (rs := [.cell 2 34, .tmp 3]) (tm := [.ptr 0 0, .any, .any, .any, .any, .any, .any, .any, .any, .any, .any, .any, .any, .any, .any, .any, .any, .any, .any, .any, .any, .any, .any, .any, .any, .any, .any, .any, .any, .any, .any, .any, .any, .any, .any, .any, .any, .any, .any, .any, .any, .any, .any, .any, .any, .any, .any, .any, .any, .any, .any, .any, .any, .any, .any, .any, .any, .any, .any]) fn_46 rfl rfl rfl rfl fun R hR => ?_
    (have zx1 := @w1; have zx2 := @d1; have zx3 := @d2; have zx4 := @d3; have zx5 := @d4; have zx6 := @w2; all_goals (try ((first | (with_reducible refine wp_id ?_) | (with_reducible refine does_id ?_) | (with_reducible refine ops_id ?_)); refine walk ?_; (repeat' (first | exact trivial | with_reducible refine And.intro ?_ ?_)); all_goals (repeat (first | (with_reducible refine ImpB.mk fun hb => ?_) | (with_reducible refine ImpK.mk fun hK => ?_) | (with_reducible refine ImpF.mk fun hF => ?_) | (with_reducible refine ImpQ.mk fun hp => ?_) | (with_reducible refine AllE.mk fun p => ?_) | (with_reducible refine AllR.mk fun rest => ?_) | (with_reducible refine AllK.mk fun K => ?_))))); repeat' (with_reducible refine And.intro ?_ ?_))
    all_goals first | (with_reducible exact Nat.le_refl _) | (show _ ≤ (_ : Nat); omega) | (show _ < (_ : Int); omega) | (show _ ≤ (_ : Int); omega) | (show (_ : Nat) = _; omega) | skip
    (focus (refine ⟨_, _, Gh.refl, [0], rfl, ?_⟩; (refine ⟨?_, ?_, ?_⟩ <;> simp only [go_sem, List.range, List.range.loop, List.nodup_cons, List.nodup_nil, List.mem_cons, List.not_mem_nil, or_false, or_self, decide_true, decide_false, Int.reduceToNat, Nat.min_eq_left, Nat.min_eq_right, Int.reducePow, Nat.reducePow, Int.reduceLE, Int.reduceLT, Int.reduceMul, Int.reduceAdd, Int.reduceSub, Int.reduceNeg, Bool.not_true, Bool.not_false, Bool.not_not, ↓reduceIte, Nat.reduceAdd, Nat.reduceSub, Nat.reduceMul, Nat.reduceEqDiff, reduceCtorEq, Nat.reduceLT, Nat.reduceLeDiff, Nat.reduceGT]); (try any_goals (refine ⟨?_, ?_⟩)); (try any_goals (with_reducible rfl))))
    all_goals (repeat' (first | (refine And.intro ?_ ?_) | (with_reducible rfl) | omega | rfl))
  have d4 : decide ((k : Int) = 4) = false := decide_eq_false (by omega)
  rw [if_neg k4] at hZ
  by_cases k5 : k = 5
  · rw [if_pos k5] at hZ
    have d5 : decide ((k : Int) = 5) = true := decide_eq_true (by omega)
    rcases e1 : intR q0 with ⟨i1, q1⟩
    rw [e1] at hZ
    subst hZ
    refine w_body (rs := [.cell 2 34, .tmp 3]) (tm := [.ptr 0 0, .any, .any, .any, .any, .any, .any, .any, .any, .any, .any, .any, .any, .any, .any, .any, .any, .any, .any, .any, .any, .any, .any, .any, .any, .any, .any, .any, .any, .any, .any, .any, .any, .any, .any, .any, .any, .any, .any, .any, .any, .any, .any, .any, .any, .any, .any, .any, .any, .any, .any, .any, .any, .any, .any, .any, .any, .any, .any]) fn_46 rfl rfl rfl rfl fun R hR => ?_
    (have zx1 := @w1; have zx2 := @d1; have zx3 := @d2; have zx4 := @d3; have zx5 := @d4; have zx6 := @d5; all_goals (try ((first | (with_reducible refine wp_id ?_) | (with_reducible refine does_id ?_) | (with_reducible refine ops_id ?_)); refine walk ?_; (repeat' (first | exact trivial | with_reducible refine And.intro ?_ ?_)); all_goals (repeat (first | (with_reducible refine ImpB.mk fun hb => ?_) | (with_reducible refine ImpK.mk fun hK => ?_) | (with_reducible refine ImpF.mk fun hF => ?_) | (with_reducible refine ImpQ.mk fun hp => ?_) | (with_reducible refine AllE.mk fun p => ?_) | (with_reducible refine AllR.mk fun rest => ?_) | (with_reducible refine AllK.mk fun K => ?_))))); repeat' (with_reducible refine And.intro ?_ ?_))
    all_goals first | (with_reducible exact Nat.le_refl _) | (show _ ≤ (_ : Nat); omega) | (show _ < (_ : Int); omega) | (show _ ≤ (_ : Int); omega) | (show (_ : Nat) = _; omega) | skip
    (focus (refine ⟨_, _, Gh.refl, [0], rfl, ?_⟩; (refine ⟨?_, ?_, ?_⟩ <;> simp only [go_sem, List.range, List.range.loop, List.nodup_cons, List.nodup_nil, List.mem_cons, List.not_mem_nil, or_false, or_self, decide_true, decide_false, Int.reduceToNat, Nat.min_eq_left, Nat.min_eq_right, Int.reducePow, Nat.reducePow, Int.reduceLE, Int.reduceLT, Int.reduceMul, Int.reduceAdd, Int.reduceSub, Int.reduceNeg, Bool.not_true, Bool.not_false, Bool.not_not, ↓reduceIte, Nat.reduceAdd, Nat.reduceSub, Nat.reduceMul, Nat.reduceEqDiff, reduceCtorEq, Nat.reduceLT, Nat.reduceLeDiff, Nat.reduceGT]); (try any_goals (refine ⟨?_, ?_⟩)); (try any_goals (with_reducible rfl))))
    all_goals (repeat' (first | (refine And.intro ?_ ?_) | (with_reducible rfl) | omega | rfl))
  · rw [if_neg k5] at hZ
    have d5 : decide ((k : Int) = 5) = false := decide_eq_false (by omega)
    subst hZ
    refine w_body (rs := [.cell 2 34, .tmp 3]) (tm := [.ptr 0 0, .any, .any, .any, .any, .any, .any, .any, .any, .any, .any, .any, .any, .any, .any, .any, .any, .any, .any, .any, .any, .any, .any, .any, .any, .any, .any, .any, .any, .any, .any, .any, .any, .any, .any, .any, .any, .any, .any, .any, .any, .any, .any, .any, .any, .any, .any, .any, .any, .any, .any, .any, .any, .any, .any, .any, .any, .any, .any]) fn_46 rfl rfl rfl rfl fun R hR => ?_
    (have zx1 := @w1; have zx2 := @d1; have zx3 := @d2; have zx4 := @d3; have zx5 := @d4; have zx6 := @d5; all_goals (try ((first | (with_reducible refine wp_id ?_) | (with_reducible refine does_id ?_) | (with_reducible refine ops_id ?_)); refine walk ?_; (repeat' (first | exact trivial | with_reducible refine And.intro ?_ ?_)); all_goals (repeat (first | (with_reducible refine ImpB.mk fun hb => ?_) | (with_reducible refine ImpK.mk fun hK => ?_) | (with_reducible refine ImpF.mk fun hF => ?_) | (with_reducible refine ImpQ.mk fun hp => ?_) | (with_reducible refine AllE.mk fun p => ?_) | (with_reducible refine AllR.mk fun rest => ?_) | (with_reducible refine AllK.mk fun K => ?_))))); repeat' (with_reducible refine And.intro ?_ ?_))
    all_goals first | (with_reducible exact Nat.le_refl _) | (show _ ≤ (_ : Nat); omega) | (show _ < (_ : Int); omega) | (show _ ≤ (_ : Int); omega) | (show (_ : Nat) = _; omega) | skip
    (focus (refine ⟨_, _, Gh.refl, [0], rfl, ?_⟩; (refine ⟨?_, ?_, ?_⟩ <;> simp only [go_sem, List.range, List.range.loop, List.nodup_cons, List.nodup_nil, List.mem_cons, List.not_mem_nil, or_false, or_self, decide_true, decide_false, Int.reduceToNat, Nat.min_eq_left, Nat.min_eq_right, Int.reducePow, Nat.reducePow, Int.reduceLE, Int.reduceLT, Int.reduceMul, Int.reduceAdd, Int.reduceSub, Int.reduceNeg, Bool.not_true, Bool.not_false, Bool.not_not, ↓reduceIte, Nat.reduceAdd, Nat.reduceSub, Nat.reduceMul, Nat.reduceEqDiff, reduceCtorEq, Nat.reduceLT, Nat.reduceLeDiff, Nat.reduceGT]); (try any_goals (refine ⟨?_, ?_⟩)); (try any_goals (with_reducible rfl))))
    all_goals (repeat' (first | (refine And.intro ?_ ?_) | (with_reducible rfl) | omega | rfl))
theorem c_read {h : List Ch} {K : KT} {t : Nat} {r : Option (List UInt8)} {x : Stp} {b : Bool} {r' : Option (List UInt8)} (H : K (.tup [.agg [.int .i64 x.kind, .int .i64 x.param, .int .i64 x.op, .int .i64 x.value, .int .i64 x.next, .int .i64 x.ticks, .int .i64 x.c.src, .int .i64 x.c.num, .int .i64 x.c.srv, .ro .int x.c.args, .ro .byte x.c.data], .bool b]) (h.set t (.pack (Rd r')))) (o : hth h t = .pack (Rd r)) (e : rdX r = (x, b, r')) (s1 : lenR r ≤ 1000000) : Does Try.prog 46 [.ptr t 0] h K := by
  have hb := b_read r s1
  rw [e] at hb
  exact frame_obj0 hb o (by simp) (fitC_pack _) (br_cons (br_ptr rfl) br_nil) (.inl rfl) (fun _ => rfl) rfl H
abbrev i_read := Ctr.mk (i := 0) (g := 46) @c_read
attribute [instance] i_read
theorem rdX_len (r : Option (List UInt8)) : lenR (rdX r).2.2 ≤ lenR r := by
  have h0 := uintR_lenR r 1
  have h1 := (blobR_lens (uintR r 1).2 4096).2
  have h2 := intR_len (uintR r 1).2
  have h3 := uintR_lenR (intR (uintR r 1).2).2 1
  have h4 := intR_len (uintR (intR (uintR r 1).2).2 1).2
  have h5 := intR_len (intR (uintR (intR (uintR r 1).2).2 1).2).2
  unfold rdX
  simp only
  split
  · exact Nat.le_trans h1 h0
  split
  · exact Nat.le_trans h2 h0
  split
  · exact Nat.le_trans h5 (Nat.le_trans h4 (Nat.le_trans h3 (Nat.le_trans h2 h0)))
  split
  · exact Nat.le_trans h4 (Nat.le_trans h3 (Nat.le_trans h2 h0))
  split
  · exact Nat.le_trans h2 h0
  · exact h0
theorem rdsS_lenR (r : Option (List UInt8)) : ∀ k, lenR (rdsS r k).2 ≤ lenR r
  | 0 => Nat.le_refl _
  | k + 1 => by
    have ih := rdsS_lenR r k
    rw [rdsS]
    split
    · rename_i r1 e; rw [e] at ih; exact ih
    · rename_i l r1 e
      rw [e] at ih
      have h1 := rdX_len r1
      rw [oneS_rdX]
      exact Nat.le_trans h1 ih
theorem intR_none {r : Option (List UInt8)} : (intR r).2 = none → (intR r).1 = 0 := by
  unfold intR
  split
  · intro _; rfl
  · split
    · intro _; rfl
    · intro h; cases h
theorem countR_le {r : Option (List UInt8)} {m : Int} (hm : 0 ≤ m) : (countR r m).1 ≤ m := by
  have h := intR_none (r := r)
  unfold countR
  split
  · rename_i n e
    rw [e] at h
    have := h rfl
    simp only at this
    simp only
    omega
  · split
    · exact hm
    · simp only; omega
theorem valid_args {c : Cmd} (h : validC c = true) : c.args.length ≤ 1099511627776 := by
  have h1 := ((validC_iff c).1 h).2.2.2.2.2.1
  have h2 := arg0_le c.srv
  omega
theorem rdX_lit {r : Option (List UInt8)} (h : (rdX r).2.1 = true) : (rdX r).1.c.args.length ≤ 1099511627776 := by
  revert h
  unfold rdX
  simp only
  split
  · intro h
    obtain ⟨c, hc⟩ := Option.isSome_iff_exists.1 h
    rw [hc]
    exact valid_args (decC_canon hc).2
  split
  · exact fun _ => (by decide : Cmd.zero.args.length ≤ 1099511627776)
  split
  · exact fun _ => (by decide : Cmd.zero.args.length ≤ 1099511627776)
  split
  · exact fun _ => (by decide : Cmd.zero.args.length ≤ 1099511627776)
  split
  · exact fun _ => (by decide : Cmd.zero.args.length ≤ 1099511627776)
  · exact fun _ => (by decide : Cmd.zero.args.length ≤ 1099511627776)
theorem rdsS_lit {r : Option (List UInt8)} : ∀ {k : Nat} {l : List Stp} {r1 : Option (List UInt8)}, rdsS r k = (some l, r1) → litQ l
  | 0, l, r1, h => by
    simp only [rdsS, Prod.mk.injEq, Option.some.injEq] at h
    rw [← h.1]
    intro x hx
    cases hx
  | k + 1, l, r1, h => by
    rw [rdsS] at h
    split at h
    · simp at h
    · rename_i l' r2 e
      have ih := rdsS_lit e
      rw [oneS_rdX] at h
      simp only [Prod.mk.injEq, Option.map_eq_some_iff] at h
      obtain ⟨⟨x, hx, h1⟩, _⟩ := h
      split at hx
      · rename_i hok
        cases hx
        have hl := rdX_lit hok
        subst h1
        intro y hy
        rcases List.mem_append.1 hy with hy | hy
        · exact ih y hy
        · rw [List.mem_singleton] at hy
          rw [hy]
          exact hl
      · cases hx
/-- what decoding steps answers -/
def qdecA (o : Option (List Stp)) : AV := match o with
  | some l => .tup [.ro .stp l, .int .i64 0]
  | none => .tup [.ro .stp [], .int .i64 4]
theorem b_qdec (b : List UInt8) (hb : b.length ≤ 1000000) : DoesK Try.prog 0 22 [.ro .byte b] [] (EndF 0 (qdecA (decQ b)) []) := by
  refine DoesK.close ?_
  have hL0 := countR_len (some b) 256
  rcases e0 : countR (some b) 256 with ⟨n, r0⟩
  rw [e0] at hL0
  have hn256 := countR_le (r := some b) (m := 256) (by decide)
  rw [e0] at hn256
  simp only at hn256
  have hLb : lenR (some b) = b.length := rfl
  simp only [hLb] at hL0
  refine w_body (rs := [.tmp 2, .tmp 3]) (tm := [.ro .byte b, .any, .any, .any, .any, .any, .any, .any, .any, .any, .any, .any, .any, .any, .any, .any, .any, .any, .any, .any, .any, .any, .any, .any, .any, .any, .any, .any, .any, .any, .any, .any, .any, .any, .any, .any, .any, .any, .any, .any, .any, .any, .any, .any, .any, .any, .any, .any, .any]) fn_22 rfl rfl rfl rfl fun R hR => ?_
  (all_goals (try ((first | (with_reducible refine wp_id ?_) | (with_reducible refine does_id ?_) | (with_reducible refine ops_id ?_)); refine walk ?_; (repeat' (first | exact trivial | with_reducible refine And.intro ?_ ?_)); all_goals (repeat (first | (with_reducible refine ImpB.mk fun hb => ?_) | (with_reducible refine ImpK.mk fun hK => ?_) | (with_reducible refine ImpF.mk fun hF => ?_) | (with_reducible refine ImpQ.mk fun hp => ?_) | (with_reducible refine AllE.mk fun p => ?_) | (with_reducible refine AllR.mk fun rest => ?_) | (with_reducible refine AllK.mk fun K => ?_))))); repeat' (with_reducible refine And.intro ?_ ?_))
  any_goals refine Wp.ghost (gh_adopt (s := 6) .stp trivial) ?_
  any_goals ((try (refine w_seq fun K hK => ?_)); (try (refine w_block ?_)); refine w_loop (A := Nat × List Stp × Option (List UInt8)) (fun p => rdsS r0 p.1 = (some p.2.1, p.2.2) ∧ p.1 ≤ n.toNat) (fun p => n.toNat - p.1) (fun p => [(6, .sl 1 .stp 0 p.1)]) (fun p => [(0, .pack (Rd p.2.2)), (1, .rows .stp p.2.1)]) ((0, [], r0)) (ws := ?ws1) (tk := ?tk1) ?hw1 ?ht1 ?hi ?h0 ?LH1; (case hw1 => simp only [go_sem, decide_true, decide_false, Int.reduceToNat, Nat.min_eq_left, Nat.min_eq_right, Int.reducePow, Nat.reducePow, Int.reduceLE, Int.reduceLT, Int.reduceMul, Int.reduceAdd, Int.reduceSub, Int.reduceNeg, Bool.not_true, Bool.not_false, Bool.not_not, ↓reduceIte, Nat.reduceAdd, Nat.reduceSub, Nat.reduceMul, Nat.reduceEqDiff, reduceCtorEq, Nat.reduceLT, Nat.reduceLeDiff, Nat.reduceGT]; exact rfl); (case ht1 => simp only [go_sem, decide_true, decide_false, Int.reduceToNat, Nat.min_eq_left, Nat.min_eq_right, Int.reducePow, Nat.reducePow, Int.reduceLE, Int.reduceLT, Int.reduceMul, Int.reduceAdd, Int.reduceSub, Int.reduceNeg, Bool.not_true, Bool.not_false, Bool.not_not, ↓reduceIte, Nat.reduceAdd, Nat.reduceSub, Nat.reduceMul, Nat.reduceEqDiff, reduceCtorEq, Nat.reduceLT, Nat.reduceLeDiff, Nat.reduceGT]; exact rfl); (case' LH1 => rintro ⟨k, l, r⟩ E t hx hE ht; simp only [go_sem] at ht; subst ht; simp only [go_sem]; try dsimp only at hx))
  case hi => exact ⟨rfl, Nat.zero_le _⟩
  case h0 => (focus (refine ⟨_, _, Gh.refl, [0, 1], rfl, ?_⟩; (refine ⟨?_, ?_, ?_⟩ <;> simp only [go_sem, List.range, List.range.loop, List.nodup_cons, List.nodup_nil, List.mem_cons, List.not_mem_nil, or_false, or_self, decide_true, decide_false, Int.reduceToNat, Nat.min_eq_left, Nat.min_eq_right, Int.reducePow, Nat.reducePow, Int.reduceLE, Int.reduceLT, Int.reduceMul, Int.reduceAdd, Int.reduceSub, Int.reduceNeg, Bool.not_true, Bool.not_false, Bool.not_not, ↓reduceIte, Nat.reduceAdd, Nat.reduceSub, Nat.reduceMul, Nat.reduceEqDiff, reduceCtorEq, Nat.reduceLT, Nat.reduceLeDiff, Nat.reduceGT]); (try any_goals (refine ⟨?_, ?_⟩)); (try any_goals (with_reducible rfl)))); (all_goals (repeat' (first | (refine And.intro ?_ ?_) | rfl)))
  case LH1 =>
    obtain ⟨hx0, hkn0⟩ := hx
    have hlr := rdsS_lenR r0 k
    rw [hx0] at hlr
    have hll := rdsS_length hx0
    have hL1 : lenR r ≤ 1000000 := by simp only at hlr; omega
    by_cases hk : k < n.toNat
    · have hkd : decide ((k : Int) < n) = true := decide_eq_true (by omega)
      have hst := rdsS_step hx0
      rw [oneS_rdX] at hst
      rcases e1 : rdX r with ⟨x, ok, q⟩
      rw [e1] at hst
      simp only at hst
      cases ok
      · (have zx1 := @hkd; all_goals (try ((first | (with_reducible refine wp_id ?_) | (with_reducible refine does_id ?_) | (with_reducible refine ops_id ?_)); refine walk ?_; (repeat' (first | exact trivial | with_reducible refine And.intro ?_ ?_)); all_goals (repeat (first | (with_reducible refine ImpB.mk fun hb => ?_) | (with_reducible refine ImpK.mk fun hK => ?_) | (with_reducible refine ImpF.mk fun hF => ?_) | (with_reducible refine ImpQ.mk fun hp => ?_) | (with_reducible refine AllE.mk fun p => ?_) | (with_reducible refine AllR.mk fun rest => ?_) | (with_reducible refine AllK.mk fun K => ?_))))); repeat' (with_reducible refine And.intro ?_ ?_))
        all_goals first | (with_reducible exact Nat.le_refl _) | (show _ ≤ (_ : Nat); omega) | (show _ < (_ : Int); omega) | (show _ ≤ (_ : Int); omega) | (show (_ : Nat) = _; omega) | skip
        rw [rdsS_no (k := k + 1) e0 (by rw [hst]; rfl) (by omega)]
        simp only [qdecA]
        (focus (refine ⟨_, _, Gh.refl, [], rfl, ?_⟩; (refine ⟨?_, ?_, ?_⟩ <;> simp only [go_sem, List.range, List.range.loop, List.nodup_cons, List.nodup_nil, List.mem_cons, List.not_mem_nil, or_false, or_self, decide_true, decide_false, Int.reduceToNat, Nat.min_eq_left, Nat.min_eq_right, Int.reducePow, Nat.reducePow, Int.reduceLE, Int.reduceLT, Int.reduceMul, Int.reduceAdd, Int.reduceSub, Int.reduceNeg, Bool.not_true, Bool.not_false, Bool.not_not, ↓reduceIte, Nat.reduceAdd, Nat.reduceSub, Nat.reduceMul, Nat.reduceEqDiff, reduceCtorEq, Nat.reduceLT, Nat.reduceLeDiff, Nat.reduceGT]); (try any_goals (refine ⟨?_, ?_⟩)); (try any_goals (with_reducible rfl))))
      · (have zx1 := @hkd; all_goals (try ((first | (with_reducible refine wp_id ?_) | (with_reducible refine does_id ?_) | (with_reducible refine ops_id ?_)); refine walk ?_; (repeat' (first | exact trivial | with_reducible refine And.intro ?_ ?_)); all_goals (repeat (first | (with_reducible refine ImpB.mk fun hb => ?_) | (with_reducible refine ImpK.mk fun hK => ?_) | (with_reducible refine ImpF.mk fun hF => ?_) | (with_reducible refine ImpQ.mk fun hp => ?_) | (with_reducible refine AllE.mk fun p => ?_) | (with_reducible refine AllR.mk fun rest => ?_) | (with_reducible refine AllK.mk fun K => ?_))))); repeat' (with_reducible refine And.intro ?_ ?_))
        all_goals first | (with_reducible exact Nat.le_refl _) | (show _ ≤ (_ : Nat); omega) | (show _ < (_ : Int); omega) | (show _ ≤ (_ : Int); omega) | (show (_ : Nat) = _; omega) | skip
        refine ⟨(k + 1, l ++ [x], q), ⟨⟨hst, by dsimp only; omega⟩, by dsimp only; omega⟩, ?_⟩
        (focus (refine ⟨_, _, Gh.refl, [0, 4], rfl, ?_⟩; (refine ⟨?_, ?_, ?_⟩ <;> simp only [go_sem, List.range, List.range.loop, List.nodup_cons, List.nodup_nil, List.mem_cons, List.not_mem_nil, or_false, or_self, decide_true, decide_false, Int.reduceToNat, Nat.min_eq_left, Nat.min_eq_right, Int.reducePow, Nat.reducePow, Int.reduceLE, Int.reduceLT, Int.reduceMul, Int.reduceAdd, Int.reduceSub, Int.reduceNeg, Bool.not_true, Bool.not_false, Bool.not_not, ↓reduceIte, Nat.reduceAdd, Nat.reduceSub, Nat.reduceMul, Nat.reduceEqDiff, reduceCtorEq, Nat.reduceLT, Nat.reduceLeDiff, Nat.reduceGT]); (try any_goals (refine ⟨?_, ?_⟩)); (try any_goals (with_reducible rfl))))
        all_goals (repeat' (first | (refine And.intro ?_ ?_) | (with_reducible rfl) | omega | rfl))
    · have hkn : k = n.toNat := by omega
      have hend := rdsS_end e0 (by rw [← hkn]; exact hx0)
      have hkd : decide ((k : Int) < n) = false := decide_eq_false (by omega)
      have hlit := rdsS_lit hx0
      have hl64 : l.length ≤ 9223372036854775807 := by omega
      subst hll
      cases hv : vldQ l
      · have hno : decQ b = none := by rw [hend, if_neg (by rintro ⟨_, q⟩; rw [hv] at q; cases q)]
        have hz : decide (¬ (1 : Int) = 0) = true := by decide
        (have zx1 := @hkd; have zx2 := @hv; have zx3 := @hz; all_goals (try ((first | (with_reducible refine wp_id ?_) | (with_reducible refine does_id ?_) | (with_reducible refine ops_id ?_)); refine walk ?_; (repeat' (first | exact trivial | with_reducible refine And.intro ?_ ?_)); all_goals (repeat (first | (with_reducible refine ImpB.mk fun hb => ?_) | (with_reducible refine ImpK.mk fun hK => ?_) | (with_reducible refine ImpF.mk fun hF => ?_) | (with_reducible refine ImpQ.mk fun hp => ?_) | (with_reducible refine AllE.mk fun p => ?_) | (with_reducible refine AllR.mk fun rest => ?_) | (with_reducible refine AllK.mk fun K => ?_))))); repeat' (with_reducible refine And.intro ?_ ?_))
        all_goals first | (with_reducible exact Nat.le_refl _) | (show _ ≤ (_ : Nat); omega) | (show _ < (_ : Int); omega) | (show _ ≤ (_ : Int); omega) | (show (_ : Nat) = _; omega) | skip
        rw [hno]
        simp only [qdecA]
        (focus (refine ⟨_, _, Gh.refl, [], rfl, ?_⟩; (refine ⟨?_, ?_, ?_⟩ <;> simp only [go_sem, List.range, List.range.loop, List.nodup_cons, List.nodup_nil, List.mem_cons, List.not_mem_nil, or_false, or_self, decide_true, decide_false, Int.reduceToNat, Nat.min_eq_left, Nat.min_eq_right, Int.reducePow, Nat.reducePow, Int.reduceLE, Int.reduceLT, Int.reduceMul, Int.reduceAdd, Int.reduceSub, Int.reduceNeg, Bool.not_true, Bool.not_false, Bool.not_not, ↓reduceIte, Nat.reduceAdd, Nat.reduceSub, Nat.reduceMul, Nat.reduceEqDiff, reduceCtorEq, Nat.reduceLT, Nat.reduceLeDiff, Nat.reduceGT]); (try any_goals (refine ⟨?_, ?_⟩)); (try any_goals (with_reducible rfl))))
      · by_cases hr : r = some []
        · have hre : decide (r = some []) = true := decide_eq_true hr
          have hsm : encQ l = b := rdsS_same e0 (by rw [← hkn, ← hr]; exact hx0)
          have hbe : decide (encQ l = b) = true := decide_eq_true hsm
          have hyes : decQ b = some l := by rw [hend, if_pos ⟨hr, hv⟩]
          (have zx1 := @hkd; have zx2 := @hv; have zx3 := @hre; have zx4 := @hbe; all_goals (try ((first | (with_reducible refine wp_id ?_) | (with_reducible refine does_id ?_) | (with_reducible refine ops_id ?_)); refine walk ?_; (repeat' (first | exact trivial | with_reducible refine And.intro ?_ ?_)); all_goals (repeat (first | (with_reducible refine ImpB.mk fun hb => ?_) | (with_reducible refine ImpK.mk fun hK => ?_) | (with_reducible refine ImpF.mk fun hF => ?_) | (with_reducible refine ImpQ.mk fun hp => ?_) | (with_reducible refine AllE.mk fun p => ?_) | (with_reducible refine AllR.mk fun rest => ?_) | (with_reducible refine AllK.mk fun K => ?_))))); repeat' (with_reducible refine And.intro ?_ ?_))
          all_goals first | (with_reducible exact Nat.le_refl _) | (show _ ≤ (_ : Nat); omega) | (show _ < (_ : Int); omega) | (show _ ≤ (_ : Int); omega) | (show (_ : Nat) = _; omega) | skip
          rw [hyes]
          simp only [qdecA]
          refine ⟨_, _, gh_frz (t := 1) (e := .stp) (xs := l) rfl ?f1 ?f2, [], rfl, ?ft⟩
          case' ft => (refine ⟨?_, ?_, ?_⟩ <;> simp only [go_sem, List.range, List.range.loop, List.nodup_cons, List.nodup_nil, List.mem_cons, List.not_mem_nil, or_false, or_self, decide_true, decide_false, Int.reduceToNat, Nat.min_eq_left, Nat.min_eq_right, Int.reducePow, Nat.reducePow, Int.reduceLE, Int.reduceLT, Int.reduceMul, Int.reduceAdd, Int.reduceSub, Int.reduceNeg, Bool.not_true, Bool.not_false, Bool.not_not, ↓reduceIte, Nat.reduceAdd, Nat.reduceSub, Nat.reduceMul, Nat.reduceEqDiff, reduceCtorEq, Nat.reduceLT, Nat.reduceLeDiff, Nat.reduceGT])
          case' f1 => simp only [go_sem, decide_true, decide_false, Int.reduceToNat, Nat.min_eq_left, Nat.min_eq_right, Int.reducePow, Nat.reducePow, Int.reduceLE, Int.reduceLT, Int.reduceMul, Int.reduceAdd, Int.reduceSub, Int.reduceNeg, Bool.not_true, Bool.not_false, Bool.not_not, ↓reduceIte, Nat.reduceAdd, Nat.reduceSub, Nat.reduceMul, Nat.reduceEqDiff, reduceCtorEq, Nat.reduceLT, Nat.reduceLeDiff, Nat.reduceGT]
          case' f2 => simp only [go_sem, decide_true, decide_false, Int.reduceToNat, Nat.min_eq_left, Nat.min_eq_right, Int.reducePow, Nat.reducePow, Int.reduceLE, Int.reduceLT, Int.reduceMul, Int.reduceAdd, Int.reduceSub, Int.reduceNeg, Bool.not_true, Bool.not_false, Bool.not_not, ↓reduceIte, Nat.reduceAdd, Nat.reduceSub, Nat.reduceMul, Nat.reduceEqDiff, reduceCtorEq, Nat.reduceLT, Nat.reduceLeDiff, Nat.reduceGT]
          all_goals first | exact Nat.le_refl _ | exact ⟨Nat.le_refl _, False.elim⟩ | exact False.elim | (repeat' (first | (refine And.intro ?_ ?_) | rfl))
        · have hre : decide (r = some []) = false := decide_eq_false hr
          have hno : decQ b = none := by rw [hend, if_neg (by rintro ⟨q, _⟩; exact hr q)]
          (have zx1 := @hkd; have zx2 := @hv; have zx3 := @hre; all_goals (try ((first | (with_reducible refine wp_id ?_) | (with_reducible refine does_id ?_) | (with_reducible refine ops_id ?_)); refine walk ?_; (repeat' (first | exact trivial | with_reducible refine And.intro ?_ ?_)); all_goals (repeat (first | (with_reducible refine ImpB.mk fun hb => ?_) | (with_reducible refine ImpK.mk fun hK => ?_) | (with_reducible refine ImpF.mk fun hF => ?_) | (with_reducible refine ImpQ.mk fun hp => ?_) | (with_reducible refine AllE.mk fun p => ?_) | (with_reducible refine AllR.mk fun rest => ?_) | (with_reducible refine AllK.mk fun K => ?_))))); repeat' (with_reducible refine And.intro ?_ ?_))
          all_goals first | (with_reducible exact Nat.le_refl _) | (show _ ≤ (_ : Nat); omega) | (show _ < (_ : Int); omega) | (show _ ≤ (_ : Int); omega) | (show (_ : Nat) = _; omega) | skip
          rw [hno]
          simp only [qdecA]
          (focus (refine ⟨_, _, Gh.refl, [], rfl, ?_⟩; (refine ⟨?_, ?_, ?_⟩ <;> simp only [go_sem, List.range, List.range.loop, List.nodup_cons, List.nodup_nil, List.mem_cons, List.not_mem_nil, or_false, or_self, decide_true, decide_false, Int.reduceToNat, Nat.min_eq_left, Nat.min_eq_right, Int.reducePow, Nat.reducePow, Int.reduceLE, Int.reduceLT, Int.reduceMul, Int.reduceAdd, Int.reduceSub, Int.reduceNeg, Bool.not_true, Bool.not_false, Bool.not_not, ↓reduceIte, Nat.reduceAdd, Nat.reduceSub, Nat.reduceMul, Nat.reduceEqDiff, reduceCtorEq, Nat.reduceLT, Nat.reduceLeDiff, Nat.reduceGT]); (try any_goals (refine ⟨?_, ?_⟩)); (try any_goals (with_reducible rfl))))
theorem c_qdec {h : List Ch} {K : KT} {b : List UInt8} {a : AV} (H : K (qdecA (decQ b)) h) (q1 : isRO .byte b a) (s1 : b.length ≤ 1000000) : Does Try.prog 22 [a] h K :=
  frame_pure (b_qdec b s1) (br_cons q1.br br_nil) (.inl (by rw [brTL, q1.brT]; rfl)) (fun _ => by unfold qdecA; cases decQ b <;> rfl) H
abbrev i_qdec := Ctr.mk (i := 0) (g := 22) @c_qdec
attribute [instance] i_qdec
end Go.V
