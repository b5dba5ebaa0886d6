/-
  The program's link for the laws: folded.
  The laws of the link: LinkPlays.
  The laws of the link: LinkNil.
  From the arguments of a given statement to abstract values: what is read as data lies for good.
  The arguments of the statements of chapter 23 as abstract values.
-/
import Derived.Test.YtnlndokgejiafaaPart16
import Derived.ChangeArms
import Derived.ChangeShapes
import Derived.ChangeReads
import Derived.DataReads
import Derived.Below
import Derived.OpenShut
import Derived.RowKit
import Derived.Carry
set_option linter.unusedVariables false
set_option linter.unusedSimpArgs false
set_option maxRecDepth 100000
set_option maxHeartbeats 8000000
namespace Go.V
open Go.Proofs
/-- a link as it lies, folded -/
def LKF (s : Lk) : Ch := .pack (LKO s)
theorem c_Fsend {h : List Ch} {K : KT} {u : Nat} {s : Lk} {n : Int} {b : List UInt8} {a : AV} (H : K (.int .i64 0) (h.set u (LKF (sendK s n b)))) (o : hth h u = LKF s) (q1 : isRO .byte b a) (s1 : okL s) (s2 : b.length ≤ 1000000) (s3 : s.sent ≤ 1000000) : Does Try.prog 9 [.ptr u 0, .int .i64 n, a] h K := k_send H o q1 s1 s2 s3
abbrev i_Fsend := Ctr.mk (i := 2) (g := 9) @c_Fsend
attribute [instance] i_Fsend
theorem c_Frecv {h : List Ch} {K : KT} {u : Nat} {s : Lk} {n : Int} (H : K (.ro .bytes (outK s n)) (h.set u (LKF (recvK s n)))) (o : hth h u = LKF s) (s1 : okL s) (s3 : s.sent ≤ 1000000) : Does Try.prog 10 [.ptr u 0, .int .i64 n] h K := k_recv H o s1 s3
abbrev i_Frecv := Ctr.mk (i := 2) (g := 10) @c_Frecv
attribute [instance] i_Frecv
theorem c_Fsent {h : List Ch} {K : KT} {u : Nat} {s : Lk} (H : K (.int .i64 s.sent) h) (o : hth h u = LKF s) : Does Try.prog 13 [.ptr u 0] h K := k_Sent (dl := s.c.dl) (now := s.now) (out := s.c.out) (lost := s.c.lost) (flips := s.c.flips) (P := s.P) H o
abbrev i_Fsent := Ctr.mk (i := 2) (g := 13) @c_Fsent
attribute [instance] i_Fsent
theorem c_Fpend {h : List Ch} {K : KT} {u : Nat} {s : Lk} (H : K (.int .i64 s.P.length) h) (o : hth h u = LKF s) : Does Try.prog 12 [.ptr u 0] h K := k_Pending (dl := s.c.dl) (now := s.now) (sent := s.sent) (out := s.c.out) (lost := s.c.lost) (flips := s.c.flips) (P := s.P) H o
abbrev i_Fpend := Ctr.mk (i := 2) (g := 12) @c_Fpend
attribute [instance] i_Fpend
theorem c_Fclone {h : List Ch} {K : KT} {u : Nat} {s : Lk} (H : K (.ptr h.length 0) (h ++ [LKF s])) (o : hth h u = LKF s) (s1 : okL s) : Does Try.prog 18 [.ptr u 0] h K := k_clone H o s1
abbrev i_Fclone := Ctr.mk (i := 2) (g := 18) @c_Fclone
attribute [instance] i_Fclone
theorem c_Fnew {h : List Ch} {K : KT} {dl : Int} {out : List Rng} {lost : List Int} {flips : List Flp} {a1 a2 a3 : AV} (H : K (.tup [.ptr h.length 0, .int .i64 0]) (h ++ [LKF ⟨⟨dl, out, lost, flips⟩, 0, 0, []⟩])) (q1 : isRO .rng out a1) (q2 : isRO .int lost a2) (q3 : isRO .flp flips a3) (e1 : fitsB ⟨dl, out, lost, flips⟩ = true) (s1 : out.length ≤ 1000000 ∧ lost.length ≤ 1000000 ∧ flips.length ≤ 1000000) : Does Try.prog 8 [.agg [.int .i64 dl, a1, a2, a3]] h K := k_newY H q1 q2 q3 e1 s1
abbrev i_Fnew := Ctr.mk (i := 1) (g := 8) @c_Fnew
attribute [instance] i_Fnew
/-- the chapter's example, step by step -/
def A0 : Lk := ⟨⟨5, [⟨10, 20⟩], [1], [⟨2, 0⟩]⟩, 0, 0, []⟩
def A1 : Lk := ⟨⟨5, [⟨10, 20⟩], [1], [⟨2, 0⟩]⟩, 0, 1, [(0, ⟨5, [1]⟩)]⟩
def A2 : Lk := ⟨⟨5, [⟨10, 20⟩], [1], [⟨2, 0⟩]⟩, 1, 2, [(0, ⟨5, [1]⟩)]⟩
def A3 : Lk := ⟨⟨5, [⟨10, 20⟩], [1], [⟨2, 0⟩]⟩, 2, 3, [(0, ⟨5, [1]⟩), (2, ⟨7, [129]⟩)]⟩
def A4 : Lk := ⟨⟨5, [⟨10, 20⟩], [1], [⟨2, 0⟩]⟩, 4, 3, [(0, ⟨5, [1]⟩), (2, ⟨7, [129]⟩)]⟩
def A5 : Lk := ⟨⟨5, [⟨10, 20⟩], [1], [⟨2, 0⟩]⟩, 6, 3, [(2, ⟨7, [129]⟩)]⟩
def A6 : Lk := ⟨⟨5, [⟨10, 20⟩], [1], [⟨2, 0⟩]⟩, 7, 3, []⟩
def A7 : Lk := ⟨⟨5, [⟨10, 20⟩], [1], [⟨2, 0⟩]⟩, 12, 4, []⟩
def A8 : Lk := ⟨⟨5, [⟨10, 20⟩], [1], [⟨2, 0⟩]⟩, 99, 4, []⟩
theorem lka0 : (⟨⟨5, [⟨10, 20⟩], [1], [⟨2, 0⟩]⟩, 0, 0, []⟩ : Lk) = A0 := rfl
theorem lka1 : sendK A0 0 [UInt8.ofNat 1] = A1 := by rfl
theorem lka2 : sendK A1 1 [UInt8.ofNat 1] = A2 := by rfl
theorem lka3 : sendK A2 2 [UInt8.ofNat 1] = A3 := by rfl
theorem lka4 : recvK A3 4 = A4 := by rfl
theorem lka5 : recvK A4 6 = A5 := by rfl
theorem lka6 : recvK A5 7 = A6 := by rfl
theorem lka7 : sendK A6 12 [UInt8.ofNat 1] = A7 := by rfl
theorem lka8 : recvK A7 99 = A8 := by rfl
theorem lkx4 : outK A3 4 = [] := by rfl
theorem lkx5 : outK A4 6 = [[UInt8.ofNat 1]] := by rfl
theorem lkx6 : outK A5 7 = [[UInt8.ofNat 129]] := by rfl
theorem lkx8 : outK A7 99 = [] := by rfl
theorem ok0 : okL A0 := by
  refine ⟨?_, ?_, ?_, ?_, ?_, ?_, ?_, ?_, ?_, ?_, ?_⟩ <;> (unfold A0; simp)
theorem ok1 : okL A1 := lka1 ▸ ok0.send 0 (by decide)
theorem ok2 : okL A2 := lka2 ▸ ok1.send 1 (by decide)
theorem ok3 : okL A3 := lka3 ▸ ok2.send 2 (by decide)
theorem ok4 : okL A4 := lka4 ▸ ok3.recv 4
theorem ok5 : okL A5 := lka5 ▸ ok4.recv 6
theorem ok6 : okL A6 := lka6 ▸ ok5.recv 7
theorem ok7 : okL A7 := lka7 ▸ ok6.send 12 (by decide)
theorem lkp5 : A5.P.length = 1 := rfl
theorem lkp8 : A8.P.length = 0 := rfl
theorem lkt8 : A8.sent = 4 := rfl
theorem b_alive : DoesK Try.prog 0 7 [] [] (EndF 0 (.bool true) []) := by
  refine DoesK.close ?_
  have hro : RoLit := .mk
  have f1 : fitsB ⟨5, [⟨10, 20⟩], [1], [⟨2, 0⟩]⟩ = true := by decide
  have f2 : fitsB ⟨-1, [], [], []⟩ = false := by decide
  refine w_body (rs := [.tmp 0]) (tm := [.any, .any, .any, .any, .any, .any, .any, .any, .any, .any, .any, .any, .any, .any, .any, .any, .any, .any, .any, .any, .any, .any, .any, .any, .any, .any, .any, .any, .any, .any, .any, .any, .any, .any, .any, .any, .any, .any, .any, .any, .any, .any, .any, .any, .any, .any, .any, .any, .any, .any, .any, .any, .any, .any, .any, .any, .any, .any, .any, .any, .any, .any, .any, .any, .any, .any, .any, .any, .any, .any, .any, .any, .any, .any, .any, .any, .any, .any, .any, .any, .any, .any, .any, .any, .any, .any, .any, .any, .any, .any, .any, .any]) fn_7 rfl rfl rfl rfl fun R hR => ?_
  have j1 := And.intro lka0 (And.intro lka1 lka2)
  have j2 := And.intro lka3 (And.intro lka4 lka5)
  have j3 := And.intro lka6 (And.intro lka7 lka8)
  have j4 := And.intro lkx4 (And.intro lkx5 lkx6)
  have j5 := And.intro lkx8 (And.intro lkp5 (And.intro lkp8 lkt8))
  (have zx1 := @j1; have zx2 := @j2; have zx3 := @j3; have zx4 := @j4; have zx5 := @j5; all_goals (try ((first | (with_reducible refine wp_id ?_) | (with_reducible refine does_id ?_) | (with_reducible refine ops_id ?_)); refine walk ?_; (repeat' (first | exact trivial | with_reducible refine And.intro ?_ ?_)); all_goals (repeat (first | (with_reducible refine ImpB.mk fun hb => ?_) | (with_reducible refine ImpK.mk fun hK => ?_) | (with_reducible refine ImpF.mk fun hF => ?_) | (with_reducible refine ImpQ.mk fun hp => ?_) | (with_reducible refine AllE.mk fun p => ?_) | (with_reducible refine AllR.mk fun rest => ?_) | (with_reducible refine AllK.mk fun K => ?_))))); repeat' (with_reducible refine And.intro ?_ ?_))
  all_goals first | exact ok0 | exact ok1 | exact ok2 | exact ok3 | exact ok4 | exact ok5 | exact ok6 | exact ok7 | (show _ ≤ (_ : Int); decide) | (simp; done) | skip
  (focus (refine ⟨_, _, Gh.refl, [], rfl, ?_⟩; (refine ⟨?_, ?_, ?_⟩ <;> simp only [go_sem, List.range, List.range.loop, List.nodup_cons, List.nodup_nil, List.mem_cons, List.not_mem_nil, or_false, or_self, decide_true, decide_false, Int.reduceToNat, Nat.min_eq_left, Nat.min_eq_right, Int.reducePow, Nat.reducePow, Int.reduceLE, Int.reduceLT, Int.reduceMul, Int.reduceAdd, Int.reduceSub, Int.reduceNeg, Bool.not_true, Bool.not_false, Bool.not_not, ↓reduceIte, Nat.reduceAdd, Nat.reduceSub, Nat.reduceMul, Nat.reduceEqDiff, reduceCtorEq, Nat.reduceLT, Nat.reduceLeDiff, Nat.reduceGT]); (try any_goals (refine ⟨?_, ?_⟩)); (try any_goals (with_reducible rfl))))
theorem c_alive {h : List Ch} {K : KT} (H : K (.bool true) h) : Does Try.prog 7 [] h K :=
  frame_pure b_alive br_nil (.inl rfl) (fun _ => rfl) H
abbrev i_alive := Ctr.mk (i := 0) (g := 7) @c_alive
attribute [instance] i_alive
end Go.V

set_option maxRecDepth 100000
set_option maxHeartbeats 16000000
namespace Go.V
open Go.Proofs
def fewB (c : Cfg) : Bool := decide (c.out.length ≤ 30) && decide (c.lost.length ≤ 60) && decide (c.flips.length ≤ 60)
theorem b_few (dl : Int) (out : List Rng) (lost : List Int) (flips : List Flp) : DoesK Try.prog 0 14 [.agg [.int .i64 dl, .ro .rng out, .ro .int lost, .ro .flp flips]] [] (EndF 0 (.bool (fewB ⟨dl, out, lost, flips⟩)) []) := by
  refine DoesK.close ?_
  unfold fewB
  dsimp only
  by_cases c1 : out.length ≤ 30
  · have d1 : decide ((out.length : Int) ≤ 30) = true := decide_eq_true (by omega)
    rw [decide_eq_true c1]
    by_cases c2 : lost.length ≤ 60
    · have d2 : decide ((lost.length : Int) ≤ 60) = true := decide_eq_true (by omega)
      rw [decide_eq_true c2]
      refine w_body (rs := [.tmp 2]) (tm := [.agg [.int .i64 dl, .ro .rng out, .ro .int lost, .ro .flp flips], .any, .any, .any, .any, .any, .any, .any, .any, .any, .any, .any, .any, .any, .any, .any, .any, .any, .any]) fn_14 rfl rfl rfl rfl fun R hR => ?_
      (have zx1 := @d1; have zx2 := @d2; all_goals (try ((first | (with_reducible refine wp_id ?_) | (with_reducible refine does_id ?_) | (with_reducible refine ops_id ?_)); refine walk ?_; (repeat' (first | exact trivial | with_reducible refine And.intro ?_ ?_)); all_goals (repeat (first | (with_reducible refine ImpB.mk fun hb => ?_) | (with_reducible refine ImpK.mk fun hK => ?_) | (with_reducible refine ImpF.mk fun hF => ?_) | (with_reducible refine ImpQ.mk fun hp => ?_) | (with_reducible refine AllE.mk fun p => ?_) | (with_reducible refine AllR.mk fun rest => ?_) | (with_reducible refine AllK.mk fun K => ?_))))); repeat' (with_reducible refine And.intro ?_ ?_))
      (focus (refine ⟨_, _, Gh.refl, [], rfl, ?_⟩; (refine ⟨?_, ?_, ?_⟩ <;> simp only [go_sem, List.range, List.range.loop, List.nodup_cons, List.nodup_nil, List.mem_cons, List.not_mem_nil, or_false, or_self, decide_true, decide_false, Int.reduceToNat, Nat.min_eq_left, Nat.min_eq_right, Int.reducePow, Nat.reducePow, Int.reduceLE, Int.reduceLT, Int.reduceMul, Int.reduceAdd, Int.reduceSub, Int.reduceNeg, Bool.not_true, Bool.not_false, Bool.not_not, ↓reduceIte, Nat.reduceAdd, Nat.reduceSub, Nat.reduceMul, Nat.reduceEqDiff, reduceCtorEq, Nat.reduceLT, Nat.reduceLeDiff, Nat.reduceGT]); (try any_goals (refine ⟨?_, ?_⟩)); (try any_goals (with_reducible rfl))))
      exact decide_eq_decide.2 (by omega)
    · have d2 : decide ((lost.length : Int) ≤ 60) = false := decide_eq_false (by omega)
      rw [decide_eq_false c2]
      refine w_body (rs := [.tmp 2]) (tm := [.agg [.int .i64 dl, .ro .rng out, .ro .int lost, .ro .flp flips], .any, .any, .any, .any, .any, .any, .any, .any, .any, .any, .any, .any, .any, .any, .any, .any, .any, .any]) fn_14 rfl rfl rfl rfl fun R hR => ?_
      (have zx1 := @d1; have zx2 := @d2; all_goals (try ((first | (with_reducible refine wp_id ?_) | (with_reducible refine does_id ?_) | (with_reducible refine ops_id ?_)); refine walk ?_; (repeat' (first | exact trivial | with_reducible refine And.intro ?_ ?_)); all_goals (repeat (first | (with_reducible refine ImpB.mk fun hb => ?_) | (with_reducible refine ImpK.mk fun hK => ?_) | (with_reducible refine ImpF.mk fun hF => ?_) | (with_reducible refine ImpQ.mk fun hp => ?_) | (with_reducible refine AllE.mk fun p => ?_) | (with_reducible refine AllR.mk fun rest => ?_) | (with_reducible refine AllK.mk fun K => ?_))))); repeat' (with_reducible refine And.intro ?_ ?_))
      (focus (refine ⟨_, _, Gh.refl, [], rfl, ?_⟩; (refine ⟨?_, ?_, ?_⟩ <;> simp only [go_sem, List.range, List.range.loop, List.nodup_cons, List.nodup_nil, List.mem_cons, List.not_mem_nil, or_false, or_self, decide_true, decide_false, Int.reduceToNat, Nat.min_eq_left, Nat.min_eq_right, Int.reducePow, Nat.reducePow, Int.reduceLE, Int.reduceLT, Int.reduceMul, Int.reduceAdd, Int.reduceSub, Int.reduceNeg, Bool.not_true, Bool.not_false, Bool.not_not, ↓reduceIte, Nat.reduceAdd, Nat.reduceSub, Nat.reduceMul, Nat.reduceEqDiff, reduceCtorEq, Nat.reduceLT, Nat.reduceLeDiff, Nat.reduceGT]); (try any_goals (refine ⟨?_, ?_⟩)); (try any_goals (with_reducible rfl))))
      all_goals rfl
  · have d1 : decide ((out.length : Int) ≤ 30) = false := decide_eq_false (by omega)
    rw [decide_eq_false c1]
    refine w_body (rs := [.tmp 2]) (tm := [.agg [.int .i64 dl, .ro .rng out, .ro .int lost, .ro .flp flips], .any, .any, .any, .any, .any, .any, .any, .any, .any, .any, .any, .any, .any, .any, .any, .any, .any, .any]) fn_14 rfl rfl rfl rfl fun R hR => ?_
    (have zx1 := @d1; all_goals (try ((first | (with_reducible refine wp_id ?_) | (with_reducible refine does_id ?_) | (with_reducible refine ops_id ?_)); refine walk ?_; (repeat' (first | exact trivial | with_reducible refine And.intro ?_ ?_)); all_goals (repeat (first | (with_reducible refine ImpB.mk fun hb => ?_) | (with_reducible refine ImpK.mk fun hK => ?_) | (with_reducible refine ImpF.mk fun hF => ?_) | (with_reducible refine ImpQ.mk fun hp => ?_) | (with_reducible refine AllE.mk fun p => ?_) | (with_reducible refine AllR.mk fun rest => ?_) | (with_reducible refine AllK.mk fun K => ?_))))); repeat' (with_reducible refine And.intro ?_ ?_))
    (focus (refine ⟨_, _, Gh.refl, [], rfl, ?_⟩; (refine ⟨?_, ?_, ?_⟩ <;> simp only [go_sem, List.range, List.range.loop, List.nodup_cons, List.nodup_nil, List.mem_cons, List.not_mem_nil, or_false, or_self, decide_true, decide_false, Int.reduceToNat, Nat.min_eq_left, Nat.min_eq_right, Int.reducePow, Nat.reducePow, Int.reduceLE, Int.reduceLT, Int.reduceMul, Int.reduceAdd, Int.reduceSub, Int.reduceNeg, Bool.not_true, Bool.not_false, Bool.not_not, ↓reduceIte, Nat.reduceAdd, Nat.reduceSub, Nat.reduceMul, Nat.reduceEqDiff, reduceCtorEq, Nat.reduceLT, Nat.reduceLeDiff, Nat.reduceGT]); (try any_goals (refine ⟨?_, ?_⟩)); (try any_goals (with_reducible rfl))))
    all_goals rfl
theorem c_few {h : List Ch} {K : KT} {dl : Int} {out : List Rng} {lost : List Int} {flips : List Flp} (H : K (.bool (fewB ⟨dl, out, lost, flips⟩)) h) : Does Try.prog 14 [.agg [.int .i64 dl, .ro .rng out, .ro .int lost, .ro .flp flips]] h K :=
  frame_pure (b_few dl out lost flips) (br_cons (br_agg (br_cons br_int (br_cons br_ro (br_cons br_ro (br_cons br_ro br_nil))))) br_nil) (.inr rfl) (fun _ => rfl) H
abbrev i_few := Ctr.mk (i := 0) (g := 14) @c_few
attribute [instance] i_few
theorem sentP {P : List (Int × Arr)} {b : Bool} {i : Int} {a : Arr} : (if b = true then P.map (fun p => p.2) else P.map (fun p => p.2) ++ [a]) = (if b = true then P else P ++ [(i, a)]).map fun p => p.2 := by
  split
  · rfl
  · rw [List.map_append]; rfl
theorem recvD {P : List (Int × Arr)} {N : Int} (h : P.Pairwise fun a b => a.2.time ≤ b.2.time) : (P.map fun p => p.2).dropWhile (dueA N) = (P.filter fun p => !due N p).map fun p => p.2 := by
  rw [(due_split h).2, List.dropWhile_map]; rfl
theorem recvT {P : List (Int × Arr)} {N : Int} (h : P.Pairwise fun a b => a.2.time ≤ b.2.time) : ((P.map fun p => p.2).takeWhile (dueA N)).map Arr.data = (P.filter fun p => due N p).map fun p => p.2.data := by
  rw [(due_split h).1, List.takeWhile_map, List.map_map]; rfl
theorem ok_new {dl : Int} {out : List Rng} {lost : List Int} {flips : List Flp} (hf : fitsB ⟨dl, out, lost, flips⟩ = true) (h1 : out.length ≤ 1000000) (h2 : lost.length ≤ 1000000) (h3 : flips.length ≤ 1000000) : okL ⟨⟨dl, out, lost, flips⟩, 0, 0, []⟩ := by
  unfold fitsB at hf
  dsimp only at hf
  simp only [Bool.and_eq_true, decide_eq_true_eq, Bool.not_eq_true'] at hf
  obtain ⟨⟨⟨g1, g2⟩, g3⟩, g4⟩ := hf
  refine ⟨⟨h1, h2, h3⟩, ⟨g1, g2⟩, fun f hf => ?_, ⟨Int.le_refl _, (by decide : (0 : Int) ≤ 1099511627776)⟩, Int.le_refl _, Int.le_refl _, List.Pairwise.nil, ?_, ?_, List.Pairwise.nil, ?_⟩
  rotate_left
  · intro p hp; cases hp
  · intro p hp; cases hp
  · intro p hp; cases hp
  have := List.any_eq_false.1 g4 f hf
  unfold negFlp at this
  simp only [Bool.or_eq_true, decide_eq_true_eq] at this
  omega
theorem b_plays (c : Cfg) (l : List Opl) (hl : l.length ≤ 9223372036854775807) : DoesK Try.prog 0 5 [.agg [.int .i64 c.dl, .ro .rng c.out, .ro .int c.lost, .ro .flp c.flips], .ro .opl l] [] (EndF 0 (.bool true) []) := by
  refine DoesK.close ?_
  obtain ⟨dl, out, lost, flips⟩ := c
  dsimp only
  cases hfew : fewB ⟨dl, out, lost, flips⟩
  · refine w_body (rs := [.tmp 4]) (tm := [.agg [.int .i64 dl, .ro .rng out, .ro .int lost, .ro .flp flips], .ro .opl l, .any, .any, .any, .any, .any, .any, .any, .any, .any, .any, .any, .any, .any, .any, .any, .any, .any, .any, .any, .any, .any, .any, .any, .any, .any, .any, .any, .any, .any, .any, .any, .any, .any, .any, .any, .any, .any, .any, .any, .any, .any, .any, .any, .any, .any, .any, .any, .any, .any, .any, .any, .any, .any, .any, .any, .any, .any, .any, .any, .any, .any, .any, .any, .any, .any, .any, .any, .any, .any, .any, .any, .any, .any, .any, .any, .any, .any, .any, .any, .any, .any, .any, .any, .any, .any, .any, .any, .any, .any, .any, .any, .any, .any, .any, .any, .any, .any, .any, .any, .any, .any, .any, .any, .any, .any, .any, .any, .any, .any, .any, .any, .any, .any, .any, .any, .any, .any, .any, .any]) fn_5 rfl rfl rfl rfl fun R hR => ?_
    (have zx1 := @hfew; all_goals (try ((first | (with_reducible refine wp_id ?_) | (with_reducible refine does_id ?_) | (with_reducible refine ops_id ?_)); refine walk ?_; (repeat' (first | exact trivial | with_reducible refine And.intro ?_ ?_)); all_goals (repeat (first | (with_reducible refine ImpB.mk fun hb => ?_) | (with_reducible refine ImpK.mk fun hK => ?_) | (with_reducible refine ImpF.mk fun hF => ?_) | (with_reducible refine ImpQ.mk fun hp => ?_) | (with_reducible refine AllE.mk fun p => ?_) | (with_reducible refine AllR.mk fun rest => ?_) | (with_reducible refine AllK.mk fun K => ?_))))); repeat' (with_reducible refine And.intro ?_ ?_))
    (focus (refine ⟨_, _, Gh.refl, [], rfl, ?_⟩; (refine ⟨?_, ?_, ?_⟩ <;> simp only [go_sem, List.range, List.range.loop, List.nodup_cons, List.nodup_nil, List.mem_cons, List.not_mem_nil, or_false, or_self, decide_true, decide_false, Int.reduceToNat, Nat.min_eq_left, Nat.min_eq_right, Int.reducePow, Nat.reducePow, Int.reduceLE, Int.reduceLT, Int.reduceMul, Int.reduceAdd, Int.reduceSub, Int.reduceNeg, Bool.not_true, Bool.not_false, Bool.not_not, ↓reduceIte, Nat.reduceAdd, Nat.reduceSub, Nat.reduceMul, Nat.reduceEqDiff, reduceCtorEq, Nat.reduceLT, Nat.reduceLeDiff, Nat.reduceGT]); (try any_goals (refine ⟨?_, ?_⟩)); (try any_goals (with_reducible rfl))))
  by_cases hl60 : 60 < l.length
  · have d1 : decide ((60 : Int) < (l.length : Int)) = true := decide_eq_true (by omega)
    refine w_body (rs := [.tmp 4]) (tm := [.agg [.int .i64 dl, .ro .rng out, .ro .int lost, .ro .flp flips], .ro .opl l, .any, .any, .any, .any, .any, .any, .any, .any, .any, .any, .any, .any, .any, .any, .any, .any, .any, .any, .any, .any, .any, .any, .any, .any, .any, .any, .any, .any, .any, .any, .any, .any, .any, .any, .any, .any, .any, .any, .any, .any, .any, .any, .any, .any, .any, .any, .any, .any, .any, .any, .any, .any, .any, .any, .any, .any, .any, .any, .any, .any, .any, .any, .any, .any, .any, .any, .any, .any, .any, .any, .any, .any, .any, .any, .any, .any, .any, .any, .any, .any, .any, .any, .any, .any, .any, .any, .any, .any, .any, .any, .any, .any, .any, .any, .any, .any, .any, .any, .any, .any, .any, .any, .any, .any, .any, .any, .any, .any, .any, .any, .any, .any, .any, .any, .any, .any, .any, .any, .any]) fn_5 rfl rfl rfl rfl fun R hR => ?_
    (have zx1 := @hfew; have zx2 := @d1; all_goals (try ((first | (with_reducible refine wp_id ?_) | (with_reducible refine does_id ?_) | (with_reducible refine ops_id ?_)); refine walk ?_; (repeat' (first | exact trivial | with_reducible refine And.intro ?_ ?_)); all_goals (repeat (first | (with_reducible refine ImpB.mk fun hb => ?_) | (with_reducible refine ImpK.mk fun hK => ?_) | (with_reducible refine ImpF.mk fun hF => ?_) | (with_reducible refine ImpQ.mk fun hp => ?_) | (with_reducible refine AllE.mk fun p => ?_) | (with_reducible refine AllR.mk fun rest => ?_) | (with_reducible refine AllK.mk fun K => ?_))))); repeat' (with_reducible refine And.intro ?_ ?_))
    (focus (refine ⟨_, _, Gh.refl, [], rfl, ?_⟩; (refine ⟨?_, ?_, ?_⟩ <;> simp only [go_sem, List.range, List.range.loop, List.nodup_cons, List.nodup_nil, List.mem_cons, List.not_mem_nil, or_false, or_self, decide_true, decide_false, Int.reduceToNat, Nat.min_eq_left, Nat.min_eq_right, Int.reducePow, Nat.reducePow, Int.reduceLE, Int.reduceLT, Int.reduceMul, Int.reduceAdd, Int.reduceSub, Int.reduceNeg, Bool.not_true, Bool.not_false, Bool.not_not, ↓reduceIte, Nat.reduceAdd, Nat.reduceSub, Nat.reduceMul, Nat.reduceEqDiff, reduceCtorEq, Nat.reduceLT, Nat.reduceLeDiff, Nat.reduceGT]); (try any_goals (refine ⟨?_, ?_⟩)); (try any_goals (with_reducible rfl))))
  have d1 : decide ((60 : Int) < (l.length : Int)) = false := decide_eq_false (by omega)
  have hfw : (out.length ≤ 30 ∧ lost.length ≤ 60) ∧ flips.length ≤ 60 := by
    unfold fewB at hfew
    dsimp only at hfew
    simpa [Bool.and_eq_true, decide_eq_true_eq] using hfew
  have e5 : decide (¬ (1 : Int) = 0) = true := rfl
  cases hfit : fitsB ⟨dl, out, lost, flips⟩
  · refine w_body (rs := [.tmp 4]) (tm := [.agg [.int .i64 dl, .ro .rng out, .ro .int lost, .ro .flp flips], .ro .opl l, .any, .any, .any, .any, .any, .any, .any, .any, .any, .any, .any, .any, .any, .any, .any, .any, .any, .any, .any, .any, .any, .any, .any, .any, .any, .any, .any, .any, .any, .any, .any, .any, .any, .any, .any, .any, .any, .any, .any, .any, .any, .any, .any, .any, .any, .any, .any, .any, .any, .any, .any, .any, .any, .any, .any, .any, .any, .any, .any, .any, .any, .any, .any, .any, .any, .any, .any, .any, .any, .any, .any, .any, .any, .any, .any, .any, .any, .any, .any, .any, .any, .any, .any, .any, .any, .any, .any, .any, .any, .any, .any, .any, .any, .any, .any, .any, .any, .any, .any, .any, .any, .any, .any, .any, .any, .any, .any, .any, .any, .any, .any, .any, .any, .any, .any, .any, .any, .any, .any]) fn_5 rfl rfl rfl rfl fun R hR => ?_
    (have zx1 := @hfew; have zx2 := @d1; have zx3 := @e5; all_goals (try ((first | (with_reducible refine wp_id ?_) | (with_reducible refine does_id ?_) | (with_reducible refine ops_id ?_)); refine walk ?_; (repeat' (first | exact trivial | with_reducible refine And.intro ?_ ?_)); all_goals (repeat (first | (with_reducible refine ImpB.mk fun hb => ?_) | (with_reducible refine ImpK.mk fun hK => ?_) | (with_reducible refine ImpF.mk fun hF => ?_) | (with_reducible refine ImpQ.mk fun hp => ?_) | (with_reducible refine AllE.mk fun p => ?_) | (with_reducible refine AllR.mk fun rest => ?_) | (with_reducible refine AllK.mk fun K => ?_))))); repeat' (with_reducible refine And.intro ?_ ?_))
    all_goals first | exact .inl rfl | omega | skip
    (focus (refine ⟨_, _, Gh.refl, [], rfl, ?_⟩; (refine ⟨?_, ?_, ?_⟩ <;> simp only [go_sem, List.range, List.range.loop, List.nodup_cons, List.nodup_nil, List.mem_cons, List.not_mem_nil, or_false, or_self, decide_true, decide_false, Int.reduceToNat, Nat.min_eq_left, Nat.min_eq_right, Int.reducePow, Nat.reducePow, Int.reduceLE, Int.reduceLT, Int.reduceMul, Int.reduceAdd, Int.reduceSub, Int.reduceNeg, Bool.not_true, Bool.not_false, Bool.not_not, ↓reduceIte, Nat.reduceAdd, Nat.reduceSub, Nat.reduceMul, Nat.reduceEqDiff, reduceCtorEq, Nat.reduceLT, Nat.reduceLeDiff, Nat.reduceGT]); (try any_goals (refine ⟨?_, ?_⟩)); (try any_goals (with_reducible rfl))))
  refine w_body (rs := [.tmp 4]) (tm := [.agg [.int .i64 dl, .ro .rng out, .ro .int lost, .ro .flp flips], .ro .opl l, .any, .any, .any, .any, .any, .any, .any, .any, .any, .any, .any, .any, .any, .any, .any, .any, .any, .any, .any, .any, .any, .any, .any, .any, .any, .any, .any, .any, .any, .any, .any, .any, .any, .any, .any, .any, .any, .any, .any, .any, .any, .any, .any, .any, .any, .any, .any, .any, .any, .any, .any, .any, .any, .any, .any, .any, .any, .any, .any, .any, .any, .any, .any, .any, .any, .any, .any, .any, .any, .any, .any, .any, .any, .any, .any, .any, .any, .any, .any, .any, .any, .any, .any, .any, .any, .any, .any, .any, .any, .any, .any, .any, .any, .any, .any, .any, .any, .any, .any, .any, .any, .any, .any, .any, .any, .any, .any, .any, .any, .any, .any, .any, .any, .any, .any, .any, .any, .any, .any]) fn_5 rfl rfl rfl rfl fun R hR => ?_
  (have zx1 := @hfew; have zx2 := @d1; all_goals (try ((first | (with_reducible refine wp_id ?_) | (with_reducible refine does_id ?_) | (with_reducible refine ops_id ?_)); refine walk ?_; (repeat' (first | exact trivial | with_reducible refine And.intro ?_ ?_)); all_goals (repeat (first | (with_reducible refine ImpB.mk fun hb => ?_) | (with_reducible refine ImpK.mk fun hK => ?_) | (with_reducible refine ImpF.mk fun hF => ?_) | (with_reducible refine ImpQ.mk fun hp => ?_) | (with_reducible refine AllE.mk fun p => ?_) | (with_reducible refine AllR.mk fun rest => ?_) | (with_reducible refine AllK.mk fun K => ?_))))); repeat' (with_reducible refine And.intro ?_ ?_))
  all_goals first | exact .inl rfl | omega | skip
  any_goals ((try (refine w_seq fun K hK => ?_)); (try (refine w_block ?_)); refine w_loop (A := Nat × Int × Int × List (Int × Arr)) (fun p => p.1 ≤ l.length ∧ okL ⟨⟨dl, out, lost, flips⟩, p.2.1, p.2.2.1, p.2.2.2⟩ ∧ p.2.2.1 ≤ p.1) (fun p => l.length - p.1) (fun p => [(5, .ptr 1 0), (7, .ptr 2 0), (9, .int .i64 p.1), (24, .any), (26, .any), (27, .any)]) (fun p => [(1, LKF ⟨⟨dl, out, lost, flips⟩, p.2.1, p.2.2.1, p.2.2.2⟩), (2, .cells [.int .i64 dl, .ro .rng out, .ro .int lost, .ro .flp flips, .int .i64 p.2.1, .int .i64 p.2.2.1, .ro .arr (p.2.2.2.map fun p => p.2)])]) ((0, 0, 0, [])) (ws := ?ws1) (tk := ?tk1) ?hw1 ?ht1 ?hi ?h0 ?LH1; (case hw1 => simp only [go_sem, decide_true, decide_false, Int.reduceToNat, Nat.min_eq_left, Nat.min_eq_right, Int.reducePow, Nat.reducePow, Int.reduceLE, Int.reduceLT, Int.reduceMul, Int.reduceAdd, Int.reduceSub, Int.reduceNeg, Bool.not_true, Bool.not_false, Bool.not_not, ↓reduceIte, Nat.reduceAdd, Nat.reduceSub, Nat.reduceMul, Nat.reduceEqDiff, reduceCtorEq, Nat.reduceLT, Nat.reduceLeDiff, Nat.reduceGT]; exact rfl); (case ht1 => simp only [go_sem, decide_true, decide_false, Int.reduceToNat, Nat.min_eq_left, Nat.min_eq_right, Int.reducePow, Nat.reducePow, Int.reduceLE, Int.reduceLT, Int.reduceMul, Int.reduceAdd, Int.reduceSub, Int.reduceNeg, Bool.not_true, Bool.not_false, Bool.not_not, ↓reduceIte, Nat.reduceAdd, Nat.reduceSub, Nat.reduceMul, Nat.reduceEqDiff, reduceCtorEq, Nat.reduceLT, Nat.reduceLeDiff, Nat.reduceGT]; exact rfl); (case' LH1 => rintro ⟨k, now, sent, P⟩ E t hx hE ht; simp only [go_sem] at ht; subst ht; simp only [go_sem]; try dsimp only at hx))
  case hi => exact ⟨Nat.zero_le _, ok_new hfit (by omega) (by omega) (by omega), Int.le_refl _⟩
  case h0 => (focus (refine ⟨_, _, Gh.refl, [0, 1, 2], rfl, ?_⟩; (refine ⟨?_, ?_, ?_⟩ <;> simp only [go_sem, List.range, List.range.loop, List.nodup_cons, List.nodup_nil, List.mem_cons, List.not_mem_nil, or_false, or_self, decide_true, decide_false, Int.reduceToNat, Nat.min_eq_left, Nat.min_eq_right, Int.reducePow, Nat.reducePow, Int.reduceLE, Int.reduceLT, Int.reduceMul, Int.reduceAdd, Int.reduceSub, Int.reduceNeg, Bool.not_true, Bool.not_false, Bool.not_not, ↓reduceIte, Nat.reduceAdd, Nat.reduceSub, Nat.reduceMul, Nat.reduceEqDiff, reduceCtorEq, Nat.reduceLT, Nat.reduceLeDiff, Nat.reduceGT]); (try any_goals (refine ⟨?_, ?_⟩)); (try any_goals (with_reducible rfl)))); (all_goals first | rfl | trace_state)
  case LH1 =>
    obtain ⟨hk0, hok, hsk⟩ := hx
    (try dsimp only at hk0 hok hsk)
    have hlen := hok.len
    have hse := hok.se
    have hnw := hok.nw
    have hdl := hok.dl
    have hfl := hok.fl
    have hord := hok.ord
    (try dsimp only at hlen hse hnw hdl hfl hord)
    have hml : (P.map fun p => p.2).length = P.length := List.length_map _
    have hw : IntKind.i64.wrap ((k : Int) + 1) = ((k + 1 : Nat) : Int) := by rw [wrap_i64 _ (by omega) (by omega)]; omega
    by_cases hk : k < l.length
    · have hkd : decide ((k : Int) < (l.length : Int)) = true := decide_eq_true (by omega)
      obtain ⟨⟨call, n, b⟩, hxe⟩ : ∃ x, l.getD k Opl.zero = x := ⟨_, rfl⟩
      by_cases hb100 : 100 < b.length
      · have d2 : decide ((100 : Int) < (b.length : Int)) = true := decide_eq_true (by omega)
        (have zx1 := @hkd; have zx2 := @hxe; have zx3 := @d2; all_goals (try ((first | (with_reducible refine wp_id ?_) | (with_reducible refine does_id ?_) | (with_reducible refine ops_id ?_)); refine walk ?_; (repeat' (first | exact trivial | with_reducible refine And.intro ?_ ?_)); all_goals (repeat (first | (with_reducible refine ImpB.mk fun hb => ?_) | (with_reducible refine ImpK.mk fun hK => ?_) | (with_reducible refine ImpF.mk fun hF => ?_) | (with_reducible refine ImpQ.mk fun hp => ?_) | (with_reducible refine AllE.mk fun p => ?_) | (with_reducible refine AllR.mk fun rest => ?_) | (with_reducible refine AllK.mk fun K => ?_))))); repeat' (with_reducible refine And.intro ?_ ?_))
        all_goals first | exact Int.natCast_nonneg _ | omega | skip
        (focus (refine ⟨_, _, Gh.refl, [], rfl, ?_⟩; (refine ⟨?_, ?_, ?_⟩ <;> simp only [go_sem, List.range, List.range.loop, List.nodup_cons, List.nodup_nil, List.mem_cons, List.not_mem_nil, or_false, or_self, decide_true, decide_false, Int.reduceToNat, Nat.min_eq_left, Nat.min_eq_right, Int.reducePow, Nat.reducePow, Int.reduceLE, Int.reduceLT, Int.reduceMul, Int.reduceAdd, Int.reduceSub, Int.reduceNeg, Bool.not_true, Bool.not_false, Bool.not_not, ↓reduceIte, Nat.reduceAdd, Nat.reduceSub, Nat.reduceMul, Nat.reduceEqDiff, reduceCtorEq, Nat.reduceLT, Nat.reduceLeDiff, Nat.reduceGT]); (try any_goals (refine ⟨?_, ?_⟩)); (try any_goals (with_reducible rfl))))
      have d2 : decide ((100 : Int) < (b.length : Int)) = false := decide_eq_false (by omega)
      obtain ⟨N, hN⟩ : ∃ N, atL now n = N := ⟨_, rfl⟩
      by_cases k1 : call = 1
      · subst k1
        have hok2 := hok.send n (b := b) (by omega)
        unfold sendK at hok2
        dsimp only at hok2
        have hS : sendK ⟨⟨dl, out, lost, flips⟩, now, sent, P⟩ n b = ⟨⟨dl, out, lost, flips⟩, atL now n, sent + 1, if lostB ⟨dl, out, lost, flips⟩ (atL now n) sent then P else P ++ [(sent, ⟨atL now n + dl, flpS flips sent b⟩)]⟩ := rfl
        have hL := sentP (P := P) (b := lostB ⟨dl, out, lost, flips⟩ N sent) (i := sent) (a := ⟨N + dl, flpS flips sent b⟩)
        rw [hN] at hS hok2
        obtain ⟨P', hP'⟩ : ∃ P', (if lostB ⟨dl, out, lost, flips⟩ N sent then P else P ++ [(sent, ⟨N + dl, flpS flips sent b⟩)]) = P' := ⟨_, rfl⟩
        rw [hP'] at hS hL hok2
        have hml2 : (P'.map fun p => p.2).length = P'.length := List.length_map _
        (have zx1 := @hkd; have zx2 := @hxe; have zx3 := @d2; have zx4 := @hN; have zx5 := @hS; have zx6 := @hL; have zx7 := @hml2; have zx8 := @hw; all_goals (try ((first | (with_reducible refine wp_id ?_) | (with_reducible refine does_id ?_) | (with_reducible refine ops_id ?_)); refine walk ?_; (repeat' (first | exact trivial | with_reducible refine And.intro ?_ ?_)); all_goals (repeat (first | (with_reducible refine ImpB.mk fun hb => ?_) | (with_reducible refine ImpK.mk fun hK => ?_) | (with_reducible refine ImpF.mk fun hF => ?_) | (with_reducible refine ImpQ.mk fun hp => ?_) | (with_reducible refine AllE.mk fun p => ?_) | (with_reducible refine AllR.mk fun rest => ?_) | (with_reducible refine AllK.mk fun K => ?_))))); repeat' (with_reducible refine And.intro ?_ ?_))
        all_goals first | exact Int.natCast_nonneg _ | exact hok | exact hfl | omega | (show sent ≤ 1000000; omega) | skip
        refine ⟨(k + 1, N, sent + 1, P'), ⟨⟨by first | omega | (dsimp only; omega), hok2, by first | omega | (dsimp only; omega)⟩, by first | omega | (dsimp only; omega)⟩, ?_⟩
        (focus (refine ⟨_, _, Gh.refl, [0, 1, 2], rfl, ?_⟩; (refine ⟨?_, ?_, ?_⟩ <;> simp only [go_sem, List.range, List.range.loop, List.nodup_cons, List.nodup_nil, List.mem_cons, List.not_mem_nil, or_false, or_self, decide_true, decide_false, Int.reduceToNat, Nat.min_eq_left, Nat.min_eq_right, Int.reducePow, Nat.reducePow, Int.reduceLE, Int.reduceLT, Int.reduceMul, Int.reduceAdd, Int.reduceSub, Int.reduceNeg, Bool.not_true, Bool.not_false, Bool.not_not, ↓reduceIte, Nat.reduceAdd, Nat.reduceSub, Nat.reduceMul, Nat.reduceEqDiff, reduceCtorEq, Nat.reduceLT, Nat.reduceLeDiff, Nat.reduceGT]); (try any_goals (refine ⟨?_, ?_⟩)); (try any_goals (with_reducible rfl))))
        all_goals first | rfl | trace_state
      by_cases k2 : call = 2
      · subst k2
        have hok2 := hok.recv n
        unfold recvK at hok2
        dsimp only at hok2
        have hS : recvK ⟨⟨dl, out, lost, flips⟩, now, sent, P⟩ n = ⟨⟨dl, out, lost, flips⟩, atL now n, sent, P.filter fun p => !due (atL now n) p⟩ := rfl
        have hO : outK ⟨⟨dl, out, lost, flips⟩, now, sent, P⟩ n = (P.filter fun p => due (atL now n) p).map fun p => p.2.data := rfl
        have hD := recvD (N := N) hord
        have hT := recvT (N := N) hord
        rw [hN] at hS hO hok2
        obtain ⟨P', hP'⟩ : ∃ P', (P.filter fun p => !due N p) = P' := ⟨_, rfl⟩
        obtain ⟨O, hO'⟩ : ∃ O, ((P.filter fun p => due N p).map fun p => p.2.data) = O := ⟨_, rfl⟩
        have hOl : O.length ≤ P.length := by rw [← hO', List.length_map]; exact List.length_filter_le _ _
        rw [hP'] at hS hD hok2
        rw [hO'] at hO hT
        have hml2 : (P'.map fun p => p.2).length = P'.length := List.length_map _
        have e21 : decide ((2 : Int) = 1) = false := rfl
        (have zx1 := @hkd; have zx2 := @hxe; have zx3 := @d2; have zx4 := @hN; have zx5 := @hS; have zx6 := @hO; have zx7 := @hD; have zx8 := @hT; have zx9 := @hml2; have zx10 := @hw; have zx11 := @e21; all_goals (try ((first | (with_reducible refine wp_id ?_) | (with_reducible refine does_id ?_) | (with_reducible refine ops_id ?_)); refine walk ?_; (repeat' (first | exact trivial | with_reducible refine And.intro ?_ ?_)); all_goals (repeat (first | (with_reducible refine ImpB.mk fun hb => ?_) | (with_reducible refine ImpK.mk fun hK => ?_) | (with_reducible refine ImpF.mk fun hF => ?_) | (with_reducible refine ImpQ.mk fun hp => ?_) | (with_reducible refine AllE.mk fun p => ?_) | (with_reducible refine AllR.mk fun rest => ?_) | (with_reducible refine AllK.mk fun K => ?_))))); repeat' (with_reducible refine And.intro ?_ ?_))
        all_goals first | exact Int.natCast_nonneg _ | exact hok | exact hfl | omega | (show sent ≤ 1000000; omega) | skip
        refine ⟨(k + 1, N, sent, P'), ⟨⟨by first | omega | (dsimp only; omega), hok2, by first | omega | (dsimp only; omega)⟩, by first | omega | (dsimp only; omega)⟩, ?_⟩
        (focus (refine ⟨_, _, Gh.refl, [0, 1, 2], rfl, ?_⟩; (refine ⟨?_, ?_, ?_⟩ <;> simp only [go_sem, List.range, List.range.loop, List.nodup_cons, List.nodup_nil, List.mem_cons, List.not_mem_nil, or_false, or_self, decide_true, decide_false, Int.reduceToNat, Nat.min_eq_left, Nat.min_eq_right, Int.reducePow, Nat.reducePow, Int.reduceLE, Int.reduceLT, Int.reduceMul, Int.reduceAdd, Int.reduceSub, Int.reduceNeg, Bool.not_true, Bool.not_false, Bool.not_not, ↓reduceIte, Nat.reduceAdd, Nat.reduceSub, Nat.reduceMul, Nat.reduceEqDiff, reduceCtorEq, Nat.reduceLT, Nat.reduceLeDiff, Nat.reduceGT]); (try any_goals (refine ⟨?_, ?_⟩)); (try any_goals (with_reducible rfl))))
        all_goals first | rfl | trace_state
      by_cases k3 : call = 3
      · subst k3
        have hok2 := hok.send n (b := b) (by omega)
        have hse2 : (sendK ⟨⟨dl, out, lost, flips⟩, now, sent, P⟩ n b).sent ≤ 1000000 := by show sent + 1 ≤ 1000000; omega
        have e31 : decide ((3 : Int) = 1) = false := rfl
        have e32 : decide ((3 : Int) = 2) = false := rfl
        (have zx1 := @hkd; have zx2 := @hxe; have zx3 := @d2; have zx4 := @hw; have zx5 := @hml; have zx6 := @e31; have zx7 := @e32; all_goals (try ((first | (with_reducible refine wp_id ?_) | (with_reducible refine does_id ?_) | (with_reducible refine ops_id ?_)); refine walk ?_; (repeat' (first | exact trivial | with_reducible refine And.intro ?_ ?_)); all_goals (repeat (first | (with_reducible refine ImpB.mk fun hb => ?_) | (with_reducible refine ImpK.mk fun hK => ?_) | (with_reducible refine ImpF.mk fun hF => ?_) | (with_reducible refine ImpQ.mk fun hp => ?_) | (with_reducible refine AllE.mk fun p => ?_) | (with_reducible refine AllR.mk fun rest => ?_) | (with_reducible refine AllK.mk fun K => ?_))))); repeat' (with_reducible refine And.intro ?_ ?_))
        all_goals first | exact Int.natCast_nonneg _ | exact hok | exact hok2 | exact hse2 | omega | (show sent ≤ 1000000; omega) | skip
        refine ⟨(k + 1, now, sent, P), ⟨⟨by first | omega | (dsimp only; omega), hok, by first | omega | (dsimp only; omega)⟩, by first | omega | (dsimp only; omega)⟩, ?_⟩
        (focus (refine ⟨_, _, Gh.refl, [0, 4, 2], rfl, ?_⟩; (refine ⟨?_, ?_, ?_⟩ <;> simp only [go_sem, List.range, List.range.loop, List.nodup_cons, List.nodup_nil, List.mem_cons, List.not_mem_nil, or_false, or_self, decide_true, decide_false, Int.reduceToNat, Nat.min_eq_left, Nat.min_eq_right, Int.reducePow, Nat.reducePow, Int.reduceLE, Int.reduceLT, Int.reduceMul, Int.reduceAdd, Int.reduceSub, Int.reduceNeg, Bool.not_true, Bool.not_false, Bool.not_not, ↓reduceIte, Nat.reduceAdd, Nat.reduceSub, Nat.reduceMul, Nat.reduceEqDiff, reduceCtorEq, Nat.reduceLT, Nat.reduceLeDiff, Nat.reduceGT]); (try any_goals (refine ⟨?_, ?_⟩)); (try any_goals (with_reducible rfl))))
        all_goals first | rfl | trace_state
      have c1 : decide (call = 1) = false := decide_eq_false k1
      have c2 : decide (call = 2) = false := decide_eq_false k2
      have c3 : decide (call = 3) = false := decide_eq_false k3
      (have zx1 := @hkd; have zx2 := @hxe; have zx3 := @d2; have zx4 := @hw; have zx5 := @c1; have zx6 := @c2; have zx7 := @c3; have zx8 := @hml; all_goals (try ((first | (with_reducible refine wp_id ?_) | (with_reducible refine does_id ?_) | (with_reducible refine ops_id ?_)); refine walk ?_; (repeat' (first | exact trivial | with_reducible refine And.intro ?_ ?_)); all_goals (repeat (first | (with_reducible refine ImpB.mk fun hb => ?_) | (with_reducible refine ImpK.mk fun hK => ?_) | (with_reducible refine ImpF.mk fun hF => ?_) | (with_reducible refine ImpQ.mk fun hp => ?_) | (with_reducible refine AllE.mk fun p => ?_) | (with_reducible refine AllR.mk fun rest => ?_) | (with_reducible refine AllK.mk fun K => ?_))))); repeat' (with_reducible refine And.intro ?_ ?_))
      all_goals first | exact Int.natCast_nonneg _ | omega | skip
      refine ⟨(k + 1, now, sent, P), ⟨⟨by first | omega | (dsimp only; omega), hok, by first | omega | (dsimp only; omega)⟩, by first | omega | (dsimp only; omega)⟩, ?_⟩
      (focus (refine ⟨_, _, Gh.refl, [0, 1, 2], rfl, ?_⟩; (refine ⟨?_, ?_, ?_⟩ <;> simp only [go_sem, List.range, List.range.loop, List.nodup_cons, List.nodup_nil, List.mem_cons, List.not_mem_nil, or_false, or_self, decide_true, decide_false, Int.reduceToNat, Nat.min_eq_left, Nat.min_eq_right, Int.reducePow, Nat.reducePow, Int.reduceLE, Int.reduceLT, Int.reduceMul, Int.reduceAdd, Int.reduceSub, Int.reduceNeg, Bool.not_true, Bool.not_false, Bool.not_not, ↓reduceIte, Nat.reduceAdd, Nat.reduceSub, Nat.reduceMul, Nat.reduceEqDiff, reduceCtorEq, Nat.reduceLT, Nat.reduceLeDiff, Nat.reduceGT]); (try any_goals (refine ⟨?_, ?_⟩)); (try any_goals (with_reducible rfl))))
      all_goals first | rfl | trace_state
    · have hkd : decide ((k : Int) < (l.length : Int)) = false := decide_eq_false (by omega)
      (have zx1 := @hkd; all_goals (try ((first | (with_reducible refine wp_id ?_) | (with_reducible refine does_id ?_) | (with_reducible refine ops_id ?_)); refine walk ?_; (repeat' (first | exact trivial | with_reducible refine And.intro ?_ ?_)); all_goals (repeat (first | (with_reducible refine ImpB.mk fun hb => ?_) | (with_reducible refine ImpK.mk fun hK => ?_) | (with_reducible refine ImpF.mk fun hF => ?_) | (with_reducible refine ImpQ.mk fun hp => ?_) | (with_reducible refine AllE.mk fun p => ?_) | (with_reducible refine AllR.mk fun rest => ?_) | (with_reducible refine AllK.mk fun K => ?_))))); repeat' (with_reducible refine And.intro ?_ ?_))
      (focus (refine ⟨_, _, Gh.refl, [], rfl, ?_⟩; (refine ⟨?_, ?_, ?_⟩ <;> simp only [go_sem, List.range, List.range.loop, List.nodup_cons, List.nodup_nil, List.mem_cons, List.not_mem_nil, or_false, or_self, decide_true, decide_false, Int.reduceToNat, Nat.min_eq_left, Nat.min_eq_right, Int.reducePow, Nat.reducePow, Int.reduceLE, Int.reduceLT, Int.reduceMul, Int.reduceAdd, Int.reduceSub, Int.reduceNeg, Bool.not_true, Bool.not_false, Bool.not_not, ↓reduceIte, Nat.reduceAdd, Nat.reduceSub, Nat.reduceMul, Nat.reduceEqDiff, reduceCtorEq, Nat.reduceLT, Nat.reduceLeDiff, Nat.reduceGT]); (try any_goals (refine ⟨?_, ?_⟩)); (try any_goals (with_reducible rfl))))
end Go.V

set_option maxRecDepth 100000
set_option maxHeartbeats 16000000
namespace Go.V
open Go.Proofs
theorem b_linknil (n : Int) (b : List UInt8) (hl : b.length ≤ 9223372036854775807) : DoesK Try.prog 0 6 [.int .i64 n, .ro .byte b] [] (EndF 0 (.bool true) []) := by
  refine DoesK.close ?_
  by_cases c : 100 < b.length
  · have d : decide ((100 : Int) < (b.length : Int)) = true := decide_eq_true (by omega)
    refine w_body (rs := [.tmp 4]) (tm := [.int .i64 n, .ro .byte b, .any, .any, .any, .any, .any, .any, .any, .any, .any, .any, .any, .any, .any, .any, .any, .any, .any, .any, .any, .any, .any, .any, .any, .any, .any, .any, .any, .any, .any, .any, .any, .any, .any, .any, .any, .any, .any, .any, .any, .any, .any, .any, .any, .any, .any, .any, .any, .any, .any, .any, .any, .any, .any, .any, .any, .any, .any, .any, .any, .any, .any, .any, .any, .any, .any]) fn_6 rfl rfl rfl rfl fun R hR => ?_
    (have zx1 := @d; all_goals (try ((first | (with_reducible refine wp_id ?_) | (with_reducible refine does_id ?_) | (with_reducible refine ops_id ?_)); refine walk ?_; (repeat' (first | exact trivial | with_reducible refine And.intro ?_ ?_)); all_goals (repeat (first | (with_reducible refine ImpB.mk fun hb => ?_) | (with_reducible refine ImpK.mk fun hK => ?_) | (with_reducible refine ImpF.mk fun hF => ?_) | (with_reducible refine ImpQ.mk fun hp => ?_) | (with_reducible refine AllE.mk fun p => ?_) | (with_reducible refine AllR.mk fun rest => ?_) | (with_reducible refine AllK.mk fun K => ?_))))); repeat' (with_reducible refine And.intro ?_ ?_))
    (focus (refine ⟨_, _, Gh.refl, [], rfl, ?_⟩; (refine ⟨?_, ?_, ?_⟩ <;> simp only [go_sem, List.range, List.range.loop, List.nodup_cons, List.nodup_nil, List.mem_cons, List.not_mem_nil, or_false, or_self, decide_true, decide_false, Int.reduceToNat, Nat.min_eq_left, Nat.min_eq_right, Int.reducePow, Nat.reducePow, Int.reduceLE, Int.reduceLT, Int.reduceMul, Int.reduceAdd, Int.reduceSub, Int.reduceNeg, Bool.not_true, Bool.not_false, Bool.not_not, ↓reduceIte, Nat.reduceAdd, Nat.reduceSub, Nat.reduceMul, Nat.reduceEqDiff, reduceCtorEq, Nat.reduceLT, Nat.reduceLeDiff, Nat.reduceGT]); (try any_goals (refine ⟨?_, ?_⟩)); (try any_goals (with_reducible rfl))))
  · have d : decide ((100 : Int) < (b.length : Int)) = false := decide_eq_false (by omega)
    have e2 : decide ((2 : Int) = 2) = true := rfl
    have e0 : decide ((0 : Int) = 0) = true := rfl
    refine w_body (rs := [.tmp 4]) (tm := [.int .i64 n, .ro .byte b, .any, .any, .any, .any, .any, .any, .any, .any, .any, .any, .any, .any, .any, .any, .any, .any, .any, .any, .any, .any, .any, .any, .any, .any, .any, .any, .any, .any, .any, .any, .any, .any, .any, .any, .any, .any, .any, .any, .any, .any, .any, .any, .any, .any, .any, .any, .any, .any, .any, .any, .any, .any, .any, .any, .any, .any, .any, .any, .any, .any, .any, .any, .any, .any, .any]) fn_6 rfl rfl rfl rfl fun R hR => ?_
    (have zx1 := @d; have zx2 := @e2; have zx3 := @e0; all_goals (try ((first | (with_reducible refine wp_id ?_) | (with_reducible refine does_id ?_) | (with_reducible refine ops_id ?_)); refine walk ?_; (repeat' (first | exact trivial | with_reducible refine And.intro ?_ ?_)); all_goals (repeat (first | (with_reducible refine ImpB.mk fun hb => ?_) | (with_reducible refine ImpK.mk fun hK => ?_) | (with_reducible refine ImpF.mk fun hF => ?_) | (with_reducible refine ImpQ.mk fun hp => ?_) | (with_reducible refine AllE.mk fun p => ?_) | (with_reducible refine AllR.mk fun rest => ?_) | (with_reducible refine AllK.mk fun K => ?_))))); repeat' (with_reducible refine And.intro ?_ ?_))
    (focus (refine ⟨_, _, Gh.refl, [], rfl, ?_⟩; (refine ⟨?_, ?_, ?_⟩ <;> simp only [go_sem, List.range, List.range.loop, List.nodup_cons, List.nodup_nil, List.mem_cons, List.not_mem_nil, or_false, or_self, decide_true, decide_false, Int.reduceToNat, Nat.min_eq_left, Nat.min_eq_right, Int.reducePow, Nat.reducePow, Int.reduceLE, Int.reduceLT, Int.reduceMul, Int.reduceAdd, Int.reduceSub, Int.reduceNeg, Bool.not_true, Bool.not_false, Bool.not_not, ↓reduceIte, Nat.reduceAdd, Nat.reduceSub, Nat.reduceMul, Nat.reduceEqDiff, reduceCtorEq, Nat.reduceLT, Nat.reduceLeDiff, Nat.reduceGT]); (try any_goals (refine ⟨?_, ?_⟩)); (try any_goals (with_reducible rfl))))
end Go.V

namespace Go.V
/-- all that lies in the memory at the start lies for good -/
def oldR (w : World) : RO := fun b => w.heap[b]?
theorem old_ok (w : World) : HOk (oldR w) [] [] w := ⟨trivial, by simp [ownH], fun b hb => by simp [ownH] at hb, fun _ _ h => h⟩
theorem cell_of {w : World} {a : Addr} {v : Value} (h : w.cell? a = some v) : a.spot = none ∧ ∃ arr ty fr, w.heap[a.block]? = some (.cells arr ty fr) ∧ arr[a.off]? = some v := by
  unfold World.cell? at h
  split at h
  · rename_i c ty fr hc
    split at h
    · simp at h
    · rename_i hs
      exact ⟨by simpa using hs, c, ty, fr, hc, h⟩
  · simp at h
theorem add_block (a : Addr) (i : Nat) : (a.add i).block = a.block := by
  unfold Addr.add
  split <;> rfl
theorem add_off (a : Addr) (i : Nat) : (a.add i).off = a.off + i := by
  unfold Addr.add
  split
  · simp_all
  · rfl
/-- some cells in a row -/
theorem cells_of {w : World} {base : Nat} {a : Addr} {n : Nat} {cs : List Value} (h : w.cells? base a n = some cs) (hn : 0 < n) : a.spot = none ∧ ∃ arr ty fr, w.heap[a.block]? = some (.cells arr ty fr) ∧ (arr.toList.drop a.off).take n = cs := by
  obtain ⟨_, hl, hg⟩ := World.cells?_some h
  have h0 := hg 0 hn
  rw [List.getElem?_eq_getElem (by omega)] at h0
  obtain ⟨hs, arr, ty, fr, hb, _⟩ := cell_of h0
  rw [add_block] at hb
  refine ⟨by simpa [Addr.add] using hs, arr, ty, fr, hb, ?_⟩
  apply List.ext_getElem?
  intro i
  by_cases hi : i < n
  · have h1 := hg i hi
    rw [List.getElem?_eq_getElem (show i < cs.length by omega)] at h1
    obtain ⟨_, arr', ty', fr', hb', h2⟩ := cell_of h1
    rw [add_block, hb] at hb'
    cases hb'
    rw [add_off] at h2
    rw [List.getElem?_take_of_lt hi, List.getElem?_drop, List.getElem?_eq_getElem (show i < cs.length by omega)]
    simpa using h2
  · rw [List.getElem?_eq_none (by simp; omega), List.getElem?_eq_none (by omega)]
/-- a type: what reads as data of it lies as one of these lists of abstract values -/
def Opens (P : Program) (w : World) (t : TypeId) (S : List AV → Prop) : Prop :=
  ∀ (H : Type) (enc : TypeId × Value → H) (base : Nat) (spare : Nat → Bool) (held : Bool) (fuel : Nat) (cs : List Value) (x : DataW H × List MemPlace), DataW.trod enc P w base spare held fuel t cs = some x → ∃ l, S l ∧ LRel (oldR w) [] l cs
section
variable {P : Program} {w : World}
theorem Opens.mono {t : TypeId} {S S' : List AV → Prop} (h : Opens P w t S) (hs : ∀ l, S l → S' l) : Opens P w t S' := fun H enc base spare held fuel cs x hx => by
  obtain ⟨l, h1, h2⟩ := h H enc base spare held fuel cs x hx
  exact ⟨l, hs l h1, h2⟩
theorem Opens.int {t : TypeId} {k : IntKind} (ht : P.underlying t = some (.int k)) : Opens P w t fun l => ∃ n, k.has n ∧ l = [.int k n] := fun H enc base spare held fuel cs x hx => by
  cases fuel with
  | zero => simp [DataW.trod] at hx
  | succ fuel =>
    unfold DataW.trod at hx
    simp only [ht] at hx
    split at hx
    all_goals first | (rename_i h1 _; cases h1; done) | skip
    all_goals simp_all
    rename_i k' n h1
    subst h1
    obtain ⟨⟨rfl, h2⟩, _⟩ := hx
    exact ⟨_, ⟨n, by simpa [Lit.wf, IntKind.has] using h2, rfl⟩, .cons .int .nil⟩
theorem Opens.struct {t : TypeId} {fs : Array Field} {Ss : List (List AV → Prop)} (ht : P.underlying t = some (.struct fs)) (hl : fs.size = Ss.length)
    (hS : ∀ (i : Nat) (f : Field) (S : List AV → Prop), fs[i]? = some f → Ss[i]? = some S → Opens P w f.type S)
    (hoff : ∀ (i : Nat) (f : Field), fs[i]? = some f → f.offset = ((fs.toList.take i).map fun g => P.cellsOf g.type).sum) (hsz : P.cellsOf t = (fs.toList.map fun g => P.cellsOf g.type).sum) :
    Opens P w t fun l => ∃ ls : List (List AV), ls.length = Ss.length ∧ (∀ (i : Nat) (S : List AV → Prop) (m : List AV), Ss[i]? = some S → ls[i]? = some m → S m) ∧ l = ls.flatten := fun H enc base spare held fuel cs x hx => by
  obtain ⟨xs, n, _, _, hlen, hxs, hf⟩ := DataW.trod_struct ht hx
  have key : ∀ k, k ≤ fs.size → ∃ ls : List (List AV), ls.length = k ∧ (∀ (i : Nat) (S : List AV → Prop) (m : List AV), Ss[i]? = some S → ls[i]? = some m → S m) ∧ LRel (oldR w) [] ls.flatten (cs.take (((fs.toList.take k).map fun g => P.cellsOf g.type).sum)) := by
    intro k
    induction k with
    | zero => intro _; exact ⟨[], rfl, fun i S m _ h => by simp at h, by simp; exact .nil⟩
    | succ k ih =>
      intro hk
      obtain ⟨ls, h1, h2, h3⟩ := ih (by omega)
      have hfk : fs[k]? = some fs[k] := by simp [show k < fs.size by omega]
      have hSk : Ss[k]? = some (Ss[k]'(by omega)) := by simp [show k < Ss.length by omega]
      have hx := hf k _ hfk
      rw [List.getElem?_eq_getElem (by omega)] at hx
      obtain ⟨m, h4, h5⟩ := hS k _ _ hfk hSk H enc base spare held n _ _ hx
      refine ⟨ls ++ [m], by simp [h1], fun i S m' hS' hm' => ?_, ?_⟩
      · by_cases hi : i < ls.length
        · rw [List.getElem?_append_left hi] at hm'
          exact h2 i S m' hS' hm'
        · have : i = k := by
            have := (List.getElem?_eq_some_iff.1 hm').1
            simp at this
            omega
          subst this
          rw [List.getElem?_append_right (by omega), h1] at hm'
          simp at hm'
          subst hm'
          rw [hSk] at hS'
          cases hS'
          exact h4
      · rw [List.flatten_append, List.flatten_singleton, List.take_succ_eq_append_getElem (show k < fs.toList.length by simp; omega), List.map_append, List.sum_append, List.take_add]
        rw [hoff k _ hfk] at h5
        have e : fs.toList[k] = fs[k] := by simp
        rw [e]
        simp only [List.map_cons, List.map_nil, List.sum_cons, List.sum_nil, Nat.add_zero]
        exact h3.app h5
  obtain ⟨ls, h1, h2, h3⟩ := key fs.size (Nat.le_refl _)
  refine ⟨ls.flatten, ⟨ls, by omega, h2, rfl⟩, ?_⟩
  rw [List.take_of_length_le (l := fs.toList) (by simp), ← hsz, ← hlen, List.take_length] at h3
  exact h3
def OpL (P : Program) (w : World) : List Field → List (List AV → Prop) → Prop
  | [], [] => True
  | f :: fs, S :: Ss => Opens P w f.type S ∧ OpL P w fs Ss
  | _, _ => False
def offB (P : Program) : List Field → Nat → Bool
  | [], _ => true
  | f :: fs, n => (f.offset == n) && offB P fs (n + P.cellsOf f.type)
theorem OpL.len : ∀ {fs : List Field} {Ss : List (List AV → Prop)}, OpL P w fs Ss → fs.length = Ss.length
  | [], [], _ => rfl
  | _ :: _, _ :: _, h => by simp [OpL.len h.2]
  | [], _ :: _, h => h.elim
  | _ :: _, [], h => h.elim
theorem OpL.get : ∀ {fs : List Field} {Ss : List (List AV → Prop)} (i : Nat) {f : Field} {S : List AV → Prop}, OpL P w fs Ss → fs[i]? = some f → Ss[i]? = some S → Opens P w f.type S
  | _ :: _, _ :: _, 0, _, _, h, e1, e2 => by simp at e1 e2; subst e1; subst e2; exact h.1
  | _ :: _, _ :: _, i + 1, _, _, h, e1, e2 => OpL.get i h.2 (by simpa using e1) (by simpa using e2)
  | [], [], _, _, _, _, e1, _ => by simp at e1
  | [], _ :: _, _, _, _, h, _, _ => h.elim
  | _ :: _, [], _, _, _, h, _, _ => h.elim
theorem offB_get : ∀ {fs : List Field} {n : Nat} (i : Nat) {f : Field}, offB P fs n = true → fs[i]? = some f → f.offset = n + ((fs.take i).map fun g => P.cellsOf g.type).sum
  | _ :: _, _, 0, _, h, e => by
    simp at e
    subst e
    simp only [offB, Bool.and_eq_true, beq_iff_eq] at h
    simpa using h.1
  | g :: fs, n, i + 1, _, h, e => by
    simp only [offB, Bool.and_eq_true, beq_iff_eq] at h
    have := offB_get i h.2 (by simpa using e)
    simp only [List.take_succ_cons, List.map_cons, List.sum_cons]
    omega
  | [], _, _, _, _, e => by simp at e
/-- a struct's fields lie one behind the other -/
theorem Opens.fields {t : TypeId} {fl : List Field} {Ss : List (List AV → Prop)} (ht : P.underlying t = some (.struct fl.toArray)) (hS : OpL P w fl Ss) (ho : offB P fl 0 = true) (hsz : P.cellsOf t = (fl.map fun g => P.cellsOf g.type).sum) :
    Opens P w t fun l => ∃ ls : List (List AV), ls.length = Ss.length ∧ (∀ (i : Nat) (S : List AV → Prop) (m : List AV), Ss[i]? = some S → ls[i]? = some m → S m) ∧ l = ls.flatten :=
  Opens.struct ht (by simpa using hS.len) (fun i f S h1 h2 => hS.get i (by simpa using h1) h2) (fun i f h => by simpa using offB_get i ho (by simpa using h)) hsz
/-- slices: of the kind of elements e, each as `ok` says -/
theorem Opens.slice {t te : TypeId} {e : Ety} {S : List AV → Prop} {ok : e.T → Prop} (ht : P.underlying t = some (.slice te)) (hsz : P.cellsOf te = e.sz) (he : Opens P w te S) (hok : ∀ l, S l → ∃ x : e.T, e.enc x = l ∧ ok x) :
    Opens P w t fun l => ∃ xs : List e.T, xs.length ≤ maxLen ∧ (∀ x ∈ xs, ok x) ∧ l = [.ro e xs] := fun H enc base spare held fuel cs x hx => by
  rcases DataW.trod_slice ht hx with ⟨rfl, _⟩ | ⟨a, len, cap, elems, rest, n, _, rfl, _, _, hlc, hcm, hel, hg, _⟩
  · exact ⟨[.ro e []], ⟨[], by simp, by simp, rfl⟩, .cons (.ro0 (Nat.zero_le _)) .nil⟩
  · by_cases h0 : len = 0
    · subst h0
      exact ⟨[.ro e []], ⟨[], by simp, by simp, rfl⟩, .cons (.ro0 hcm) .nil⟩
    · have hz := e.sz_pos
      have each : ∀ i, i < len → ∃ (m : e.T) (cs' : List Value), ok m ∧ LRel (oldR w) [] (e.enc m) cs' ∧ w.cells? base (a.add (i * e.sz)) e.sz = some cs' := by
        intro i hi
        have h1 := hg i hi
        rw [List.getElem?_eq_getElem (by omega), hsz] at h1
        obtain ⟨cs', h2, h3⟩ := Option.bind_eq_some_iff.1 h1
        obtain ⟨l, h4, h5⟩ := he H enc base spare held n _ _ h3
        obtain ⟨m, rfl, h6⟩ := hok l h4
        exact ⟨m, cs', h6, h5, h2⟩
      obtain ⟨_, _, _, _, hc0⟩ := each 0 (by omega)
      obtain ⟨hs, arr, ty, fr, hb, _⟩ := cells_of hc0 hz
      have hs0 : a.spot = none := by
        rw [Nat.zero_mul] at hs
        simpa [Addr.add] using hs
      rw [add_block] at hb
      have key : ∀ k, k ≤ len → ∃ xs : List e.T, xs.length = k ∧ (∀ x ∈ xs, ok x) ∧ LRel (oldR w) [] (xs.flatMap e.enc) ((arr.toList.drop a.off).take (k * e.sz)) := by
        intro k
        induction k with
        | zero => intro _; exact ⟨[], rfl, by simp, by simp; exact .nil⟩
        | succ k ih =>
          intro hk
          obtain ⟨xs, h1, h2, h3⟩ := ih (by omega)
          obtain ⟨m, cs', h4, h5, h6⟩ := each k (by omega)
          obtain ⟨_, arr', ty', fr', hb', h7⟩ := cells_of h6 hz
          rw [add_block, hb] at hb'
          cases hb'
          rw [add_off] at h7
          refine ⟨xs ++ [m], by simp [h1], fun x hx => ?_, ?_⟩
          · rcases List.mem_append.1 hx with hx | hx
            · exact h2 x hx
            · rw [List.mem_singleton] at hx
              subst hx
              exact h4
          · rw [List.flatMap_append, List.flatMap_singleton, Nat.succ_mul, List.take_add, List.drop_drop, h7]
            exact h3.app h5
      obtain ⟨xs, h1, h2, h3⟩ := key len (Nat.le_refl _)
      refine ⟨[.ro e xs], ⟨xs, by omega, h2, rfl⟩, .cons ?_ .nil⟩
      obtain ⟨ab, ao, sp⟩ := a
      simp only at hs0
      subst hs0
      rw [← h1]
      exact .ro hb (by rw [h1]; exact h3) (by omega) hcm
/-! ### Arguments -/
def OpensV (P : Program) (w : World) (t : TypeId) (S : AV → Prop) : Prop :=
  ∀ (H : Type) (enc : TypeId × Value → H) (r : Reach) (b0 : Nat) (v : Value) (d : DataW H) (p : List MemPlace), Value.okWide P w r b0 t v → DataW.Trod enc P w 0 (fun _ => true) true t v d p → ∃ a, S a ∧ Rel (oldR w) [] a v
theorem Opens.argS {t : TypeId} {fs : Array Field} {S : List AV → Prop} (ht : P.underlying t = some (.struct fs)) (h : Opens P w t S) : OpensV P w t fun a => ∃ l, S l ∧ a = .agg l := fun H enc r b0 v d p hv hd => by
  obtain ⟨fuel, hd⟩ := hd
  obtain ⟨l, h1, h2⟩ := h H enc _ _ _ fuel _ _ hd
  unfold Value.okWide at hv
  simp only [ht] at hv
  obtain ⟨cs, rfl, _, _⟩ := hv
  exact ⟨.agg l, ⟨l, h1, rfl⟩, by simpa [Value.cells] using Rel.agg h2⟩
theorem Opens.arg1 {t : TypeId} {S : List AV → Prop} (h : Opens P w t S) (ht : ∀ v r b0, Value.okWide P w r b0 t v → v.cells = #[v]) : OpensV P w t fun a => S [a] := fun H enc r b0 v d p hv hd => by
  obtain ⟨fuel, hd⟩ := hd
  obtain ⟨l, h1, h2⟩ := h H enc _ _ _ fuel _ _ hd
  rw [ht v r b0 hv] at h2
  cases h2 with
  | cons h3 h4 =>
    cases h4
    exact ⟨_, h1, h3⟩
theorem one_of {t : TypeId} {u : TypeDesc} (ht : P.underlying t = some u) (hu : (match u with | .bool | .int _ | .string | .slice _ => true | _ => false) = true) (v : Value) (r : Reach) (b0 : Nat) (hv : Value.okWide P w r b0 t v) : v.cells = #[v] := by
  unfold Value.okWide at hv
  cases u <;> simp at hu <;> simp only [ht] at hv <;> unfold Cell.okWide Cell.ok at hv <;> simp only [ht] at hv <;> cases v <;> first | rfl | (simp at hv; done)
end
/-- a call over nothing but what lies for good leaves what lay there as it is -/
theorem does_calls {P : Program} {g : FuncId} {xs : List AV} {S : AV → Prop} {vs : List Value} {w : World} (H : Does P g xs [] fun a _ => S a) (hr : LRel (oldR w) [] xs vs) : Calls P g vs.toArray w fun e w' => (∃ v a R μ, e = .returned v ∧ S a ∧ Rel R μ a v) ∧ Go.RowKit.Below w.heap.size w w' :=
  (H.run (oldR w) [] w vs hr (old_ok w)).mono fun e w' hx => by
    obtain ⟨v, R', μ', h', av, rfl, h1, h2, _, _, h3⟩ := hx
    exact ⟨⟨v, av, R', μ', rfl, h1, h2⟩, h3.os, h3.tape, h3.output, h3.size, fun k hk => h3.out k hk (by simp [ownH])⟩
theorem does_true {P : Program} {g : FuncId} {xs : List AV} {vs : List Value} {w : World} (H : Does P g xs [] fun a _ => a = .bool true) (hr : LRel (oldR w) [] xs vs) : Calls P g vs.toArray w fun e w' => e = .returned (.bool true) ∧ Go.RowKit.Below w.heap.size w w' :=
  (does_calls H hr).mono fun e w' hx => by
    obtain ⟨⟨v, a, R, μ, rfl, rfl, h2⟩, hb⟩ := hx
    cases h2
    exact ⟨rfl, hb⟩
end Go.V

set_option maxRecDepth 100000
namespace Go.V
open Go.Proofs
theorem byte_enc {n : Int} (h : IntKind.u8.has n) : Ety.enc .byte (UInt8.ofNat n.toNat) = [.int .u8 n] := by
  have h1 : 0 ≤ n ∧ n ≤ 255 := h
  have : ((UInt8.ofNat n.toNat).toNat : Int) = n := by simp; omega
  show [AV.int .u8 ((UInt8.ofNat n.toNat).toNat : Int)] = _
  rw [this]
def okS_Rng (x : Rng) : Prop := IntKind.i64.has x.from_ ∧ IntKind.i64.has x.to_
def okE_rng (x : Ety.T .rng) : Prop := okS_Rng x
def okE_int (x : Ety.T .int) : Prop := IntKind.i64.has x
def okS_Flp (x : Flp) : Prop := IntKind.i64.has x.idx ∧ IntKind.i64.has x.bit
def okE_flp (x : Ety.T .flp) : Prop := okS_Flp x
def okS_Cfg (x : Cfg) : Prop := IntKind.i64.has x.dl ∧ (x.out.length ≤ maxLen ∧ ∀ y ∈ x.out, okE_rng y) ∧ (x.lost.length ≤ maxLen ∧ ∀ y ∈ x.lost, okE_int y) ∧ (x.flips.length ≤ maxLen ∧ ∀ y ∈ x.flips, okE_flp y)
theorem op_T3 (w : World) : Opens Try.prog w 3 fun l => ∃ n, IntKind.i64.has n ∧ l = [.int .i64 n] := Opens.int Try.underlying3
theorem op_T23 (w : World) : Opens Try.prog w 23 fun l => ∃ x : Rng, okS_Rng x ∧ l = [.int .i64 x.from_, .int .i64 x.to_] := by
  refine (Opens.fields Try.underlying23 (Ss := [_, _]) ⟨op_T3 w, op_T3 w, trivial⟩ (by kernel_rfl) (by kernel_rfl)).mono ?_
  rintro l ⟨ls, h1, h2, rfl⟩
  obtain ⟨a0, a1, rfl⟩ : ∃ a0 a1, ls = [a0, a1] := by
    match ls, h1 with
    | [a0, a1], _ => exact ⟨a0, a1, rfl⟩
  obtain ⟨x0, h10, rfl⟩ := h2 0 _ _ rfl rfl
  obtain ⟨x1, h11, rfl⟩ := h2 1 _ _ rfl rfl
  exact ⟨⟨x0, x1⟩, ⟨h10, h11⟩, rfl⟩
theorem op_T31 (w : World) : Opens Try.prog w 31 fun l => ∃ xs : List (Ety.T .rng), xs.length ≤ maxLen ∧ (∀ x ∈ xs, okE_rng x) ∧ l = [.ro .rng xs] :=
  Opens.slice (e := .rng) (ok := okE_rng) Try.underlying31 (by kernel_rfl) (op_T23 w) fun l ⟨x, h, e⟩ => ⟨x, e.symm, h⟩
theorem op_T24 (w : World) : Opens Try.prog w 24 fun l => ∃ xs : List (Ety.T .int), xs.length ≤ maxLen ∧ (∀ x ∈ xs, okE_int x) ∧ l = [.ro .int xs] :=
  Opens.slice (e := .int) (ok := okE_int) Try.underlying24 (by kernel_rfl) (op_T3 w) fun l ⟨n, h, e⟩ => ⟨n, e.symm, h⟩
theorem op_T43 (w : World) : Opens Try.prog w 43 fun l => ∃ x : Flp, okS_Flp x ∧ l = [.int .i64 x.idx, .int .i64 x.bit] := by
  refine (Opens.fields Try.underlying43 (Ss := [_, _]) ⟨op_T3 w, op_T3 w, trivial⟩ (by kernel_rfl) (by kernel_rfl)).mono ?_
  rintro l ⟨ls, h1, h2, rfl⟩
  obtain ⟨a0, a1, rfl⟩ : ∃ a0 a1, ls = [a0, a1] := by
    match ls, h1 with
    | [a0, a1], _ => exact ⟨a0, a1, rfl⟩
  obtain ⟨x0, h10, rfl⟩ := h2 0 _ _ rfl rfl
  obtain ⟨x1, h11, rfl⟩ := h2 1 _ _ rfl rfl
  exact ⟨⟨x0, x1⟩, ⟨h10, h11⟩, rfl⟩
theorem op_T32 (w : World) : Opens Try.prog w 32 fun l => ∃ xs : List (Ety.T .flp), xs.length ≤ maxLen ∧ (∀ x ∈ xs, okE_flp x) ∧ l = [.ro .flp xs] :=
  Opens.slice (e := .flp) (ok := okE_flp) Try.underlying32 (by kernel_rfl) (op_T43 w) fun l ⟨x, h, e⟩ => ⟨x, e.symm, h⟩
theorem op_T34 (w : World) : Opens Try.prog w 34 fun l => ∃ x : Cfg, okS_Cfg x ∧ l = [.int .i64 x.dl, .ro .rng x.out, .ro .int x.lost, .ro .flp x.flips] := by
  refine (Opens.fields Try.underlying34 (Ss := [_, _, _, _]) ⟨op_T3 w, op_T31 w, op_T24 w, op_T32 w, trivial⟩ (by kernel_rfl) (by kernel_rfl)).mono ?_
  rintro l ⟨ls, h1, h2, rfl⟩
  obtain ⟨a0, a1, a2, a3, rfl⟩ : ∃ a0 a1 a2 a3, ls = [a0, a1, a2, a3] := by
    match ls, h1 with
    | [a0, a1, a2, a3], _ => exact ⟨a0, a1, a2, a3, rfl⟩
  obtain ⟨x0, h10, rfl⟩ := h2 0 _ _ rfl rfl
  obtain ⟨x1, h11, g11, rfl⟩ := h2 1 _ _ rfl rfl
  obtain ⟨x2, h12, g12, rfl⟩ := h2 2 _ _ rfl rfl
  obtain ⟨x3, h13, g13, rfl⟩ := h2 3 _ _ rfl rfl
  exact ⟨⟨x0, x1, x2, x3⟩, ⟨h10, ⟨h11, g11⟩, ⟨h12, g12⟩, ⟨h13, g13⟩⟩, rfl⟩
theorem arg_T34 (w : World) : OpensV Try.prog w 34 fun a => ∃ x : Cfg, okS_Cfg x ∧ a = .agg [.int .i64 x.dl, .ro .rng x.out, .ro .int x.lost, .ro .flp x.flips] := fun H enc r b0 v d p hv hd => by
  obtain ⟨a, ⟨l, ⟨c, hn, rfl⟩, rfl⟩, h⟩ := (op_T34 w).argS Try.underlying34 H enc r b0 v d p hv hd
  exact ⟨_, ⟨c, hn, rfl⟩, h⟩
def okE_byte (x : Ety.T .byte) : Prop := True
def okS_Opl (x : Opl) : Prop := IntKind.i64.has x.call ∧ IntKind.i64.has x.now ∧ (x.b.length ≤ maxLen ∧ ∀ y ∈ x.b, okE_byte y)
theorem op_T5 (w : World) : Opens Try.prog w 5 fun l => ∃ n, IntKind.u8.has n ∧ l = [.int .u8 n] := Opens.int Try.underlying5
theorem op_T35 (w : World) : Opens Try.prog w 35 fun l => ∃ xs : List (Ety.T .byte), xs.length ≤ maxLen ∧ (∀ x ∈ xs, okE_byte x) ∧ l = [.ro .byte xs] :=
  Opens.slice (e := .byte) (ok := okE_byte) Try.underlying35 (by kernel_rfl) (op_T5 w) fun l ⟨n, h, e⟩ => ⟨UInt8.ofNat n.toNat, by rw [e]; exact byte_enc h, trivial⟩
theorem op_T53 (w : World) : Opens Try.prog w 53 fun l => ∃ x : Opl, okS_Opl x ∧ l = [.int .i64 x.call, .int .i64 x.now, .ro .byte x.b] := by
  refine (Opens.fields Try.underlying53 (Ss := [_, _, _]) ⟨op_T3 w, op_T3 w, op_T35 w, trivial⟩ (by kernel_rfl) (by kernel_rfl)).mono ?_
  rintro l ⟨ls, h1, h2, rfl⟩
  obtain ⟨a0, a1, a2, rfl⟩ : ∃ a0 a1 a2, ls = [a0, a1, a2] := by
    match ls, h1 with
    | [a0, a1, a2], _ => exact ⟨a0, a1, a2, rfl⟩
  obtain ⟨x0, h10, rfl⟩ := h2 0 _ _ rfl rfl
  obtain ⟨x1, h11, rfl⟩ := h2 1 _ _ rfl rfl
  obtain ⟨x2, h12, g12, rfl⟩ := h2 2 _ _ rfl rfl
  exact ⟨⟨x0, x1, x2⟩, ⟨h10, h11, ⟨h12, g12⟩⟩, rfl⟩
def okE_opl (x : Ety.T .opl) : Prop := okS_Opl x
theorem op_T45 (w : World) : Opens Try.prog w 45 fun l => ∃ xs : List (Ety.T .opl), xs.length ≤ maxLen ∧ (∀ x ∈ xs, okE_opl x) ∧ l = [.ro .opl xs] :=
  Opens.slice (e := .opl) (ok := okE_opl) Try.underlying45 (by kernel_rfl) (op_T53 w) fun l ⟨x, h, e⟩ => ⟨x, e.symm, h⟩
theorem arg_T45 (w : World) : OpensV Try.prog w 45 fun a => ∃ xs : List (Ety.T .opl), xs.length ≤ maxLen ∧ (∀ x ∈ xs, okE_opl x) ∧ a = .ro .opl xs := fun H enc r b0 v d p hv hd => by
  obtain ⟨a, ⟨n, h1, h2, e⟩, h⟩ := (op_T45 w).arg1 (one_of Try.underlying45 rfl) H enc r b0 v d p hv hd
  cases e
  exact ⟨_, ⟨n, h1, h2, rfl⟩, h⟩
theorem arg_T3 (w : World) : OpensV Try.prog w 3 fun a => ∃ n, IntKind.i64.has n ∧ a = .int .i64 n := fun H enc r b0 v d p hv hd => by
  obtain ⟨a, ⟨n, h1, e⟩, h⟩ := (op_T3 w).arg1 (one_of Try.underlying3 rfl) H enc r b0 v d p hv hd
  cases e
  exact ⟨_, ⟨n, h1, rfl⟩, h⟩
theorem arg_T35 (w : World) : OpensV Try.prog w 35 fun a => ∃ xs : List (Ety.T .byte), xs.length ≤ maxLen ∧ (∀ x ∈ xs, okE_byte x) ∧ a = .ro .byte xs := fun H enc r b0 v d p hv hd => by
  obtain ⟨a, ⟨n, h1, h2, e⟩, h⟩ := (op_T35 w).arg1 (one_of Try.underlying35 rfl) H enc r b0 v d p hv hd
  cases e
  exact ⟨_, ⟨n, h1, h2, rfl⟩, h⟩
/-- a law that was walked -/
theorem law_true {g : FuncId} {la : List AV} {vs : List Value} {w : World} (H : DoesK Try.prog 0 g la [] (EndF 0 (.bool true) [])) (hb : brL [] [] la la) (hr : LRel (oldR w) [] la vs) : Calls Try.prog g vs.toArray w fun e w' => e = .returned (.bool true) ∧ Go.RowKit.Below w.heap.size w w' :=
  does_true (frame_pure H hb (.inr rfl) (fun _ => rfl) rfl) hr
end Go.V
