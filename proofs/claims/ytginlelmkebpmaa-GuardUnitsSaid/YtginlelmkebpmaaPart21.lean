/-
  The guard's specification: the contract of Tick; both say the same.
  The guard: GuardPlays.
  The guard's laws over their arguments as structs.
  From the arguments of a given statement to abstract values: what is read as data lies for good.
  The arguments of the statements of chapter 47 as abstract values.
-/
import Derived.Test.YtginlelmkebpmaaPart20
import Derived.ChangeArms
import Derived.ChangeShapes
import Derived.ChangeReads
import Derived.DataReads
import Derived.Below
import Derived.OpenShut
import Derived.RowKit
import Derived.Carry
set_option linter.unusedVariables false
set_option linter.unusedSimpArgs false
set_option maxRecDepth 100000
set_option maxHeartbeats 8000000
namespace Go.V
open Go.Proofs
theorem b_rtick (r : Rs) (n : Int) (ok : OkR r) : DoesK Try.prog 0 19 [.agg (RL r), .int .i64 n] [] (EndF 0 (.tup [.agg (RL (tickR r n)), .ro .rcy (tickRO r n)]) []) := by
  obtain ⟨W, S, P, now, A, H0, rt, un, br, vi, al⟩ := r
  by_cases c1 : W ≤ atT now n - A
  · by_cases c2 : S ≤ atT now n - H0
    · by_cases c3 : rt < 0
      · exact b_rtick7 W S P now A H0 rt un br vi al n ok c1 c2 c3
      · by_cases c4 : P ≤ atT now n - rt
        · exact b_rtick8 W S P now A H0 rt un br vi al n ok c1 c2 c3 c4
        · exact b_rtick6 W S P now A H0 rt un br vi al n ok c1 c2 c3 c4
    · exact b_rtick5 W S P now A H0 rt un br vi al n ok c1 c2
  · by_cases c2 : S ≤ atT now n - H0
    · by_cases c3 : rt < 0
      · exact b_rtick3 W S P now A H0 rt un br vi al n ok c1 c2 c3
      · by_cases c4 : P ≤ atT now n - rt
        · exact b_rtick4 W S P now A H0 rt un br vi al n ok c1 c2 c3 c4
        · exact b_rtick2 W S P now A H0 rt un br vi al n ok c1 c2 c3 c4
    · exact b_rtick1 W S P now A H0 rt un br vi al n ok c1 c2
theorem c_rtick {h : List Ch} {K : KT} {W S P now A H0 rt : Int} {un : List Pr} {br vi : List Int} {al : Bool} {n : Int} (H : K (.tup [.agg (RL (tickR ⟨W, S, P, now, A, H0, rt, un, br, vi, al⟩ n)), .ro .rcy (tickRO ⟨W, S, P, now, A, H0, rt, un, br, vi, al⟩ n)]) h) (s1 : OkR ⟨W, S, P, now, A, H0, rt, un, br, vi, al⟩) : Does Try.prog 19 [.agg [.int .i64 W, .int .i64 S, .int .i64 P, .int .i64 now, .int .i64 A, .int .i64 H0, .int .i64 rt, .ro .pr un, .ro .int br, .ro .int vi, .bool al], .int .i64 n] h K :=
  frame_pure (b_rtick ⟨W, S, P, now, A, H0, rt, un, br, vi, al⟩ n s1) (br_cons br_rl (br_cons br_int br_nil)) (.inl rfl) (fun _ => rfl) H
abbrev i_rtick := Ctr.mk (i := 1) (g := 19) @c_rtick
attribute [instance] i_rtick
/-- both say the same -/
structure JG (g : Gs) (r : Rs) : Prop where
  W : g.W = r.W
  S : g.S = r.S
  P : g.P = r.P
  now : g.now = r.now
  A : g.A = r.A
  H : g.H = r.H
  rt : (g.don = true ∧ g.rt = r.rt ∧ 0 ≤ r.rt) ∨ (g.don = false ∧ r.rt = -1)
  kv : KRel g.kv r.un
  br : g.br = r.br
  vi : g.vi = r.vi
  al : g.al = r.al
theorem JG.wd {g : Gs} {r : Rs} (j : JG g r) (n : Int) : wdG g n = wdR r n := by
  unfold wdG wdR
  rw [j.W, j.now, j.A]
theorem JG.sil {g : Gs} {r : Rs} (j : JG g r) (n : Int) : silG g n = silR r n := by
  unfold silG silR mayB
  dsimp only
  rw [j.S, j.now, j.H, j.P]
  rcases j.rt with ⟨h1, h2, h3⟩ | ⟨h1, h2⟩
  · have e : decide (r.rt < 0) = false := decide_eq_false (by omega)
    rw [h1, h2, e]
    rfl
  · have e : decide (r.rt < 0) = true := decide_eq_true (by omega)
    rw [h1, e]
    rfl
theorem JG.fr {g : Gs} {r : Rs} (j : JG g r) (n : Int) : frG g n = frR r n := by
  unfold frG frR
  rw [j.br, j.P, j.now]
  apply List.filter_congr
  intro u _
  exact j.kv.due r.P (atT r.now n) u
theorem JG.safe {g : Gs} {r : Rs} (j : JG g r) (n : Int) : safeG g n = safeR r n := by
  unfold safeG safeR
  rw [j.al, j.sil n, j.fr n, j.vi]
theorem JG.out {g : Gs} {r : Rs} (j : JG g r) (n : Int) : tickO g n = tickRO r n := by
  unfold tickO tickRO
  rw [j.now, j.wd n, j.sil n, j.safe n, j.fr n]
theorem JG.tick {g : Gs} {r : Rs} (j : JG g r) (ok : OkG g) (n : Int) : JG (tickG g n) (tickR r n) := by
  have h1 := atT_ok (n := n) ok.now
  have hs := j.sil n
  refine ⟨j.W, j.S, j.P, ?_, ?_, j.H, ?_, ?_, rfl, rfl, rfl⟩
  · unfold tickG tickR; dsimp only; rw [j.now]
  · unfold tickG tickR; dsimp only; rw [j.wd n, j.now, j.A]
  · unfold tickG tickR
    dsimp only
    rw [hs, j.now]
    rw [j.now] at h1
    cases silR r n
    · simpa using j.rt
    · exact .inl ⟨rfl, rfl, h1.1⟩
  · unfold tickG tickR
    dsimp only
    rw [j.fr n, j.now]
    rw [j.now] at h1
    exact j.kv.put h1.1 _
theorem OkR.tick {r : Rs} (ok : OkR r) (n : Int) (h0 : r.un.length + 1000 ≤ 1000000) : OkR (tickR r n) := by
  have h1 := atT_ok (n := n) ok.now
  have h2 := ok.A
  have h4 := ok.rt
  refine ⟨h1, ?_, ok.H, ?_, fun u => ?_, ?_, Nat.zero_le _, Nat.zero_le _⟩
  · unfold tickR; dsimp only; split <;> omega
  · unfold tickR; dsimp only; split <;> omega
  · unfold tickR
    dsimp only
    rw [lastU_putR]
    split
    · exact h1.2
    · exact ok.lst u
  · unfold tickR putR
    dsimp only
    have h5 : (frR r n).length ≤ 1000 := by
      unfold frR
      have a1 := List.length_filter_le (dueR r.P (atT r.now n) r.un) (sdl r.br)
      have a2 := sdl_len r.br
      have a3 := ok.br
      omega
    rw [List.length_append, List.length_map]
    omega
theorem tickR_len (r : Rs) (n : Int) (h : r.br.length ≤ 1000) : (tickR r n).un.length ≤ r.un.length + 1000 := by
  unfold tickR putR frR
  dsimp only
  have a1 := List.length_filter_le (dueR r.P (atT r.now n) r.un) (sdl r.br)
  have a2 := sdl_len r.br
  rw [List.length_append, List.length_map]
  omega
theorem JG.alive {g : Gs} {r : Rs} (j : JG g r) (n : Int) : JG (aliveG g n) { r with now := atT r.now n, A := atT r.now n } :=
  ⟨j.W, j.S, j.P, congrArg (atT · n) j.now, congrArg (atT · n) j.now, j.H, j.rt, j.kv, j.br, j.vi, j.al⟩
theorem JG.heard {g : Gs} {r : Rs} (j : JG g r) (n : Int) : JG (heardG g n) { r with now := atT r.now n, H := atT r.now n } :=
  ⟨j.W, j.S, j.P, congrArg (atT · n) j.now, j.A, congrArg (atT · n) j.now, j.rt, j.kv, j.br, j.vi, j.al⟩
theorem JG.alarm {g : Gs} {r : Rs} (j : JG g r) (n : Int) : JG (alarmG g n) { r with now := atT r.now n, al := true } :=
  ⟨j.W, j.S, j.P, congrArg (atT · n) j.now, j.A, j.H, j.rt, j.kv, j.br, j.vi, rfl⟩
theorem JG.broken {g : Gs} {r : Rs} (j : JG g r) (n : Int) (l v : List Int) : JG (brokenG g n l v) { r with now := atT r.now n, br := l, vi := v } :=
  ⟨j.W, j.S, j.P, congrArg (atT · n) j.now, j.A, j.H, j.rt, j.kv, rfl, rfl, j.al⟩
theorem OkR.alive {r : Rs} (h : OkR r) (n : Int) : OkR { r with now := atT r.now n, A := atT r.now n } := ⟨atT_ok h.now, atT_ok h.now, h.H, h.rt, h.lst, h.un, h.br, h.vi⟩
theorem OkR.heard {r : Rs} (h : OkR r) (n : Int) : OkR { r with now := atT r.now n, H := atT r.now n } := ⟨atT_ok h.now, h.A, atT_ok h.now, h.rt, h.lst, h.un, h.br, h.vi⟩
theorem OkR.alarm {r : Rs} (h : OkR r) (n : Int) : OkR { r with now := atT r.now n, al := true } := ⟨atT_ok h.now, h.A, h.H, h.rt, h.lst, h.un, h.br, h.vi⟩
theorem OkR.broken {r : Rs} (h : OkR r) (n : Int) {l v : List Int} (hl : l.length ≤ 1000) (hv : v.length ≤ 1000) : OkR { r with now := atT r.now n, br := l, vi := v } := ⟨atT_ok h.now, h.A, h.H, h.rt, h.lst, h.un, hl, hv⟩
end Go.V

set_option maxRecDepth 100000
set_option maxHeartbeats 16000000
namespace Go.V
open Go.Proofs Go.Lib
structure JP (n : Nat) (x : Nat × Gs × Rs) : Prop where
  i : x.1 ≤ n ∧ x.1 ≤ 40
  og : OkG x.2.1
  or : OkR x.2.2
  un : x.2.2.un.length ≤ 1000 * x.1
  j : JG x.2.1 x.2.2
def g0 (W S P now : Int) : Gs := ⟨W, S, P, now, now, now, false, 0, [], [], [], false⟩
def r0 (W S P now : Int) : Rs := ⟨W, S, P, now, now, now, -1, [], [], [], false⟩
theorem jp0 {W S P now : Int} {n : Nat} (h : 0 ≤ now ∧ now ≤ 1099511627776) : JP n (0, g0 W S P now, r0 W S P now) := by
  refine ⟨⟨Nat.zero_le _, by show 0 ≤ 40; decide⟩, ⟨h, h, h, ⟨by show (0 : Int) ≤ 0; decide, by show (0 : Int) ≤ _; decide⟩, fun u => ⟨by show (0 : Int) ≤ 0; decide, by show (0 : Int) ≤ _; decide⟩, Nat.zero_le _, Nat.zero_le _⟩, ⟨h, h, h, ⟨by show (-1 : Int) ≤ -1; decide, by show (-1 : Int) ≤ _; decide⟩, fun u => ?_, Nat.zero_le _, Nat.zero_le _, Nat.zero_le _⟩, Nat.zero_le _, ⟨rfl, rfl, rfl, rfl, rfl, rfl, .inr ⟨rfl, rfl⟩, KRel.nil, rfl, rfl, rfl⟩⟩
  show (-1 : Int) ≤ _
  decide
theorem hidR2 : ∀ m : List Rcy, decide (m = m) = true := fun m => decide_eq_true rfl
theorem b_playsT (W S P now : Int) (l : List Gct) (hl : l.length ≤ 9223372036854775807) (ht : rightB W S P now = true) : DoesK Try.prog 0 6 [.agg [.int .i64 W, .int .i64 S, .int .i64 P], .int .i64 now, .ro .gct l] [] (EndF 0 (.bool true) []) := by
  refine DoesK.close ?_
  obtain ⟨a1, a2, a3, a4⟩ := right_iff.1 ht
  refine w_body (rs := [.tmp 6]) (tm := [.agg [.int .i64 W, .int .i64 S, .int .i64 P], .int .i64 now, .ro .gct l, .any, .any, .any, .any, .any, .any, .any, .any, .any, .any, .any, .any, .any, .any, .any, .any, .any, .any, .any, .any, .any, .any, .any, .any, .any, .any, .any, .any, .any, .any, .any, .any, .any, .any, .any, .any, .any, .any, .any, .any, .any, .any, .any, .any, .any, .any, .any, .any, .any, .any, .any, .any, .any, .any, .any, .any, .any, .any, .any, .any, .any, .any, .any, .any, .any, .any, .any, .any, .any, .any, .any, .any, .any, .any, .any, .any, .any, .any, .any, .any, .any, .any, .any, .any, .any, .any, .any, .any, .any, .any, .any, .any, .any, .any, .any, .any, .any, .any, .any, .any, .any, .any, .any, .any, .any, .any, .any, .any, .any, .any, .any, .any, .any, .any, .any, .any, .any, .any, .any, .any, .any, .any, .any, .any, .any, .any, .any, .any, .any, .any, .any, .any, .any, .any, .any, .any, .any, .any, .any, .any, .any, .any]) fn_6 rfl rfl rfl rfl fun R hR => ?_
  (have zx1 := @ht; all_goals (try ((first | (with_reducible refine wp_id ?_) | (with_reducible refine does_id ?_) | (with_reducible refine ops_id ?_)); refine walk ?_; (repeat' (first | exact trivial | with_reducible refine And.intro ?_ ?_)); all_goals (repeat (first | (with_reducible refine ImpB.mk fun hb => ?_) | (with_reducible refine ImpK.mk fun hK => ?_) | (with_reducible refine ImpF.mk fun hF => ?_) | (with_reducible refine ImpQ.mk fun hp => ?_) | (with_reducible refine AllE.mk fun p => ?_) | (with_reducible refine AllR.mk fun rest => ?_) | (with_reducible refine AllK.mk fun K => ?_))))); repeat' (with_reducible refine And.intro ?_ ?_))
  any_goals ((try (refine w_seq fun K hK => ?_)); (try (refine w_block ?_)); refine w_loop (A := Nat × Gs × Rs) (fun x => JP l.length x) (fun x => l.length - x.1) (fun x => [(10, .int .i64 x.1), (7, .ptr 1 0), (16, .any), (19, .any), (20, .any), (25, .any)]) (fun x => [(1, PG x.2.1), (2, .cells (RL x.2.2))]) ((0, g0 W S P now, r0 W S P now)) (ws := ?ws1) (tk := ?tk1) ?hw1 ?ht1 ?hi ?h0 ?LH1; (case hw1 => simp only [go_sem, decide_true, decide_false, Int.reduceToNat, Nat.min_eq_left, Nat.min_eq_right, Int.reducePow, Nat.reducePow, Int.reduceLE, Int.reduceLT, Int.reduceMul, Int.reduceAdd, Int.reduceSub, Int.reduceNeg, Bool.not_true, Bool.not_false, Bool.not_not, ↓reduceIte, Nat.reduceAdd, Nat.reduceSub, Nat.reduceMul, Nat.reduceEqDiff, reduceCtorEq, Nat.reduceLT, Nat.reduceLeDiff, Nat.reduceGT]; exact rfl); (case ht1 => simp only [go_sem, decide_true, decide_false, Int.reduceToNat, Nat.min_eq_left, Nat.min_eq_right, Int.reducePow, Nat.reducePow, Int.reduceLE, Int.reduceLT, Int.reduceMul, Int.reduceAdd, Int.reduceSub, Int.reduceNeg, Bool.not_true, Bool.not_false, Bool.not_not, ↓reduceIte, Nat.reduceAdd, Nat.reduceSub, Nat.reduceMul, Nat.reduceEqDiff, reduceCtorEq, Nat.reduceLT, Nat.reduceLeDiff, Nat.reduceGT]; exact rfl); (case' LH1 => rintro x E t hx hE ht; simp only [go_sem] at ht; subst ht; simp only [go_sem]; try dsimp only at hx))
  case hi => exact jp0 a4
  case h0 =>
    (focus (refine ⟨_, _, Gh.trans (gh_open (t := 1) rfl) (Gh.trans (gh_adoptC (t := 1) (i := 10) .int rfl trivial) (Gh.trans (gh_adoptC (t := 1) (i := 11) .int rfl trivial) (gh_close (t := 1) (ts := [3, 4, 5]) (l := GU (g0 W S P now)) ⟨⟨_, _, rfl⟩, ?_, by simp⟩))), [0, 1, 2], rfl, ?_⟩; all_goals (refine ⟨?_, ?_, ?_⟩ <;> simp only [go_sem, List.range, List.range.loop, List.nodup_cons, List.nodup_nil, List.mem_cons, List.not_mem_nil, or_false, or_self, decide_true, decide_false, Int.reduceToNat, Nat.min_eq_left, Nat.min_eq_right, Int.reducePow, Nat.reducePow, Int.reduceLE, Int.reduceLT, Int.reduceMul, Int.reduceAdd, Int.reduceSub, Int.reduceNeg, Bool.not_true, Bool.not_false, Bool.not_not, ↓reduceIte, Nat.reduceAdd, Nat.reduceSub, Nat.reduceMul, Nat.reduceEqDiff, reduceCtorEq, Nat.reduceLT, Nat.reduceLeDiff, Nat.reduceGT]); (try any_goals (refine ⟨?_, ?_⟩)); (try any_goals (with_reducible rfl))))
    all_goals (repeat' (first | (refine And.intro ?_ ?_) | exact List.Perm.refl _ | rfl))
  case LH1 =>
    obtain ⟨i, g, ⟨rW, rS, rP, rnow, rA, rH, rrt, run, rbr, rvi, ral⟩⟩ := x
    obtain ⟨⟨hi1, hi2⟩, og, orr, hun, j⟩ := hx
    dsimp only at hi1 hi2 og orr hun j ⊢
    have hw : IntKind.i64.wrap ((i : Int) + 1) = ((i + 1 : Nat) : Int) := by rw [wrap_i64 _ (by omega) (by omega)]; omega
    by_cases k1 : i < l.length
    · have d1 : decide ((i : Int) < (l.length : Int)) = true := decide_eq_true (by omega)
      by_cases k2 : i < 40
      · have d2 : decide ((i : Int) < 40) = true := decide_eq_true (by omega)
        obtain ⟨⟨kd, nw, al, av⟩, hxe⟩ : ∃ y, l.getD i Gct.zero = y := ⟨_, rfl⟩
        by_cases k3 : al.length ≤ 12
        · have d3 : decide ((12 : Int) < (al.length : Int)) = false := decide_eq_false (by omega)
          by_cases k4 : av.length ≤ 12
          · have d4 : decide ((12 : Int) < (av.length : Int)) = false := decide_eq_false (by omega)
            have htk := og.tick nw
            have heq : tickO g nw = tickRO ⟨rW, rS, rP, rnow, rA, rH, rrt, run, rbr, rvi, ral⟩ nw := j.out nw
            have hid := hidR2
            have hl1 : (tickRO ⟨rW, rS, rP, rnow, rA, rH, rrt, run, rbr, rvi, ral⟩ nw).length ≤ 1099511627776 := by
              rw [← heq]
              have q1 := tkO_len (atT g.now nw) (wdG g nw) (silG g nw) (safeG g nw) (frG g nw)
              have q2 := frG_len g nw og.br
              unfold tickO
              omega
            by_cases c1 : kd = 1
            · have e1 : decide (kd = 1) = true := decide_eq_true c1
              (have zx1 := @d1; have zx2 := @d2; have zx3 := @d3; have zx4 := @d4; have zx5 := @hxe; have zx6 := @hw; have zx7 := @heq; have zx8 := @hid; have zx9 := @e1; all_goals (try ((first | (with_reducible refine wp_id ?_) | (with_reducible refine does_id ?_) | (with_reducible refine ops_id ?_)); refine walk ?_; (repeat' (first | exact trivial | with_reducible refine And.intro ?_ ?_)); all_goals (repeat (first | (with_reducible refine ImpB.mk fun hb => ?_) | (with_reducible refine ImpK.mk fun hK => ?_) | (with_reducible refine ImpF.mk fun hF => ?_) | (with_reducible refine ImpQ.mk fun hp => ?_) | (with_reducible refine AllE.mk fun p => ?_) | (with_reducible refine AllR.mk fun rest => ?_) | (with_reducible refine AllK.mk fun K => ?_))))); repeat' (with_reducible refine And.intro ?_ ?_))
              all_goals first | exact Int.natCast_nonneg _ | omega | skip
              refine ⟨(i + 1, aliveG g nw, ⟨rW, rS, rP, atT rnow nw, atT rnow nw, rH, rrt, run, rbr, rvi, ral⟩), ⟨⟨⟨by first | omega | (dsimp only; omega), by first | omega | (dsimp only; omega)⟩, og.alive nw, orr.alive nw, by first | omega | (dsimp only; omega), j.alive nw⟩, by first | omega | (dsimp only; omega)⟩, ?_⟩
              (focus (refine ⟨_, _, Gh.refl, [0, 1, 2], rfl, ?_⟩; (refine ⟨?_, ?_, ?_⟩ <;> simp only [go_sem, List.range, List.range.loop, List.nodup_cons, List.nodup_nil, List.mem_cons, List.not_mem_nil, or_false, or_self, decide_true, decide_false, Int.reduceToNat, Nat.min_eq_left, Nat.min_eq_right, Int.reducePow, Nat.reducePow, Int.reduceLE, Int.reduceLT, Int.reduceMul, Int.reduceAdd, Int.reduceSub, Int.reduceNeg, Bool.not_true, Bool.not_false, Bool.not_not, ↓reduceIte, Nat.reduceAdd, Nat.reduceSub, Nat.reduceMul, Nat.reduceEqDiff, reduceCtorEq, Nat.reduceLT, Nat.reduceLeDiff, Nat.reduceGT]); (try any_goals (refine ⟨?_, ?_⟩)); (try any_goals (with_reducible rfl))))
              all_goals (repeat' (first | (refine And.intro ?_ ?_) | rfl | exact hw | exact hw.symm))
            have e1 : decide (kd = 1) = false := decide_eq_false c1
            by_cases c2 : kd = 2
            · have e2 : decide (kd = 2) = true := decide_eq_true c2
              (have zx1 := @d1; have zx2 := @d2; have zx3 := @d3; have zx4 := @d4; have zx5 := @hxe; have zx6 := @hw; have zx7 := @heq; have zx8 := @hid; have zx9 := @e1; have zx10 := @e2; all_goals (try ((first | (with_reducible refine wp_id ?_) | (with_reducible refine does_id ?_) | (with_reducible refine ops_id ?_)); refine walk ?_; (repeat' (first | exact trivial | with_reducible refine And.intro ?_ ?_)); all_goals (repeat (first | (with_reducible refine ImpB.mk fun hb => ?_) | (with_reducible refine ImpK.mk fun hK => ?_) | (with_reducible refine ImpF.mk fun hF => ?_) | (with_reducible refine ImpQ.mk fun hp => ?_) | (with_reducible refine AllE.mk fun p => ?_) | (with_reducible refine AllR.mk fun rest => ?_) | (with_reducible refine AllK.mk fun K => ?_))))); repeat' (with_reducible refine And.intro ?_ ?_))
              all_goals first | exact Int.natCast_nonneg _ | omega | skip
              refine ⟨(i + 1, heardG g nw, ⟨rW, rS, rP, atT rnow nw, rA, atT rnow nw, rrt, run, rbr, rvi, ral⟩), ⟨⟨⟨by first | omega | (dsimp only; omega), by first | omega | (dsimp only; omega)⟩, og.heard nw, orr.heard nw, by first | omega | (dsimp only; omega), j.heard nw⟩, by first | omega | (dsimp only; omega)⟩, ?_⟩
              (focus (refine ⟨_, _, Gh.refl, [0, 1, 2], rfl, ?_⟩; (refine ⟨?_, ?_, ?_⟩ <;> simp only [go_sem, List.range, List.range.loop, List.nodup_cons, List.nodup_nil, List.mem_cons, List.not_mem_nil, or_false, or_self, decide_true, decide_false, Int.reduceToNat, Nat.min_eq_left, Nat.min_eq_right, Int.reducePow, Nat.reducePow, Int.reduceLE, Int.reduceLT, Int.reduceMul, Int.reduceAdd, Int.reduceSub, Int.reduceNeg, Bool.not_true, Bool.not_false, Bool.not_not, ↓reduceIte, Nat.reduceAdd, Nat.reduceSub, Nat.reduceMul, Nat.reduceEqDiff, reduceCtorEq, Nat.reduceLT, Nat.reduceLeDiff, Nat.reduceGT]); (try any_goals (refine ⟨?_, ?_⟩)); (try any_goals (with_reducible rfl))))
              all_goals (repeat' (first | (refine And.intro ?_ ?_) | rfl | exact hw | exact hw.symm))
            have e2 : decide (kd = 2) = false := decide_eq_false c2
            by_cases c3 : kd = 3
            · have e3 : decide (kd = 3) = true := decide_eq_true c3
              (have zx1 := @d1; have zx2 := @d2; have zx3 := @d3; have zx4 := @d4; have zx5 := @hxe; have zx6 := @hw; have zx7 := @heq; have zx8 := @hid; have zx9 := @e1; have zx10 := @e2; have zx11 := @e3; all_goals (try ((first | (with_reducible refine wp_id ?_) | (with_reducible refine does_id ?_) | (with_reducible refine ops_id ?_)); refine walk ?_; (repeat' (first | exact trivial | with_reducible refine And.intro ?_ ?_)); all_goals (repeat (first | (with_reducible refine ImpB.mk fun hb => ?_) | (with_reducible refine ImpK.mk fun hK => ?_) | (with_reducible refine ImpF.mk fun hF => ?_) | (with_reducible refine ImpQ.mk fun hp => ?_) | (with_reducible refine AllE.mk fun p => ?_) | (with_reducible refine AllR.mk fun rest => ?_) | (with_reducible refine AllK.mk fun K => ?_))))); repeat' (with_reducible refine And.intro ?_ ?_))
              all_goals first | exact Int.natCast_nonneg _ | omega | skip
              refine ⟨(i + 1, alarmG g nw, ⟨rW, rS, rP, atT rnow nw, rA, rH, rrt, run, rbr, rvi, true⟩), ⟨⟨⟨by first | omega | (dsimp only; omega), by first | omega | (dsimp only; omega)⟩, og.alarm nw, orr.alarm nw, by first | omega | (dsimp only; omega), j.alarm nw⟩, by first | omega | (dsimp only; omega)⟩, ?_⟩
              (focus (refine ⟨_, _, Gh.refl, [0, 1, 2], rfl, ?_⟩; (refine ⟨?_, ?_, ?_⟩ <;> simp only [go_sem, List.range, List.range.loop, List.nodup_cons, List.nodup_nil, List.mem_cons, List.not_mem_nil, or_false, or_self, decide_true, decide_false, Int.reduceToNat, Nat.min_eq_left, Nat.min_eq_right, Int.reducePow, Nat.reducePow, Int.reduceLE, Int.reduceLT, Int.reduceMul, Int.reduceAdd, Int.reduceSub, Int.reduceNeg, Bool.not_true, Bool.not_false, Bool.not_not, ↓reduceIte, Nat.reduceAdd, Nat.reduceSub, Nat.reduceMul, Nat.reduceEqDiff, reduceCtorEq, Nat.reduceLT, Nat.reduceLeDiff, Nat.reduceGT]); (try any_goals (refine ⟨?_, ?_⟩)); (try any_goals (with_reducible rfl))))
              all_goals (repeat' (first | (refine And.intro ?_ ?_) | rfl | exact hw | exact hw.symm))
            have e3 : decide (kd = 3) = false := decide_eq_false c3
            by_cases c4 : kd = 4
            · have e4 : decide (kd = 4) = true := decide_eq_true c4
              (have zx1 := @d1; have zx2 := @d2; have zx3 := @d3; have zx4 := @d4; have zx5 := @hxe; have zx6 := @hw; have zx7 := @heq; have zx8 := @hid; have zx9 := @e1; have zx10 := @e2; have zx11 := @e3; have zx12 := @e4; all_goals (try ((first | (with_reducible refine wp_id ?_) | (with_reducible refine does_id ?_) | (with_reducible refine ops_id ?_)); refine walk ?_; (repeat' (first | exact trivial | with_reducible refine And.intro ?_ ?_)); all_goals (repeat (first | (with_reducible refine ImpB.mk fun hb => ?_) | (with_reducible refine ImpK.mk fun hK => ?_) | (with_reducible refine ImpF.mk fun hF => ?_) | (with_reducible refine ImpQ.mk fun hp => ?_) | (with_reducible refine AllE.mk fun p => ?_) | (with_reducible refine AllR.mk fun rest => ?_) | (with_reducible refine AllK.mk fun K => ?_))))); repeat' (with_reducible refine And.intro ?_ ?_))
              all_goals first | exact Int.natCast_nonneg _ | omega | skip
              refine ⟨(i + 1, brokenG g nw al av, ⟨rW, rS, rP, atT rnow nw, rA, rH, rrt, run, al, av, ral⟩), ⟨⟨⟨by first | omega | (dsimp only; omega), by first | omega | (dsimp only; omega)⟩, og.broken nw (by omega) (by omega), orr.broken nw (by omega) (by omega), by first | omega | (dsimp only; omega), j.broken nw al av⟩, by first | omega | (dsimp only; omega)⟩, ?_⟩
              (focus (refine ⟨_, _, Gh.refl, [0, 1, 2], rfl, ?_⟩; (refine ⟨?_, ?_, ?_⟩ <;> simp only [go_sem, List.range, List.range.loop, List.nodup_cons, List.nodup_nil, List.mem_cons, List.not_mem_nil, or_false, or_self, decide_true, decide_false, Int.reduceToNat, Nat.min_eq_left, Nat.min_eq_right, Int.reducePow, Nat.reducePow, Int.reduceLE, Int.reduceLT, Int.reduceMul, Int.reduceAdd, Int.reduceSub, Int.reduceNeg, Bool.not_true, Bool.not_false, Bool.not_not, ↓reduceIte, Nat.reduceAdd, Nat.reduceSub, Nat.reduceMul, Nat.reduceEqDiff, reduceCtorEq, Nat.reduceLT, Nat.reduceLeDiff, Nat.reduceGT]); (try any_goals (refine ⟨?_, ?_⟩)); (try any_goals (with_reducible rfl))))
              all_goals (repeat' (first | (refine And.intro ?_ ?_) | rfl | exact hw | exact hw.symm))
            have e4 : decide (kd = 4) = false := decide_eq_false c4
            by_cases c5 : kd = 5
            · have e5 : decide (kd = 5) = true := decide_eq_true c5
              have e123 := And.intro e1 (And.intro e2 e3)
              (have zx1 := @d1; have zx2 := @d2; have zx3 := @d3; have zx4 := @d4; have zx5 := @hxe; have zx6 := @hw; have zx7 := @heq; have zx8 := @hid; have zx9 := @e4; have zx10 := @e5; have zx11 := @e123; all_goals (try ((first | (with_reducible refine wp_id ?_) | (with_reducible refine does_id ?_) | (with_reducible refine ops_id ?_)); refine walk ?_; (repeat' (first | exact trivial | with_reducible refine And.intro ?_ ?_)); all_goals (repeat (first | (with_reducible refine ImpB.mk fun hb => ?_) | (with_reducible refine ImpK.mk fun hK => ?_) | (with_reducible refine ImpF.mk fun hF => ?_) | (with_reducible refine ImpQ.mk fun hp => ?_) | (with_reducible refine AllE.mk fun p => ?_) | (with_reducible refine AllR.mk fun rest => ?_) | (with_reducible refine AllK.mk fun K => ?_))))); repeat' (with_reducible refine And.intro ?_ ?_))
              all_goals first | exact Int.natCast_nonneg _ | omega | skip
              refine ⟨(i + 1, g, ⟨rW, rS, rP, rnow, rA, rH, rrt, run, rbr, rvi, ral⟩), ⟨⟨⟨by first | omega | (dsimp only; omega), by first | omega | (dsimp only; omega)⟩, og, orr, by first | omega | (dsimp only; omega), j⟩, by first | omega | (dsimp only; omega)⟩, ?_⟩
              (focus (refine ⟨_, _, Gh.refl, [0, 4, 2], rfl, ?_⟩; (refine ⟨?_, ?_, ?_⟩ <;> simp only [go_sem, List.range, List.range.loop, List.nodup_cons, List.nodup_nil, List.mem_cons, List.not_mem_nil, or_false, or_self, decide_true, decide_false, Int.reduceToNat, Nat.min_eq_left, Nat.min_eq_right, Int.reducePow, Nat.reducePow, Int.reduceLE, Int.reduceLT, Int.reduceMul, Int.reduceAdd, Int.reduceSub, Int.reduceNeg, Bool.not_true, Bool.not_false, Bool.not_not, ↓reduceIte, Nat.reduceAdd, Nat.reduceSub, Nat.reduceMul, Nat.reduceEqDiff, reduceCtorEq, Nat.reduceLT, Nat.reduceLeDiff, Nat.reduceGT]); (try any_goals (refine ⟨?_, ?_⟩)); (try any_goals (with_reducible rfl))))
              all_goals (repeat' (first | (refine And.intro ?_ ?_) | rfl | exact hw | exact hw.symm))
            have e5 : decide (kd = 5) = false := decide_eq_false c5
            have e123 := And.intro e1 (And.intro e2 e3)
            (have zx1 := @d1; have zx2 := @d2; have zx3 := @d3; have zx4 := @d4; have zx5 := @hxe; have zx6 := @hw; have zx7 := @heq; have zx8 := @hid; have zx9 := @e4; have zx10 := @e5; have zx11 := @e123; all_goals (try ((first | (with_reducible refine wp_id ?_) | (with_reducible refine does_id ?_) | (with_reducible refine ops_id ?_)); refine walk ?_; (repeat' (first | exact trivial | with_reducible refine And.intro ?_ ?_)); all_goals (repeat (first | (with_reducible refine ImpB.mk fun hb => ?_) | (with_reducible refine ImpK.mk fun hK => ?_) | (with_reducible refine ImpF.mk fun hF => ?_) | (with_reducible refine ImpQ.mk fun hp => ?_) | (with_reducible refine AllE.mk fun p => ?_) | (with_reducible refine AllR.mk fun rest => ?_) | (with_reducible refine AllK.mk fun K => ?_))))); repeat' (with_reducible refine And.intro ?_ ?_))
            all_goals first | exact Int.natCast_nonneg _ | omega | (exact absurd hb (by simp)) | skip
            have hun2 := tickR_len ⟨rW, rS, rP, rnow, rA, rH, rrt, run, rbr, rvi, ral⟩ nw orr.br
            have hun3 : (tickR ⟨rW, rS, rP, rnow, rA, rH, rrt, run, rbr, rvi, ral⟩ nw).un.length ≤ 1000 * (i + 1) := by dsimp only at hun2; omega
            refine ⟨(i + 1, tickG g nw, tickR ⟨rW, rS, rP, rnow, rA, rH, rrt, run, rbr, rvi, ral⟩ nw), ⟨⟨⟨by first | omega | (dsimp only; omega), by first | omega | (dsimp only; omega)⟩, htk, orr.tick nw (by dsimp only; omega), hun3, j.tick og nw⟩, by first | omega | (dsimp only; omega)⟩, ?_⟩
            (focus (refine ⟨_, _, Gh.refl, [0, 1, 2], rfl, ?_⟩; (refine ⟨?_, ?_, ?_⟩ <;> simp only [go_sem, List.range, List.range.loop, List.nodup_cons, List.nodup_nil, List.mem_cons, List.not_mem_nil, or_false, or_self, decide_true, decide_false, Int.reduceToNat, Nat.min_eq_left, Nat.min_eq_right, Int.reducePow, Nat.reducePow, Int.reduceLE, Int.reduceLT, Int.reduceMul, Int.reduceAdd, Int.reduceSub, Int.reduceNeg, Bool.not_true, Bool.not_false, Bool.not_not, ↓reduceIte, Nat.reduceAdd, Nat.reduceSub, Nat.reduceMul, Nat.reduceEqDiff, reduceCtorEq, Nat.reduceLT, Nat.reduceLeDiff, Nat.reduceGT]); (try any_goals (refine ⟨?_, ?_⟩)); (try any_goals (with_reducible rfl))))
            all_goals (repeat' (first | (refine And.intro ?_ ?_) | rfl | exact hw | exact hw.symm))
          · have d4 : decide ((12 : Int) < (av.length : Int)) = true := decide_eq_true (by omega)
            (have zx1 := @d1; have zx2 := @d2; have zx3 := @d3; have zx4 := @d4; have zx5 := @hxe; all_goals (try ((first | (with_reducible refine wp_id ?_) | (with_reducible refine does_id ?_) | (with_reducible refine ops_id ?_)); refine walk ?_; (repeat' (first | exact trivial | with_reducible refine And.intro ?_ ?_)); all_goals (repeat (first | (with_reducible refine ImpB.mk fun hb => ?_) | (with_reducible refine ImpK.mk fun hK => ?_) | (with_reducible refine ImpF.mk fun hF => ?_) | (with_reducible refine ImpQ.mk fun hp => ?_) | (with_reducible refine AllE.mk fun p => ?_) | (with_reducible refine AllR.mk fun rest => ?_) | (with_reducible refine AllK.mk fun K => ?_))))); repeat' (with_reducible refine And.intro ?_ ?_))
            all_goals first | exact Int.natCast_nonneg _ | omega | skip
            (focus (refine ⟨_, _, Gh.refl, [], rfl, ?_⟩; (refine ⟨?_, ?_, ?_⟩ <;> simp only [go_sem, List.range, List.range.loop, List.nodup_cons, List.nodup_nil, List.mem_cons, List.not_mem_nil, or_false, or_self, decide_true, decide_false, Int.reduceToNat, Nat.min_eq_left, Nat.min_eq_right, Int.reducePow, Nat.reducePow, Int.reduceLE, Int.reduceLT, Int.reduceMul, Int.reduceAdd, Int.reduceSub, Int.reduceNeg, Bool.not_true, Bool.not_false, Bool.not_not, ↓reduceIte, Nat.reduceAdd, Nat.reduceSub, Nat.reduceMul, Nat.reduceEqDiff, reduceCtorEq, Nat.reduceLT, Nat.reduceLeDiff, Nat.reduceGT]); (try any_goals (refine ⟨?_, ?_⟩)); (try any_goals (with_reducible rfl))))
        · have d3 : decide ((12 : Int) < (al.length : Int)) = true := decide_eq_true (by omega)
          (have zx1 := @d1; have zx2 := @d2; have zx3 := @d3; have zx4 := @hxe; all_goals (try ((first | (with_reducible refine wp_id ?_) | (with_reducible refine does_id ?_) | (with_reducible refine ops_id ?_)); refine walk ?_; (repeat' (first | exact trivial | with_reducible refine And.intro ?_ ?_)); all_goals (repeat (first | (with_reducible refine ImpB.mk fun hb => ?_) | (with_reducible refine ImpK.mk fun hK => ?_) | (with_reducible refine ImpF.mk fun hF => ?_) | (with_reducible refine ImpQ.mk fun hp => ?_) | (with_reducible refine AllE.mk fun p => ?_) | (with_reducible refine AllR.mk fun rest => ?_) | (with_reducible refine AllK.mk fun K => ?_))))); repeat' (with_reducible refine And.intro ?_ ?_))
          all_goals first | exact Int.natCast_nonneg _ | omega | skip
          (focus (refine ⟨_, _, Gh.refl, [], rfl, ?_⟩; (refine ⟨?_, ?_, ?_⟩ <;> simp only [go_sem, List.range, List.range.loop, List.nodup_cons, List.nodup_nil, List.mem_cons, List.not_mem_nil, or_false, or_self, decide_true, decide_false, Int.reduceToNat, Nat.min_eq_left, Nat.min_eq_right, Int.reducePow, Nat.reducePow, Int.reduceLE, Int.reduceLT, Int.reduceMul, Int.reduceAdd, Int.reduceSub, Int.reduceNeg, Bool.not_true, Bool.not_false, Bool.not_not, ↓reduceIte, Nat.reduceAdd, Nat.reduceSub, Nat.reduceMul, Nat.reduceEqDiff, reduceCtorEq, Nat.reduceLT, Nat.reduceLeDiff, Nat.reduceGT]); (try any_goals (refine ⟨?_, ?_⟩)); (try any_goals (with_reducible rfl))))
      · have d2 : decide ((i : Int) < 40) = false := decide_eq_false (by omega)
        (have zx1 := @d1; have zx2 := @d2; all_goals (try ((first | (with_reducible refine wp_id ?_) | (with_reducible refine does_id ?_) | (with_reducible refine ops_id ?_)); refine walk ?_; (repeat' (first | exact trivial | with_reducible refine And.intro ?_ ?_)); all_goals (repeat (first | (with_reducible refine ImpB.mk fun hb => ?_) | (with_reducible refine ImpK.mk fun hK => ?_) | (with_reducible refine ImpF.mk fun hF => ?_) | (with_reducible refine ImpQ.mk fun hp => ?_) | (with_reducible refine AllE.mk fun p => ?_) | (with_reducible refine AllR.mk fun rest => ?_) | (with_reducible refine AllK.mk fun K => ?_))))); repeat' (with_reducible refine And.intro ?_ ?_))
        (focus (refine ⟨_, _, Gh.refl, [], rfl, ?_⟩; (refine ⟨?_, ?_, ?_⟩ <;> simp only [go_sem, List.range, List.range.loop, List.nodup_cons, List.nodup_nil, List.mem_cons, List.not_mem_nil, or_false, or_self, decide_true, decide_false, Int.reduceToNat, Nat.min_eq_left, Nat.min_eq_right, Int.reducePow, Nat.reducePow, Int.reduceLE, Int.reduceLT, Int.reduceMul, Int.reduceAdd, Int.reduceSub, Int.reduceNeg, Bool.not_true, Bool.not_false, Bool.not_not, ↓reduceIte, Nat.reduceAdd, Nat.reduceSub, Nat.reduceMul, Nat.reduceEqDiff, reduceCtorEq, Nat.reduceLT, Nat.reduceLeDiff, Nat.reduceGT]); (try any_goals (refine ⟨?_, ?_⟩)); (try any_goals (with_reducible rfl))))
    · have d1 : decide ((i : Int) < (l.length : Int)) = false := decide_eq_false (by omega)
      (have zx1 := @d1; all_goals (try ((first | (with_reducible refine wp_id ?_) | (with_reducible refine does_id ?_) | (with_reducible refine ops_id ?_)); refine walk ?_; (repeat' (first | exact trivial | with_reducible refine And.intro ?_ ?_)); all_goals (repeat (first | (with_reducible refine ImpB.mk fun hb => ?_) | (with_reducible refine ImpK.mk fun hK => ?_) | (with_reducible refine ImpF.mk fun hF => ?_) | (with_reducible refine ImpQ.mk fun hp => ?_) | (with_reducible refine AllE.mk fun p => ?_) | (with_reducible refine AllR.mk fun rest => ?_) | (with_reducible refine AllK.mk fun K => ?_))))); repeat' (with_reducible refine And.intro ?_ ?_))
      (focus (refine ⟨_, _, Gh.refl, [], rfl, ?_⟩; (refine ⟨?_, ?_, ?_⟩ <;> simp only [go_sem, List.range, List.range.loop, List.nodup_cons, List.nodup_nil, List.mem_cons, List.not_mem_nil, or_false, or_self, decide_true, decide_false, Int.reduceToNat, Nat.min_eq_left, Nat.min_eq_right, Int.reducePow, Nat.reducePow, Int.reduceLE, Int.reduceLT, Int.reduceMul, Int.reduceAdd, Int.reduceSub, Int.reduceNeg, Bool.not_true, Bool.not_false, Bool.not_not, ↓reduceIte, Nat.reduceAdd, Nat.reduceSub, Nat.reduceMul, Nat.reduceEqDiff, reduceCtorEq, Nat.reduceLT, Nat.reduceLeDiff, Nat.reduceGT]); (try any_goals (refine ⟨?_, ?_⟩)); (try any_goals (with_reducible rfl))))
theorem b_playsF (W S P now : Int) (l : List Gct) (hr : rightB W S P now = false) : DoesK Try.prog 0 6 [.agg [.int .i64 W, .int .i64 S, .int .i64 P], .int .i64 now, .ro .gct l] [] (EndF 0 (.bool true) []) := by
  refine DoesK.close ?_
  refine w_body (rs := [.tmp 6]) (tm := [.agg [.int .i64 W, .int .i64 S, .int .i64 P], .int .i64 now, .ro .gct l, .any, .any, .any, .any, .any, .any, .any, .any, .any, .any, .any, .any, .any, .any, .any, .any, .any, .any, .any, .any, .any, .any, .any, .any, .any, .any, .any, .any, .any, .any, .any, .any, .any, .any, .any, .any, .any, .any, .any, .any, .any, .any, .any, .any, .any, .any, .any, .any, .any, .any, .any, .any, .any, .any, .any, .any, .any, .any, .any, .any, .any, .any, .any, .any, .any, .any, .any, .any, .any, .any, .any, .any, .any, .any, .any, .any, .any, .any, .any, .any, .any, .any, .any, .any, .any, .any, .any, .any, .any, .any, .any, .any, .any, .any, .any, .any, .any, .any, .any, .any, .any, .any, .any, .any, .any, .any, .any, .any, .any, .any, .any, .any, .any, .any, .any, .any, .any, .any, .any, .any, .any, .any, .any, .any, .any, .any, .any, .any, .any, .any, .any, .any, .any, .any, .any, .any, .any, .any, .any, .any, .any, .any]) fn_6 rfl rfl rfl rfl fun R hR => ?_
  (have zx1 := @hr; all_goals (try ((first | (with_reducible refine wp_id ?_) | (with_reducible refine does_id ?_) | (with_reducible refine ops_id ?_)); refine walk ?_; (repeat' (first | exact trivial | with_reducible refine And.intro ?_ ?_)); all_goals (repeat (first | (with_reducible refine ImpB.mk fun hb => ?_) | (with_reducible refine ImpK.mk fun hK => ?_) | (with_reducible refine ImpF.mk fun hF => ?_) | (with_reducible refine ImpQ.mk fun hp => ?_) | (with_reducible refine AllE.mk fun p => ?_) | (with_reducible refine AllR.mk fun rest => ?_) | (with_reducible refine AllK.mk fun K => ?_))))); repeat' (with_reducible refine And.intro ?_ ?_))
  all_goals first | ((focus (refine ⟨_, _, Gh.refl, [], rfl, ?_⟩; (refine ⟨?_, ?_, ?_⟩ <;> simp only [go_sem, List.range, List.range.loop, List.nodup_cons, List.nodup_nil, List.mem_cons, List.not_mem_nil, or_false, or_self, decide_true, decide_false, Int.reduceToNat, Nat.min_eq_left, Nat.min_eq_right, Int.reducePow, Nat.reducePow, Int.reduceLE, Int.reduceLT, Int.reduceMul, Int.reduceAdd, Int.reduceSub, Int.reduceNeg, Bool.not_true, Bool.not_false, Bool.not_not, ↓reduceIte, Nat.reduceAdd, Nat.reduceSub, Nat.reduceMul, Nat.reduceEqDiff, reduceCtorEq, Nat.reduceLT, Nat.reduceLeDiff, Nat.reduceGT]); (try any_goals (refine ⟨?_, ?_⟩)); (try any_goals (with_reducible rfl)))); done) | exact absurd hb (by decide)
theorem b_plays (W S P now : Int) (l : List Gct) (hl : l.length ≤ 9223372036854775807) : DoesK Try.prog 0 6 [.agg [.int .i64 W, .int .i64 S, .int .i64 P], .int .i64 now, .ro .gct l] [] (EndF 0 (.bool true) []) := by
  cases hr : rightB W S P now
  · exact b_playsF W S P now l hr
  · exact b_playsT W S P now l hl hr
end Go.V

namespace Go.V
open Go.Proofs
theorem b_unitsL (c : Cfg) (x : Gca) : DoesK Try.prog 0 5 [.agg [.int .i64 c.wd, .int .i64 c.si, .int .i64 c.pa], .agg [.int .i64 x.unit, .bool x.vital, .int .i64 x.ticks]] [] (EndF 0 (.bool true) []) := b_units c.wd c.si c.pa x.unit x.vital x.ticks
theorem b_playsL (c : Cfg) (now : Int) (l : List Gct) (hl : l.length ≤ 9223372036854775807) : DoesK Try.prog 0 6 [.agg [.int .i64 c.wd, .int .i64 c.si, .int .i64 c.pa], .int .i64 now, .ro .gct l] [] (EndF 0 (.bool true) []) := b_plays c.wd c.si c.pa now l hl
end Go.V

namespace Go.V
/-- all that lies in the memory at the start lies for good -/
def oldR (w : World) : RO := fun b => w.heap[b]?
theorem old_ok (w : World) : HOk (oldR w) [] [] w := ⟨trivial, by simp [ownH], fun b hb => by simp [ownH] at hb, fun _ _ h => h⟩
theorem cell_of {w : World} {a : Addr} {v : Value} (h : w.cell? a = some v) : a.spot = none ∧ ∃ arr ty fr, w.heap[a.block]? = some (.cells arr ty fr) ∧ arr[a.off]? = some v := by
  unfold World.cell? at h
  split at h
  · rename_i c ty fr hc
    split at h
    · simp at h
    · rename_i hs
      exact ⟨by simpa using hs, c, ty, fr, hc, h⟩
  · simp at h
theorem add_block (a : Addr) (i : Nat) : (a.add i).block = a.block := by
  unfold Addr.add
  split <;> rfl
theorem add_off (a : Addr) (i : Nat) : (a.add i).off = a.off + i := by
  unfold Addr.add
  split
  · simp_all
  · rfl
/-- some cells in a row -/
theorem cells_of {w : World} {base : Nat} {a : Addr} {n : Nat} {cs : List Value} (h : w.cells? base a n = some cs) (hn : 0 < n) : a.spot = none ∧ ∃ arr ty fr, w.heap[a.block]? = some (.cells arr ty fr) ∧ (arr.toList.drop a.off).take n = cs := by
  obtain ⟨_, hl, hg⟩ := World.cells?_some h
  have h0 := hg 0 hn
  rw [List.getElem?_eq_getElem (by omega)] at h0
  obtain ⟨hs, arr, ty, fr, hb, _⟩ := cell_of h0
  rw [add_block] at hb
  refine ⟨by simpa [Addr.add] using hs, arr, ty, fr, hb, ?_⟩
  apply List.ext_getElem?
  intro i
  by_cases hi : i < n
  · have h1 := hg i hi
    rw [List.getElem?_eq_getElem (show i < cs.length by omega)] at h1
    obtain ⟨_, arr', ty', fr', hb', h2⟩ := cell_of h1
    rw [add_block, hb] at hb'
    cases hb'
    rw [add_off] at h2
    rw [List.getElem?_take_of_lt hi, List.getElem?_drop, List.getElem?_eq_getElem (show i < cs.length by omega)]
    simpa using h2
  · rw [List.getElem?_eq_none (by simp; omega), List.getElem?_eq_none (by omega)]
/-- a type: what reads as data of it lies as one of these lists of abstract values -/
def Opens (P : Program) (w : World) (t : TypeId) (S : List AV → Prop) : Prop :=
  ∀ (H : Type) (enc : TypeId × Value → H) (base : Nat) (spare : Nat → Bool) (held : Bool) (fuel : Nat) (cs : List Value) (x : DataW H × List MemPlace), DataW.trod enc P w base spare held fuel t cs = some x → ∃ l, S l ∧ LRel (oldR w) [] l cs
section
variable {P : Program} {w : World}
theorem Opens.mono {t : TypeId} {S S' : List AV → Prop} (h : Opens P w t S) (hs : ∀ l, S l → S' l) : Opens P w t S' := fun H enc base spare held fuel cs x hx => by
  obtain ⟨l, h1, h2⟩ := h H enc base spare held fuel cs x hx
  exact ⟨l, hs l h1, h2⟩
theorem Opens.int {t : TypeId} {k : IntKind} (ht : P.underlying t = some (.int k)) : Opens P w t fun l => ∃ n, k.has n ∧ l = [.int k n] := fun H enc base spare held fuel cs x hx => by
  cases fuel with
  | zero => simp [DataW.trod] at hx
  | succ fuel =>
    unfold DataW.trod at hx
    simp only [ht] at hx
    split at hx
    all_goals first | (rename_i h1 _; cases h1; done) | skip
    all_goals simp_all
    rename_i k' n h1
    subst h1
    obtain ⟨⟨rfl, h2⟩, _⟩ := hx
    exact ⟨_, ⟨n, by simpa [Lit.wf, IntKind.has] using h2, rfl⟩, .cons .int .nil⟩
theorem Opens.bool {t : TypeId} (ht : P.underlying t = some .bool) : Opens P w t fun l => ∃ b, l = [.bool b] := fun H enc base spare held fuel cs x hx => by
  cases fuel with
  | zero => simp [DataW.trod] at hx
  | succ fuel =>
    unfold DataW.trod at hx
    simp only [ht] at hx
    split at hx
    all_goals simp_all
    rename_i b
    cases b
    · exact .inl (.cons .bool .nil)
    · exact .inr (.cons .bool .nil)
theorem Opens.struct {t : TypeId} {fs : Array Field} {Ss : List (List AV → Prop)} (ht : P.underlying t = some (.struct fs)) (hl : fs.size = Ss.length)
    (hS : ∀ (i : Nat) (f : Field) (S : List AV → Prop), fs[i]? = some f → Ss[i]? = some S → Opens P w f.type S)
    (hoff : ∀ (i : Nat) (f : Field), fs[i]? = some f → f.offset = ((fs.toList.take i).map fun g => P.cellsOf g.type).sum) (hsz : P.cellsOf t = (fs.toList.map fun g => P.cellsOf g.type).sum) :
    Opens P w t fun l => ∃ ls : List (List AV), ls.length = Ss.length ∧ (∀ (i : Nat) (S : List AV → Prop) (m : List AV), Ss[i]? = some S → ls[i]? = some m → S m) ∧ l = ls.flatten := fun H enc base spare held fuel cs x hx => by
  obtain ⟨xs, n, _, _, hlen, hxs, hf⟩ := DataW.trod_struct ht hx
  have key : ∀ k, k ≤ fs.size → ∃ ls : List (List AV), ls.length = k ∧ (∀ (i : Nat) (S : List AV → Prop) (m : List AV), Ss[i]? = some S → ls[i]? = some m → S m) ∧ LRel (oldR w) [] ls.flatten (cs.take (((fs.toList.take k).map fun g => P.cellsOf g.type).sum)) := by
    intro k
    induction k with
    | zero => intro _; exact ⟨[], rfl, fun i S m _ h => by simp at h, by simp; exact .nil⟩
    | succ k ih =>
      intro hk
      obtain ⟨ls, h1, h2, h3⟩ := ih (by omega)
      have hfk : fs[k]? = some fs[k] := by simp [show k < fs.size by omega]
      have hSk : Ss[k]? = some (Ss[k]'(by omega)) := by simp [show k < Ss.length by omega]
      have hx := hf k _ hfk
      rw [List.getElem?_eq_getElem (by omega)] at hx
      obtain ⟨m, h4, h5⟩ := hS k _ _ hfk hSk H enc base spare held n _ _ hx
      refine ⟨ls ++ [m], by simp [h1], fun i S m' hS' hm' => ?_, ?_⟩
      · by_cases hi : i < ls.length
        · rw [List.getElem?_append_left hi] at hm'
          exact h2 i S m' hS' hm'
        · have : i = k := by
            have := (List.getElem?_eq_some_iff.1 hm').1
            simp at this
            omega
          subst this
          rw [List.getElem?_append_right (by omega), h1] at hm'
          simp at hm'
          subst hm'
          rw [hSk] at hS'
          cases hS'
          exact h4
      · rw [List.flatten_append, List.flatten_singleton, List.take_succ_eq_append_getElem (show k < fs.toList.length by simp; omega), List.map_append, List.sum_append, List.take_add]
        rw [hoff k _ hfk] at h5
        have e : fs.toList[k] = fs[k] := by simp
        rw [e]
        simp only [List.map_cons, List.map_nil, List.sum_cons, List.sum_nil, Nat.add_zero]
        exact h3.app h5
  obtain ⟨ls, h1, h2, h3⟩ := key fs.size (Nat.le_refl _)
  refine ⟨ls.flatten, ⟨ls, by omega, h2, rfl⟩, ?_⟩
  rw [List.take_of_length_le (l := fs.toList) (by simp), ← hsz, ← hlen, List.take_length] at h3
  exact h3
def OpL (P : Program) (w : World) : List Field → List (List AV → Prop) → Prop
  | [], [] => True
  | f :: fs, S :: Ss => Opens P w f.type S ∧ OpL P w fs Ss
  | _, _ => False
def offB (P : Program) : List Field → Nat → Bool
  | [], _ => true
  | f :: fs, n => (f.offset == n) && offB P fs (n + P.cellsOf f.type)
theorem OpL.len : ∀ {fs : List Field} {Ss : List (List AV → Prop)}, OpL P w fs Ss → fs.length = Ss.length
  | [], [], _ => rfl
  | _ :: _, _ :: _, h => by simp [OpL.len h.2]
  | [], _ :: _, h => h.elim
  | _ :: _, [], h => h.elim
theorem OpL.get : ∀ {fs : List Field} {Ss : List (List AV → Prop)} (i : Nat) {f : Field} {S : List AV → Prop}, OpL P w fs Ss → fs[i]? = some f → Ss[i]? = some S → Opens P w f.type S
  | _ :: _, _ :: _, 0, _, _, h, e1, e2 => by simp at e1 e2; subst e1; subst e2; exact h.1
  | _ :: _, _ :: _, i + 1, _, _, h, e1, e2 => OpL.get i h.2 (by simpa using e1) (by simpa using e2)
  | [], [], _, _, _, _, e1, _ => by simp at e1
  | [], _ :: _, _, _, _, h, _, _ => h.elim
  | _ :: _, [], _, _, _, h, _, _ => h.elim
theorem offB_get : ∀ {fs : List Field} {n : Nat} (i : Nat) {f : Field}, offB P fs n = true → fs[i]? = some f → f.offset = n + ((fs.take i).map fun g => P.cellsOf g.type).sum
  | _ :: _, _, 0, _, h, e => by
    simp at e
    subst e
    simp only [offB, Bool.and_eq_true, beq_iff_eq] at h
    simpa using h.1
  | g :: fs, n, i + 1, _, h, e => by
    simp only [offB, Bool.and_eq_true, beq_iff_eq] at h
    have := offB_get i h.2 (by simpa using e)
    simp only [List.take_succ_cons, List.map_cons, List.sum_cons]
    omega
  | [], _, _, _, _, e => by simp at e
/-- a struct's fields lie one behind the other -/
theorem Opens.fields {t : TypeId} {fl : List Field} {Ss : List (List AV → Prop)} (ht : P.underlying t = some (.struct fl.toArray)) (hS : OpL P w fl Ss) (ho : offB P fl 0 = true) (hsz : P.cellsOf t = (fl.map fun g => P.cellsOf g.type).sum) :
    Opens P w t fun l => ∃ ls : List (List AV), ls.length = Ss.length ∧ (∀ (i : Nat) (S : List AV → Prop) (m : List AV), Ss[i]? = some S → ls[i]? = some m → S m) ∧ l = ls.flatten :=
  Opens.struct ht (by simpa using hS.len) (fun i f S h1 h2 => hS.get i (by simpa using h1) h2) (fun i f h => by simpa using offB_get i ho (by simpa using h)) hsz
/-- slices: of the kind of elements e, each as `ok` says -/
theorem Opens.slice {t te : TypeId} {e : Ety} {S : List AV → Prop} {ok : e.T → Prop} (ht : P.underlying t = some (.slice te)) (hsz : P.cellsOf te = e.sz) (he : Opens P w te S) (hok : ∀ l, S l → ∃ x : e.T, e.enc x = l ∧ ok x) :
    Opens P w t fun l => ∃ xs : List e.T, xs.length ≤ maxLen ∧ (∀ x ∈ xs, ok x) ∧ l = [.ro e xs] := fun H enc base spare held fuel cs x hx => by
  rcases DataW.trod_slice ht hx with ⟨rfl, _⟩ | ⟨a, len, cap, elems, rest, n, _, rfl, _, _, hlc, hcm, hel, hg, _⟩
  · exact ⟨[.ro e []], ⟨[], by simp, by simp, rfl⟩, .cons (.ro0 (Nat.zero_le _)) .nil⟩
  · by_cases h0 : len = 0
    · subst h0
      exact ⟨[.ro e []], ⟨[], by simp, by simp, rfl⟩, .cons (.ro0 hcm) .nil⟩
    · have hz := e.sz_pos
      have each : ∀ i, i < len → ∃ (m : e.T) (cs' : List Value), ok m ∧ LRel (oldR w) [] (e.enc m) cs' ∧ w.cells? base (a.add (i * e.sz)) e.sz = some cs' := by
        intro i hi
        have h1 := hg i hi
        rw [List.getElem?_eq_getElem (by omega), hsz] at h1
        obtain ⟨cs', h2, h3⟩ := Option.bind_eq_some_iff.1 h1
        obtain ⟨l, h4, h5⟩ := he H enc base spare held n _ _ h3
        obtain ⟨m, rfl, h6⟩ := hok l h4
        exact ⟨m, cs', h6, h5, h2⟩
      obtain ⟨_, _, _, _, hc0⟩ := each 0 (by omega)
      obtain ⟨hs, arr, ty, fr, hb, _⟩ := cells_of hc0 hz
      have hs0 : a.spot = none := by
        rw [Nat.zero_mul] at hs
        simpa [Addr.add] using hs
      rw [add_block] at hb
      have key : ∀ k, k ≤ len → ∃ xs : List e.T, xs.length = k ∧ (∀ x ∈ xs, ok x) ∧ LRel (oldR w) [] (xs.flatMap e.enc) ((arr.toList.drop a.off).take (k * e.sz)) := by
        intro k
        induction k with
        | zero => intro _; exact ⟨[], rfl, by simp, by simp; exact .nil⟩
        | succ k ih =>
          intro hk
          obtain ⟨xs, h1, h2, h3⟩ := ih (by omega)
          obtain ⟨m, cs', h4, h5, h6⟩ := each k (by omega)
          obtain ⟨_, arr', ty', fr', hb', h7⟩ := cells_of h6 hz
          rw [add_block, hb] at hb'
          cases hb'
          rw [add_off] at h7
          refine ⟨xs ++ [m], by simp [h1], fun x hx => ?_, ?_⟩
          · rcases List.mem_append.1 hx with hx | hx
            · exact h2 x hx
            · rw [List.mem_singleton] at hx
              subst hx
              exact h4
          · rw [List.flatMap_append, List.flatMap_singleton, Nat.succ_mul, List.take_add, List.drop_drop, h7]
            exact h3.app h5
      obtain ⟨xs, h1, h2, h3⟩ := key len (Nat.le_refl _)
      refine ⟨[.ro e xs], ⟨xs, by omega, h2, rfl⟩, .cons ?_ .nil⟩
      obtain ⟨ab, ao, sp⟩ := a
      simp only at hs0
      subst hs0
      rw [← h1]
      exact .ro hb (by rw [h1]; exact h3) (by omega) hcm
/-! ### Arguments -/
def OpensV (P : Program) (w : World) (t : TypeId) (S : AV → Prop) : Prop :=
  ∀ (H : Type) (enc : TypeId × Value → H) (r : Reach) (b0 : Nat) (v : Value) (d : DataW H) (p : List MemPlace), Value.okWide P w r b0 t v → DataW.Trod enc P w 0 (fun _ => true) true t v d p → ∃ a, S a ∧ Rel (oldR w) [] a v
theorem Opens.argS {t : TypeId} {fs : Array Field} {S : List AV → Prop} (ht : P.underlying t = some (.struct fs)) (h : Opens P w t S) : OpensV P w t fun a => ∃ l, S l ∧ a = .agg l := fun H enc r b0 v d p hv hd => by
  obtain ⟨fuel, hd⟩ := hd
  obtain ⟨l, h1, h2⟩ := h H enc _ _ _ fuel _ _ hd
  unfold Value.okWide at hv
  simp only [ht] at hv
  obtain ⟨cs, rfl, _, _⟩ := hv
  exact ⟨.agg l, ⟨l, h1, rfl⟩, by simpa [Value.cells] using Rel.agg h2⟩
theorem Opens.arg1 {t : TypeId} {S : List AV → Prop} (h : Opens P w t S) (ht : ∀ v r b0, Value.okWide P w r b0 t v → v.cells = #[v]) : OpensV P w t fun a => S [a] := fun H enc r b0 v d p hv hd => by
  obtain ⟨fuel, hd⟩ := hd
  obtain ⟨l, h1, h2⟩ := h H enc _ _ _ fuel _ _ hd
  rw [ht v r b0 hv] at h2
  cases h2 with
  | cons h3 h4 =>
    cases h4
    exact ⟨_, h1, h3⟩
theorem one_of {t : TypeId} {u : TypeDesc} (ht : P.underlying t = some u) (hu : (match u with | .bool | .int _ | .string | .slice _ => true | _ => false) = true) (v : Value) (r : Reach) (b0 : Nat) (hv : Value.okWide P w r b0 t v) : v.cells = #[v] := by
  unfold Value.okWide at hv
  cases u <;> simp at hu <;> simp only [ht] at hv <;> unfold Cell.okWide Cell.ok at hv <;> simp only [ht] at hv <;> cases v <;> first | rfl | (simp at hv; done)
end
/-- a call over nothing but what lies for good leaves what lay there as it is -/
theorem does_calls {P : Program} {g : FuncId} {xs : List AV} {S : AV → Prop} {vs : List Value} {w : World} (H : Does P g xs [] fun a _ => S a) (hr : LRel (oldR w) [] xs vs) : Calls P g vs.toArray w fun e w' => (∃ v a R μ, e = .returned v ∧ S a ∧ Rel R μ a v) ∧ Go.RowKit.Below w.heap.size w w' :=
  (H.run (oldR w) [] w vs hr (old_ok w)).mono fun e w' hx => by
    obtain ⟨v, R', μ', h', av, rfl, h1, h2, _, _, h3⟩ := hx
    exact ⟨⟨v, av, R', μ', rfl, h1, h2⟩, h3.os, h3.tape, h3.output, h3.size, fun k hk => h3.out k hk (by simp [ownH])⟩
theorem does_true {P : Program} {g : FuncId} {xs : List AV} {vs : List Value} {w : World} (H : Does P g xs [] fun a _ => a = .bool true) (hr : LRel (oldR w) [] xs vs) : Calls P g vs.toArray w fun e w' => e = .returned (.bool true) ∧ Go.RowKit.Below w.heap.size w w' :=
  (does_calls H hr).mono fun e w' hx => by
    obtain ⟨⟨v, a, R, μ, rfl, rfl, h2⟩, hb⟩ := hx
    cases h2
    exact ⟨rfl, hb⟩
end Go.V

set_option maxRecDepth 100000
namespace Go.V
open Go.Proofs
theorem byte_enc {n : Int} (h : IntKind.u8.has n) : Ety.enc .byte (UInt8.ofNat n.toNat) = [.int .u8 n] := by
  have h1 : 0 ≤ n ∧ n ≤ 255 := h
  have : ((UInt8.ofNat n.toNat).toNat : Int) = n := by simp; omega
  show [AV.int .u8 ((UInt8.ofNat n.toNat).toNat : Int)] = _
  rw [this]
def okS_Cfg (x : Cfg) : Prop := IntKind.i64.has x.wd ∧ IntKind.i64.has x.si ∧ IntKind.i64.has x.pa
theorem op_T3 (w : World) : Opens Try.prog w 3 fun l => ∃ n, IntKind.i64.has n ∧ l = [.int .i64 n] := Opens.int Try.underlying3
theorem op_T23 (w : World) : Opens Try.prog w 23 fun l => ∃ x : Cfg, okS_Cfg x ∧ l = [.int .i64 x.wd, .int .i64 x.si, .int .i64 x.pa] := by
  refine (Opens.fields Try.underlying23 (Ss := [_, _, _]) ⟨op_T3 w, op_T3 w, op_T3 w, trivial⟩ (by kernel_rfl) (by kernel_rfl)).mono ?_
  rintro l ⟨ls, h1, h2, rfl⟩
  obtain ⟨a0, a1, a2, rfl⟩ : ∃ a0 a1 a2, ls = [a0, a1, a2] := by
    match ls, h1 with
    | [a0, a1, a2], _ => exact ⟨a0, a1, a2, rfl⟩
  obtain ⟨x0, h10, rfl⟩ := h2 0 _ _ rfl rfl
  obtain ⟨x1, h11, rfl⟩ := h2 1 _ _ rfl rfl
  obtain ⟨x2, h12, rfl⟩ := h2 2 _ _ rfl rfl
  exact ⟨⟨x0, x1, x2⟩, ⟨h10, h11, h12⟩, rfl⟩
theorem arg_T23 (w : World) : OpensV Try.prog w 23 fun a => ∃ x : Cfg, okS_Cfg x ∧ a = .agg [.int .i64 x.wd, .int .i64 x.si, .int .i64 x.pa] := fun H enc r b0 v d p hv hd => by
  obtain ⟨a, ⟨l, ⟨c, hn, rfl⟩, rfl⟩, h⟩ := (op_T23 w).argS Try.underlying23 H enc r b0 v d p hv hd
  exact ⟨_, ⟨c, hn, rfl⟩, h⟩
theorem arg_T3 (w : World) : OpensV Try.prog w 3 fun a => ∃ n, IntKind.i64.has n ∧ a = .int .i64 n := fun H enc r b0 v d p hv hd => by
  obtain ⟨a, ⟨n, h1, e⟩, h⟩ := (op_T3 w).arg1 (one_of Try.underlying3 rfl) H enc r b0 v d p hv hd
  cases e
  exact ⟨_, ⟨n, h1, rfl⟩, h⟩
theorem op_T4 (w : World) : Opens Try.prog w 4 fun l => ∃ b, l = [.bool b] := Opens.bool Try.underlying4
theorem arg_T4 (w : World) : OpensV Try.prog w 4 fun a => ∃ b, a = .bool b := fun H enc r b0 v d p hv hd => by
  obtain ⟨a, ⟨n, e⟩, h⟩ := (op_T4 w).arg1 (one_of Try.underlying4 rfl) H enc r b0 v d p hv hd
  cases e
  exact ⟨_, ⟨n, rfl⟩, h⟩
def okS_Gca (x : Gca) : Prop := IntKind.i64.has x.unit ∧ True ∧ IntKind.i64.has x.ticks
theorem op_T37 (w : World) : Opens Try.prog w 37 fun l => ∃ x : Gca, okS_Gca x ∧ l = [.int .i64 x.unit, .bool x.vital, .int .i64 x.ticks] := by
  refine (Opens.fields Try.underlying37 (Ss := [_, _, _]) ⟨op_T3 w, op_T4 w, op_T3 w, trivial⟩ (by kernel_rfl) (by kernel_rfl)).mono ?_
  rintro l ⟨ls, h1, h2, rfl⟩
  obtain ⟨a0, a1, a2, rfl⟩ : ∃ a0 a1 a2, ls = [a0, a1, a2] := by
    match ls, h1 with
    | [a0, a1, a2], _ => exact ⟨a0, a1, a2, rfl⟩
  obtain ⟨x0, h10, rfl⟩ := h2 0 _ _ rfl rfl
  obtain ⟨x1, rfl⟩ := h2 1 _ _ rfl rfl
  obtain ⟨x2, h12, rfl⟩ := h2 2 _ _ rfl rfl
  exact ⟨⟨x0, x1, x2⟩, ⟨h10, trivial, h12⟩, rfl⟩
theorem arg_T37 (w : World) : OpensV Try.prog w 37 fun a => ∃ x : Gca, okS_Gca x ∧ a = .agg [.int .i64 x.unit, .bool x.vital, .int .i64 x.ticks] := fun H enc r b0 v d p hv hd => by
  obtain ⟨a, ⟨l, ⟨c, hn, rfl⟩, rfl⟩, h⟩ := (op_T37 w).argS Try.underlying37 H enc r b0 v d p hv hd
  exact ⟨_, ⟨c, hn, rfl⟩, h⟩
def okE_int (x : Ety.T .int) : Prop := IntKind.i64.has x
def okS_Gct (x : Gct) : Prop := IntKind.i64.has x.kind ∧ IntKind.i64.has x.now ∧ (x.l.length ≤ maxLen ∧ ∀ y ∈ x.l, okE_int y) ∧ (x.v.length ≤ maxLen ∧ ∀ y ∈ x.v, okE_int y)
theorem op_T38 (w : World) : Opens Try.prog w 38 fun l => ∃ xs : List (Ety.T .int), xs.length ≤ maxLen ∧ (∀ x ∈ xs, okE_int x) ∧ l = [.ro .int xs] :=
  Opens.slice (e := .int) (ok := okE_int) Try.underlying38 (by kernel_rfl) (op_T3 w) fun l ⟨n, h, e⟩ => ⟨n, e.symm, h⟩
theorem op_T48 (w : World) : Opens Try.prog w 48 fun l => ∃ x : Gct, okS_Gct x ∧ l = [.int .i64 x.kind, .int .i64 x.now, .ro .int x.l, .ro .int x.v] := by
  refine (Opens.fields Try.underlying48 (Ss := [_, _, _, _]) ⟨op_T3 w, op_T3 w, op_T38 w, op_T38 w, trivial⟩ (by kernel_rfl) (by kernel_rfl)).mono ?_
  rintro l ⟨ls, h1, h2, rfl⟩
  obtain ⟨a0, a1, a2, a3, rfl⟩ : ∃ a0 a1 a2 a3, ls = [a0, a1, a2, a3] := by
    match ls, h1 with
    | [a0, a1, a2, a3], _ => exact ⟨a0, a1, a2, a3, rfl⟩
  obtain ⟨x0, h10, rfl⟩ := h2 0 _ _ rfl rfl
  obtain ⟨x1, h11, rfl⟩ := h2 1 _ _ rfl rfl
  obtain ⟨x2, h12, g12, rfl⟩ := h2 2 _ _ rfl rfl
  obtain ⟨x3, h13, g13, rfl⟩ := h2 3 _ _ rfl rfl
  exact ⟨⟨x0, x1, x2, x3⟩, ⟨h10, h11, ⟨h12, g12⟩, ⟨h13, g13⟩⟩, rfl⟩
def okE_gct (x : Ety.T .gct) : Prop := okS_Gct x
theorem op_T42 (w : World) : Opens Try.prog w 42 fun l => ∃ xs : List (Ety.T .gct), xs.length ≤ maxLen ∧ (∀ x ∈ xs, okE_gct x) ∧ l = [.ro .gct xs] :=
  Opens.slice (e := .gct) (ok := okE_gct) Try.underlying42 (by kernel_rfl) (op_T48 w) fun l ⟨x, h, e⟩ => ⟨x, e.symm, h⟩
theorem arg_T42 (w : World) : OpensV Try.prog w 42 fun a => ∃ xs : List (Ety.T .gct), xs.length ≤ maxLen ∧ (∀ x ∈ xs, okE_gct x) ∧ a = .ro .gct xs := fun H enc r b0 v d p hv hd => by
  obtain ⟨a, ⟨n, h1, h2, e⟩, h⟩ := (op_T42 w).arg1 (one_of Try.underlying42 rfl) H enc r b0 v d p hv hd
  cases e
  exact ⟨_, ⟨n, h1, h2, rfl⟩, h⟩
/-- a law that was walked -/
theorem law_true {g : FuncId} {la : List AV} {vs : List Value} {w : World} (H : DoesK Try.prog 0 g la [] (EndF 0 (.bool true) [])) (hb : brL [] [] la la) (hr : LRel (oldR w) [] la vs) : Calls Try.prog g vs.toArray w fun e w' => e = .returned (.bool true) ∧ Go.RowKit.Below w.heap.size w w' :=
  does_true (frame_pure H hb (.inr rfl) (fun _ => rfl) rfl) hr
end Go.V
