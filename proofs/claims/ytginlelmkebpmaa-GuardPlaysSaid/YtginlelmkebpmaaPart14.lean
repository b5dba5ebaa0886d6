/-
  The guard with broken units: clones, Alive, Heard, Alarm, Broken.
-/
import Derived.Test.YtginlelmkebpmaaPart13
set_option linter.unusedVariables false
set_option linter.unusedSimpArgs false
set_option maxRecDepth 100000
set_option maxHeartbeats 8000000
namespace Go.V
open Go.Proofs
structure Gs where
  W : Int
  S : Int
  P : Int
  now : Int
  A : Int
  H : Int
  don : Bool
  rt : Int
  kv : List (Int × Sw)
  br : List Int
  vi : List Int
  al : Bool
/-- the guard as it lies -/
def GU (g : Gs) : List Ch := [.cells [.bool true, .int .i64 g.W, .int .i64 g.S, .int .i64 g.P, .int .i64 g.now, .int .i64 g.A, .int .i64 g.H, .bool g.don, .int .i64 g.rt, .mp 1, .sl 2 .int 0 g.br.length, .sl 3 .int 0 g.vi.length, .bool g.al], .map .int .sw g.kv, .rows .int g.br, .rows .int g.vi]
attribute [go_sem] GU
theorem b_cloneZ (xs : List Int) (hl : xs.length ≤ 1099511627776) : DoesK Try.prog 0 26 [.ro .int xs] [] (EndF 0 (.sl 0 .int 0 xs.length) [.rows .int xs]) := by
  refine DoesK.close ?_
  refine w_body (rs := [.tmp 2]) (tm := [.ro .int xs, .any, .any, .any, .any, .any, .any, .any]) fn_26 rfl rfl rfl rfl fun R hR => ?_
  (all_goals (try ((first | (with_reducible refine wp_id ?_) | (with_reducible refine does_id ?_) | (with_reducible refine ops_id ?_)); refine walk ?_; (repeat' (first | exact trivial | with_reducible refine And.intro ?_ ?_)); all_goals (repeat (first | (with_reducible refine ImpB.mk fun hb => ?_) | (with_reducible refine ImpK.mk fun hK => ?_) | (with_reducible refine ImpF.mk fun hF => ?_) | (with_reducible refine ImpQ.mk fun hp => ?_) | (with_reducible refine AllE.mk fun p => ?_) | (with_reducible refine AllR.mk fun rest => ?_) | (with_reducible refine AllK.mk fun K => ?_))))); repeat' (with_reducible refine And.intro ?_ ?_))
  (all_goals first | exact Int.natCast_nonneg _ | exact Int.ofNat_lt.2 (by assumption) | assumption | omega | exact Nat.le_refl _ | (exfalso; simp at hb; done) | (simp only [go_sem, decide_true, decide_false, Int.reduceToNat, Nat.min_eq_left, Nat.min_eq_right, Int.reducePow, Nat.reducePow, Int.reduceLE, Int.reduceLT, Int.reduceMul, Int.reduceAdd, Int.reduceSub, Int.reduceNeg, Bool.not_true, Bool.not_false, Bool.not_not, ↓reduceIte, Nat.reduceAdd, Nat.reduceSub, Nat.reduceMul, Nat.reduceEqDiff, reduceCtorEq, Nat.reduceLT, Nat.reduceLeDiff, Nat.reduceGT]; done) | (unfold capM; omega) | (simp only [List.length_drop, List.length_take, List.length_append, List.length_cons, List.length_nil]; omega) | skip)
  · exact ⟨_, rfl⟩
  · subst hb
    refine ⟨_, _, gh_adopt (s := 0) .int trivial, [0], rfl, ?ft⟩
    case' ft => (refine ⟨?_, ?_, ?_⟩ <;> simp only [go_sem, List.range, List.range.loop, List.nodup_cons, List.nodup_nil, List.mem_cons, List.not_mem_nil, or_false, or_self, decide_true, decide_false, Int.reduceToNat, Nat.min_eq_left, Nat.min_eq_right, Int.reducePow, Nat.reducePow, Int.reduceLE, Int.reduceLT, Int.reduceMul, Int.reduceAdd, Int.reduceSub, Int.reduceNeg, Bool.not_true, Bool.not_false, Bool.not_not, ↓reduceIte, Nat.reduceAdd, Nat.reduceSub, Nat.reduceMul, Nat.reduceEqDiff, reduceCtorEq, Nat.reduceLT, Nat.reduceLeDiff, Nat.reduceGT])
    all_goals rfl
  · (focus (refine ⟨_, _, Gh.refl, [1], rfl, ?_⟩; (refine ⟨?_, ?_, ?_⟩ <;> simp only [go_sem, List.range, List.range.loop, List.nodup_cons, List.nodup_nil, List.mem_cons, List.not_mem_nil, or_false, or_self, decide_true, decide_false, Int.reduceToNat, Nat.min_eq_left, Nat.min_eq_right, Int.reducePow, Nat.reducePow, Int.reduceLE, Int.reduceLT, Int.reduceMul, Int.reduceAdd, Int.reduceSub, Int.reduceNeg, Bool.not_true, Bool.not_false, Bool.not_not, ↓reduceIte, Nat.reduceAdd, Nat.reduceSub, Nat.reduceMul, Nat.reduceEqDiff, reduceCtorEq, Nat.reduceLT, Nat.reduceLeDiff, Nat.reduceGT]); (try any_goals (refine ⟨?_, ?_⟩)); (try any_goals (with_reducible rfl))))
theorem c_cloneZ {h : List Ch} {K : KT} {xs : List Int} {a : AV} (H : K (.sl h.length .int 0 xs.length) (h ++ [.rows .int xs])) (q1 : isRO .int xs a) (s1 : xs.length ≤ 1099511627776) : Does Try.prog 26 [a] h K :=
  frame_new (b_cloneZ xs s1) (br_cons q1.br br_nil) (.inl (by rw [brTL, q1.brT]; rfl)) (fun _ => rfl) (by simp [renA, rhoC]) H
abbrev i_cloneZ := Ctr.mk (i := 0) (g := 26) @c_cloneZ
attribute [instance] i_cloneZ
theorem b_cloneY (l : List Int) (hl : l.length ≤ 1099511627776) : DoesK Try.prog 1 26 [.sl 0 .int 0 l.length] [.rows .int l] (EndF 1 (.sl 1 .int 0 l.length) ([.rows .int l] ++ [.rows .int l])) := by
  refine DoesK.close ?_
  refine w_body (rs := [.tmp 2]) (tm := [.sl 0 .int 0 l.length, .any, .any, .any, .any, .any, .any, .any]) fn_26 rfl rfl rfl rfl fun R hR => ?_
  (all_goals (try ((first | (with_reducible refine wp_id ?_) | (with_reducible refine does_id ?_) | (with_reducible refine ops_id ?_)); refine walk ?_; (repeat' (first | exact trivial | with_reducible refine And.intro ?_ ?_)); all_goals (repeat (first | (with_reducible refine ImpB.mk fun hb => ?_) | (with_reducible refine ImpK.mk fun hK => ?_) | (with_reducible refine ImpF.mk fun hF => ?_) | (with_reducible refine ImpQ.mk fun hp => ?_) | (with_reducible refine AllE.mk fun p => ?_) | (with_reducible refine AllR.mk fun rest => ?_) | (with_reducible refine AllK.mk fun K => ?_))))); repeat' (with_reducible refine And.intro ?_ ?_))
  (all_goals first | exact Int.natCast_nonneg _ | exact Int.ofNat_lt.2 (by assumption) | assumption | omega | exact Nat.le_refl _ | (exfalso; simp at hb; done) | (simp only [go_sem, decide_true, decide_false, Int.reduceToNat, Nat.min_eq_left, Nat.min_eq_right, Int.reducePow, Nat.reducePow, Int.reduceLE, Int.reduceLT, Int.reduceMul, Int.reduceAdd, Int.reduceSub, Int.reduceNeg, Bool.not_true, Bool.not_false, Bool.not_not, ↓reduceIte, Nat.reduceAdd, Nat.reduceSub, Nat.reduceMul, Nat.reduceEqDiff, reduceCtorEq, Nat.reduceLT, Nat.reduceLeDiff, Nat.reduceGT]; done) | (unfold capM; omega) | (simp only [List.length_drop, List.length_take, List.length_append, List.length_cons, List.length_nil]; omega) | skip)
  · exact ⟨_, rfl⟩
  · have h0 : l = [] := List.eq_nil_of_length_eq_zero hb
    subst h0
    refine ⟨_, _, gh_adopt (s := 0) .int trivial, [0, 1], rfl, ?ft⟩
    case' ft => (refine ⟨?_, ?_, ?_⟩ <;> simp only [go_sem, List.range, List.range.loop, List.nodup_cons, List.nodup_nil, List.mem_cons, List.not_mem_nil, or_false, or_self, decide_true, decide_false, Int.reduceToNat, Nat.min_eq_left, Nat.min_eq_right, Int.reducePow, Nat.reducePow, Int.reduceLE, Int.reduceLT, Int.reduceMul, Int.reduceAdd, Int.reduceSub, Int.reduceNeg, Bool.not_true, Bool.not_false, Bool.not_not, ↓reduceIte, Nat.reduceAdd, Nat.reduceSub, Nat.reduceMul, Nat.reduceEqDiff, reduceCtorEq, Nat.reduceLT, Nat.reduceLeDiff, Nat.reduceGT])
    all_goals rfl
  · (focus (refine ⟨_, _, Gh.refl, [0, 2], rfl, ?_⟩; (refine ⟨?_, ?_, ?_⟩ <;> simp only [go_sem, List.range, List.range.loop, List.nodup_cons, List.nodup_nil, List.mem_cons, List.not_mem_nil, or_false, or_self, decide_true, decide_false, Int.reduceToNat, Nat.min_eq_left, Nat.min_eq_right, Int.reducePow, Nat.reducePow, Int.reduceLE, Int.reduceLT, Int.reduceMul, Int.reduceAdd, Int.reduceSub, Int.reduceNeg, Bool.not_true, Bool.not_false, Bool.not_not, ↓reduceIte, Nat.reduceAdd, Nat.reduceSub, Nat.reduceMul, Nat.reduceEqDiff, reduceCtorEq, Nat.reduceLT, Nat.reduceLeDiff, Nat.reduceGT]); (try any_goals (refine ⟨?_, ?_⟩)); (try any_goals (with_reducible rfl))))
theorem c_cloneY {h : List Ch} {K : KT} {l : List Int} {t n : Nat} (H : K (.sl h.length .int 0 l.length) (h ++ [.rows .int l])) (o : hth h t = .rows .int l) (s1 : n = l.length) (s2 : l.length ≤ 1099511627776) : Does Try.prog 26 [.sl t .int 0 n] h K := by
  subst s1
  exact frame_obj (b_cloneY l s2) o (by simp) (fitC_rows _ _) (br_cons (br_own rfl) br_nil) (.inl rfl) (fun _ => rfl) (fun _ => rfl) rfl (by rw [set_hth o (by simp)]; exact H)
abbrev i_cloneY := Ctr.mk (i := 1) (g := 26) @c_cloneY
attribute [instance] i_cloneY
def atG (g : Gs) (n : Int) : Gs := { g with now := atT g.now n }
theorem b_gclockU (g : Gs) (n : Int) : DoesK Try.prog 1 20 [.ptr 0 0, .int .i64 n] [.pack (GU g)] (EndF 1 (.bool true) ([.pack (GU (atG g n))] ++ [])) := by
  refine DoesK.close ?_
  obtain ⟨W, S, P, now, A, H0, don, rt, kv, br, vi, al⟩ := g
  unfold atG
  dsimp only
  by_cases c : n ≤ 1099511627776
  · have d : decide (n ≤ 1099511627776) = true := decide_eq_true c
    have e : atT now n = max now n := if_pos c
    rw [e]
    refine w_body (rs := [.tmp 4]) (tm := [.ptr 0 0, .int .i64 n, .any, .any, .any, .any, .any, .any, .any, .any, .any, .any, .any, .any, .any, .any, .any, .any, .any, .any, .any, .any, .any, .any, .any]) fn_20 rfl rfl rfl rfl fun R hR => ?_
    (have zx1 := @d; all_goals (try ((first | (with_reducible refine wp_id ?_) | (with_reducible refine does_id ?_) | (with_reducible refine ops_id ?_)); refine walk ?_; (repeat' (first | exact trivial | with_reducible refine And.intro ?_ ?_)); all_goals (repeat (first | (with_reducible refine ImpB.mk fun hb => ?_) | (with_reducible refine ImpK.mk fun hK => ?_) | (with_reducible refine ImpF.mk fun hF => ?_) | (with_reducible refine ImpQ.mk fun hp => ?_) | (with_reducible refine AllE.mk fun p => ?_) | (with_reducible refine AllR.mk fun rest => ?_) | (with_reducible refine AllK.mk fun K => ?_))))); repeat' (with_reducible refine And.intro ?_ ?_))
    (focus (refine ⟨_, _, gh_close (t := 0) (ts := [1, 2, 3]) (l := GU ⟨W, S, P, max now n, A, H0, don, rt, kv, br, vi, al⟩) ⟨⟨_, _, rfl⟩, ?_, by simp⟩, [0], rfl, ?_⟩; all_goals (refine ⟨?_, ?_, ?_⟩ <;> simp only [go_sem, List.range, List.range.loop, List.nodup_cons, List.nodup_nil, List.mem_cons, List.not_mem_nil, or_false, or_self, decide_true, decide_false, Int.reduceToNat, Nat.min_eq_left, Nat.min_eq_right, Int.reducePow, Nat.reducePow, Int.reduceLE, Int.reduceLT, Int.reduceMul, Int.reduceAdd, Int.reduceSub, Int.reduceNeg, Bool.not_true, Bool.not_false, Bool.not_not, ↓reduceIte, Nat.reduceAdd, Nat.reduceSub, Nat.reduceMul, Nat.reduceEqDiff, reduceCtorEq, Nat.reduceLT, Nat.reduceLeDiff, Nat.reduceGT]); (try any_goals (refine ⟨?_, ?_⟩)); (try any_goals (with_reducible rfl))))
    all_goals (repeat' (first | (refine And.intro ?_ ?_) | exact List.Perm.refl _ | rfl))
  · have d : decide (n ≤ 1099511627776) = false := decide_eq_false c
    have e : atT now n = now := if_neg c
    rw [e]
    refine w_body (rs := [.tmp 4]) (tm := [.ptr 0 0, .int .i64 n, .any, .any, .any, .any, .any, .any, .any, .any, .any, .any, .any, .any, .any, .any, .any, .any, .any, .any, .any, .any, .any, .any, .any]) fn_20 rfl rfl rfl rfl fun R hR => ?_
    (have zx1 := @d; all_goals (try ((first | (with_reducible refine wp_id ?_) | (with_reducible refine does_id ?_) | (with_reducible refine ops_id ?_)); refine walk ?_; (repeat' (first | exact trivial | with_reducible refine And.intro ?_ ?_)); all_goals (repeat (first | (with_reducible refine ImpB.mk fun hb => ?_) | (with_reducible refine ImpK.mk fun hK => ?_) | (with_reducible refine ImpF.mk fun hF => ?_) | (with_reducible refine ImpQ.mk fun hp => ?_) | (with_reducible refine AllE.mk fun p => ?_) | (with_reducible refine AllR.mk fun rest => ?_) | (with_reducible refine AllK.mk fun K => ?_))))); repeat' (with_reducible refine And.intro ?_ ?_))
    (focus (refine ⟨_, _, gh_close (t := 0) (ts := [1, 2, 3]) (l := GU ⟨W, S, P, now, A, H0, don, rt, kv, br, vi, al⟩) ⟨⟨_, _, rfl⟩, ?_, by simp⟩, [0], rfl, ?_⟩; all_goals (refine ⟨?_, ?_, ?_⟩ <;> simp only [go_sem, List.range, List.range.loop, List.nodup_cons, List.nodup_nil, List.mem_cons, List.not_mem_nil, or_false, or_self, decide_true, decide_false, Int.reduceToNat, Nat.min_eq_left, Nat.min_eq_right, Int.reducePow, Nat.reducePow, Int.reduceLE, Int.reduceLT, Int.reduceMul, Int.reduceAdd, Int.reduceSub, Int.reduceNeg, Bool.not_true, Bool.not_false, Bool.not_not, ↓reduceIte, Nat.reduceAdd, Nat.reduceSub, Nat.reduceMul, Nat.reduceEqDiff, reduceCtorEq, Nat.reduceLT, Nat.reduceLeDiff, Nat.reduceGT]); (try any_goals (refine ⟨?_, ?_⟩)); (try any_goals (with_reducible rfl))))
    all_goals (repeat' (first | (refine And.intro ?_ ?_) | exact List.Perm.refl _ | rfl))
theorem c_gclockU {h : List Ch} {K : KT} {u : Nat} {g : Gs} {n : Int} (H : K (.bool true) (h.set u (.pack (GU (atG g n))))) (o : hth h u = .pack (GU g)) : Does Try.prog 20 [.ptr u 0, .int .i64 n] h K :=
  frame_obj0 (b_gclockU g n) o (by simp) (fitC_pack _) (br_cons (br_ptr rfl) (br_cons br_int br_nil)) (.inl rfl) (fun _ => rfl) rfl H
abbrev i_gclockU := Ctr.mk (i := 2) (g := 20) @c_gclockU
attribute [instance] i_gclockU
theorem c_gclockUs {h : List Ch} {K : KT} {u : Nat} {W S P now A H0 rt n : Int} {don al : Bool} {kv : List (Int × Sw)} {br vi : List Int} (H : K (.bool true) (h.set u (.pack (GU ⟨W, S, P, atT now n, A, H0, don, rt, kv, br, vi, al⟩)))) (o : hth h u = .pack [.cells [.bool true, .int .i64 W, .int .i64 S, .int .i64 P, .int .i64 now, .int .i64 A, .int .i64 H0, .bool don, .int .i64 rt, .mp 1, .sl 2 .int 0 br.length, .sl 3 .int 0 vi.length, .bool al], .map .int .sw kv, .rows .int br, .rows .int vi]) : Does Try.prog 20 [.ptr u 0, .int .i64 n] h K :=
  frame_obj0 (b_gclockU ⟨W, S, P, now, A, H0, don, rt, kv, br, vi, al⟩ n) o (by simp) (fitC_pack _) (br_cons (br_ptr rfl) (br_cons br_int br_nil)) (.inl rfl) (fun _ => rfl) rfl H
abbrev i_gclockUs := Ctr.mk (i := 3) (g := 20) @c_gclockUs
attribute [instance] i_gclockUs
def aliveG (g : Gs) (n : Int) : Gs := { g with now := atT g.now n, A := atT g.now n }
def heardG (g : Gs) (n : Int) : Gs := { g with now := atT g.now n, H := atT g.now n }
def alarmG (g : Gs) (n : Int) : Gs := { g with now := atT g.now n, al := true }
def brokenG (g : Gs) (n : Int) (l v : List Int) : Gs := { g with now := atT g.now n, br := l, vi := v }
theorem b_galiveU (g : Gs) (n : Int) : DoesK Try.prog 1 10 [.ptr 0 0, .int .i64 n] [.pack (GU g)] (EndF 1 (.tup []) ([.pack (GU (aliveG g n))] ++ [])) := by
  refine DoesK.close ?_
  refine w_body (rs := []) (tm := [.ptr 0 0, .int .i64 n, .any, .any, .any, .any, .any, .any, .any, .any, .any, .any, .any, .any]) fn_10 rfl rfl rfl rfl fun R hR => ?_
  (all_goals (try ((first | (with_reducible refine wp_id ?_) | (with_reducible refine does_id ?_) | (with_reducible refine ops_id ?_)); refine walk ?_; (repeat' (first | exact trivial | with_reducible refine And.intro ?_ ?_)); all_goals (repeat (first | (with_reducible refine ImpB.mk fun hb => ?_) | (with_reducible refine ImpK.mk fun hK => ?_) | (with_reducible refine ImpF.mk fun hF => ?_) | (with_reducible refine ImpQ.mk fun hp => ?_) | (with_reducible refine AllE.mk fun p => ?_) | (with_reducible refine AllR.mk fun rest => ?_) | (with_reducible refine AllK.mk fun K => ?_))))); repeat' (with_reducible refine And.intro ?_ ?_))
  (focus (refine ⟨_, _, gh_close (t := 0) (ts := [1, 2, 3]) (l := GU (aliveG g n)) ⟨⟨_, _, rfl⟩, ?_, by simp⟩, [0], rfl, ?_⟩; all_goals (refine ⟨?_, ?_, ?_⟩ <;> simp only [go_sem, List.range, List.range.loop, List.nodup_cons, List.nodup_nil, List.mem_cons, List.not_mem_nil, or_false, or_self, decide_true, decide_false, Int.reduceToNat, Nat.min_eq_left, Nat.min_eq_right, Int.reducePow, Nat.reducePow, Int.reduceLE, Int.reduceLT, Int.reduceMul, Int.reduceAdd, Int.reduceSub, Int.reduceNeg, Bool.not_true, Bool.not_false, Bool.not_not, ↓reduceIte, Nat.reduceAdd, Nat.reduceSub, Nat.reduceMul, Nat.reduceEqDiff, reduceCtorEq, Nat.reduceLT, Nat.reduceLeDiff, Nat.reduceGT]); (try any_goals (refine ⟨?_, ?_⟩)); (try any_goals (with_reducible rfl))))
  all_goals (repeat' (first | (refine And.intro ?_ ?_) | exact List.Perm.refl _ | rfl))
theorem b_gheardU (g : Gs) (n : Int) : DoesK Try.prog 1 11 [.ptr 0 0, .int .i64 n] [.pack (GU g)] (EndF 1 (.tup []) ([.pack (GU (heardG g n))] ++ [])) := by
  refine DoesK.close ?_
  refine w_body (rs := []) (tm := [.ptr 0 0, .int .i64 n, .any, .any, .any, .any, .any, .any, .any, .any, .any, .any, .any, .any]) fn_11 rfl rfl rfl rfl fun R hR => ?_
  (all_goals (try ((first | (with_reducible refine wp_id ?_) | (with_reducible refine does_id ?_) | (with_reducible refine ops_id ?_)); refine walk ?_; (repeat' (first | exact trivial | with_reducible refine And.intro ?_ ?_)); all_goals (repeat (first | (with_reducible refine ImpB.mk fun hb => ?_) | (with_reducible refine ImpK.mk fun hK => ?_) | (with_reducible refine ImpF.mk fun hF => ?_) | (with_reducible refine ImpQ.mk fun hp => ?_) | (with_reducible refine AllE.mk fun p => ?_) | (with_reducible refine AllR.mk fun rest => ?_) | (with_reducible refine AllK.mk fun K => ?_))))); repeat' (with_reducible refine And.intro ?_ ?_))
  (focus (refine ⟨_, _, gh_close (t := 0) (ts := [1, 2, 3]) (l := GU (heardG g n)) ⟨⟨_, _, rfl⟩, ?_, by simp⟩, [0], rfl, ?_⟩; all_goals (refine ⟨?_, ?_, ?_⟩ <;> simp only [go_sem, List.range, List.range.loop, List.nodup_cons, List.nodup_nil, List.mem_cons, List.not_mem_nil, or_false, or_self, decide_true, decide_false, Int.reduceToNat, Nat.min_eq_left, Nat.min_eq_right, Int.reducePow, Nat.reducePow, Int.reduceLE, Int.reduceLT, Int.reduceMul, Int.reduceAdd, Int.reduceSub, Int.reduceNeg, Bool.not_true, Bool.not_false, Bool.not_not, ↓reduceIte, Nat.reduceAdd, Nat.reduceSub, Nat.reduceMul, Nat.reduceEqDiff, reduceCtorEq, Nat.reduceLT, Nat.reduceLeDiff, Nat.reduceGT]); (try any_goals (refine ⟨?_, ?_⟩)); (try any_goals (with_reducible rfl))))
  all_goals (repeat' (first | (refine And.intro ?_ ?_) | exact List.Perm.refl _ | rfl))
theorem b_galarmU (g : Gs) (n : Int) : DoesK Try.prog 1 17 [.ptr 0 0, .int .i64 n] [.pack (GU g)] (EndF 1 (.tup []) ([.pack (GU (alarmG g n))] ++ [])) := by
  refine DoesK.close ?_
  refine w_body (rs := []) (tm := [.ptr 0 0, .int .i64 n, .any, .any, .any, .any, .any, .any, .any, .any]) fn_17 rfl rfl rfl rfl fun R hR => ?_
  (all_goals (try ((first | (with_reducible refine wp_id ?_) | (with_reducible refine does_id ?_) | (with_reducible refine ops_id ?_)); refine walk ?_; (repeat' (first | exact trivial | with_reducible refine And.intro ?_ ?_)); all_goals (repeat (first | (with_reducible refine ImpB.mk fun hb => ?_) | (with_reducible refine ImpK.mk fun hK => ?_) | (with_reducible refine ImpF.mk fun hF => ?_) | (with_reducible refine ImpQ.mk fun hp => ?_) | (with_reducible refine AllE.mk fun p => ?_) | (with_reducible refine AllR.mk fun rest => ?_) | (with_reducible refine AllK.mk fun K => ?_))))); repeat' (with_reducible refine And.intro ?_ ?_))
  (focus (refine ⟨_, _, gh_close (t := 0) (ts := [1, 2, 3]) (l := GU (alarmG g n)) ⟨⟨_, _, rfl⟩, ?_, by simp⟩, [0], rfl, ?_⟩; all_goals (refine ⟨?_, ?_, ?_⟩ <;> simp only [go_sem, List.range, List.range.loop, List.nodup_cons, List.nodup_nil, List.mem_cons, List.not_mem_nil, or_false, or_self, decide_true, decide_false, Int.reduceToNat, Nat.min_eq_left, Nat.min_eq_right, Int.reducePow, Nat.reducePow, Int.reduceLE, Int.reduceLT, Int.reduceMul, Int.reduceAdd, Int.reduceSub, Int.reduceNeg, Bool.not_true, Bool.not_false, Bool.not_not, ↓reduceIte, Nat.reduceAdd, Nat.reduceSub, Nat.reduceMul, Nat.reduceEqDiff, reduceCtorEq, Nat.reduceLT, Nat.reduceLeDiff, Nat.reduceGT]); (try any_goals (refine ⟨?_, ?_⟩)); (try any_goals (with_reducible rfl))))
  all_goals (repeat' (first | (refine And.intro ?_ ?_) | exact List.Perm.refl _ | rfl))
theorem b_gbrokenU (g : Gs) (n : Int) (l v : List Int) (hl : l.length ≤ 1099511627776) (hv : v.length ≤ 1099511627776) : DoesK Try.prog 1 13 [.ptr 0 0, .int .i64 n, .ro .int l, .ro .int v] [.pack (GU g)] (EndF 1 (.tup []) ([.pack (GU (brokenG g n l v))] ++ [])) := by
  refine DoesK.close ?_
  refine w_body (rs := []) (tm := [.ptr 0 0, .int .i64 n, .ro .int l, .ro .int v, .any, .any, .any, .any, .any, .any, .any, .any, .any, .any, .any, .any, .any, .any, .any, .any, .any]) fn_13 rfl rfl rfl rfl fun R hR => ?_
  (all_goals (try ((first | (with_reducible refine wp_id ?_) | (with_reducible refine does_id ?_) | (with_reducible refine ops_id ?_)); refine walk ?_; (repeat' (first | exact trivial | with_reducible refine And.intro ?_ ?_)); all_goals (repeat (first | (with_reducible refine ImpB.mk fun hb => ?_) | (with_reducible refine ImpK.mk fun hK => ?_) | (with_reducible refine ImpF.mk fun hF => ?_) | (with_reducible refine ImpQ.mk fun hp => ?_) | (with_reducible refine AllE.mk fun p => ?_) | (with_reducible refine AllR.mk fun rest => ?_) | (with_reducible refine AllK.mk fun K => ?_))))); repeat' (with_reducible refine And.intro ?_ ?_))
  (focus (refine ⟨_, _, gh_close (t := 0) (ts := [3, 1, 2]) (l := GU (brokenG g n l v)) ⟨⟨_, _, rfl⟩, ?_, by simp⟩, [0], rfl, ?_⟩; all_goals (refine ⟨?_, ?_, ?_⟩ <;> simp only [go_sem, List.range, List.range.loop, List.nodup_cons, List.nodup_nil, List.mem_cons, List.not_mem_nil, or_false, or_self, decide_true, decide_false, Int.reduceToNat, Nat.min_eq_left, Nat.min_eq_right, Int.reducePow, Nat.reducePow, Int.reduceLE, Int.reduceLT, Int.reduceMul, Int.reduceAdd, Int.reduceSub, Int.reduceNeg, Bool.not_true, Bool.not_false, Bool.not_not, ↓reduceIte, Nat.reduceAdd, Nat.reduceSub, Nat.reduceMul, Nat.reduceEqDiff, reduceCtorEq, Nat.reduceLT, Nat.reduceLeDiff, Nat.reduceGT]); (try any_goals (refine ⟨?_, ?_⟩)); (try any_goals (with_reducible rfl))))
  all_goals (repeat' (first | (refine And.intro ?_ ?_) | exact List.Perm.refl _ | rfl))
theorem c_galiveU {h : List Ch} {K : KT} {u : Nat} {g : Gs} {n : Int} (H : K (.tup []) (h.set u (.pack (GU (aliveG g n))))) (o : hth h u = .pack (GU g)) : Does Try.prog 10 [.ptr u 0, .int .i64 n] h K :=
  frame_obj0 (b_galiveU g n) o (by simp) (fitC_pack _) (br_cons (br_ptr rfl) (br_cons br_int br_nil)) (.inl rfl) (fun _ => rfl) rfl H
abbrev i_galiveU := Ctr.mk (i := 1) (g := 10) @c_galiveU
attribute [instance] i_galiveU
theorem c_gheardU {h : List Ch} {K : KT} {u : Nat} {g : Gs} {n : Int} (H : K (.tup []) (h.set u (.pack (GU (heardG g n))))) (o : hth h u = .pack (GU g)) : Does Try.prog 11 [.ptr u 0, .int .i64 n] h K :=
  frame_obj0 (b_gheardU g n) o (by simp) (fitC_pack _) (br_cons (br_ptr rfl) (br_cons br_int br_nil)) (.inl rfl) (fun _ => rfl) rfl H
abbrev i_gheardU := Ctr.mk (i := 1) (g := 11) @c_gheardU
attribute [instance] i_gheardU
theorem c_galarmU {h : List Ch} {K : KT} {u : Nat} {g : Gs} {n : Int} (H : K (.tup []) (h.set u (.pack (GU (alarmG g n))))) (o : hth h u = .pack (GU g)) : Does Try.prog 17 [.ptr u 0, .int .i64 n] h K :=
  frame_obj0 (b_galarmU g n) o (by simp) (fitC_pack _) (br_cons (br_ptr rfl) (br_cons br_int br_nil)) (.inl rfl) (fun _ => rfl) rfl H
abbrev i_galarmU := Ctr.mk (i := 0) (g := 17) @c_galarmU
attribute [instance] i_galarmU
theorem c_gbrokenU {h : List Ch} {K : KT} {u : Nat} {g : Gs} {n : Int} {l v : List Int} {x y : AV} (H : K (.tup []) (h.set u (.pack (GU (brokenG g n l v))))) (o : hth h u = .pack (GU g)) (b1 : brA [u] h (.ro .int l) x) (b2 : brA [u] h (.ro .int v) y) (s1 : l.length ≤ 1099511627776) (s2 : v.length ≤ 1099511627776) : Does Try.prog 13 [.ptr u 0, .int .i64 n, x, y] h K :=
  frame_obj0 (b_gbrokenU g n l v s1 s2) o (by simp) (fitC_pack _) (br_cons (br_ptr rfl) (br_cons br_int (br_cons b1 (br_cons b2 br_nil)))) (.inr rfl) (fun _ => rfl) rfl H
abbrev i_gbrokenU := Ctr.mk (i := 0) (g := 13) @c_gbrokenU
attribute [instance] i_gbrokenU
end Go.V
