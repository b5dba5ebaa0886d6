/-
  The guard: the contract of Tick; what stays true of a guard.
  The guard: Clone.
  The guard with one broken unit. Plain laws.
  The guard's specification: Tick.
-/
import Derived.Test.YtginlelmkebpmaaPart16
set_option linter.unusedVariables false
set_option linter.unusedSimpArgs false
set_option maxRecDepth 100000
set_option maxHeartbeats 8000000
namespace Go.V
open Go.Proofs
theorem b_tickU (g : Gs) (n : Int) (ok : OkG g) : DoesK Try.prog 1 12 [.ptr 0 0, .int .i64 n] [.pack (GU g)] (EndF 1 (.sl 1 .rcy 0 (tickO g n).length) ([.pack (GU (tickG g n))] ++ [.rows .rcy (tickO g n)])) := by
  obtain ⟨W, S, P, now, A, H0, don, rt, kv, br, vi, al⟩ := g
  by_cases c1 : W ≤ atT now n - A
  · by_cases c2 : S ≤ atT now n - H0
    · cases c3 : (!don || decide (P ≤ atT now n - rt))
      · exact b_tickU5 W S P now A H0 don rt kv br vi al n ok c1 c2 c3
      · exact b_tickU6 W S P now A H0 don rt kv br vi al n ok c1 c2 c3
    · exact b_tickU4 W S P now A H0 don rt kv br vi al n ok c1 c2
  · by_cases c2 : S ≤ atT now n - H0
    · cases c3 : (!don || decide (P ≤ atT now n - rt))
      · exact b_tickU2 W S P now A H0 don rt kv br vi al n ok c1 c2 c3
      · exact b_tickU3 W S P now A H0 don rt kv br vi al n ok c1 c2 c3
    · exact b_tickU1 W S P now A H0 don rt kv br vi al n ok c1 c2
theorem k_tickU {h : List Ch} {K : KT} {u : Nat} {g : Gs} {n : Int} (H : K (.sl h.length .rcy 0 (tickO g n).length) (h.set u (.pack (GU (tickG g n))) ++ [.rows .rcy (tickO g n)])) (o : hth h u = .pack (GU g)) (s1 : OkG g) : Does Try.prog 12 [.ptr u 0, .int .i64 n] h K :=
  frame_obj (ret' := .sl h.length .rcy 0 (tickO g n).length) (b_tickU g n s1) o (by simp) (fitC_pack _) (br_cons (br_ptr rfl) (br_cons br_int br_nil)) (.inl rfl) (fun _ => rfl) (fun _ => rfl) (by simp [renA, rhoC]) H
theorem OkG.alive {g : Gs} (h : OkG g) (n : Int) : OkG (aliveG g n) := ⟨atT_ok h.now, atT_ok h.now, h.H, h.rt, h.kv, h.br, h.vi⟩
theorem OkG.heard {g : Gs} (h : OkG g) (n : Int) : OkG (heardG g n) := ⟨atT_ok h.now, h.A, atT_ok h.now, h.rt, h.kv, h.br, h.vi⟩
theorem OkG.alarm {g : Gs} (h : OkG g) (n : Int) : OkG (alarmG g n) := ⟨atT_ok h.now, h.A, h.H, h.rt, h.kv, h.br, h.vi⟩
theorem OkG.broken {g : Gs} (h : OkG g) (n : Int) {l v : List Int} (hl : l.length ≤ 1000) (hv : v.length ≤ 1000) : OkG (brokenG g n l v) := ⟨atT_ok h.now, h.A, h.H, h.rt, h.kv, hl, hv⟩
theorem OkG.tick {g : Gs} (h : OkG g) (n : Int) : OkG (tickG g n) := by
  have h1 := atT_ok (n := n) h.now
  refine ⟨h1, ?_, h.H, ?_, fun u => ?_, Nat.zero_le _, Nat.zero_le _⟩
  · unfold tickG
    dsimp only
    split
    · exact h1
    · exact h.A
  · unfold tickG
    dsimp only
    split
    · exact h1
    · exact h.rt
  · unfold tickG
    dsimp only
    rw [mgz_putU]
    split
    · exact h1
    · exact h.kv u
theorem frG_len (g : Gs) (n : Int) (h : g.br.length ≤ 1000) : (frG g n).length ≤ 1000 := by
  unfold frG
  have h1 := List.length_filter_le (dueB g.P (atT g.now n) g.kv) (sdl g.br)
  have h2 := sdl_len g.br
  omega
theorem tkO_len (now : Int) (wd sil safe : Bool) (us : List Int) : (tkO now wd sil safe us).length ≤ us.length + 3 := by
  unfold tkO outU
  cases wd <;> cases sil <;> cases safe <;> simp
end Go.V

set_option maxRecDepth 100000
set_option maxHeartbeats 8000000
namespace Go.V
open Go.Proofs
/-- the guard, packed -/
def PG (g : Gs) : Ch := .pack (GU g)
theorem PG_ne (g : Gs) : PG g ≠ .gone := by unfold PG; simp
theorem b_gclone (g : Gs) (ok : OkG g) : DoesK Try.prog 1 18 [.ptr 0 0] [.pack (GU g)] (EndF 1 (.ptr 1 0) ([.pack (GU g)] ++ [.pack (GU g)])) := by
  refine DoesK.close ?_
  have h6 := ok.br
  have h7 := ok.vi
  refine w_body (rs := [.tmp 2]) (tm := [.ptr 0 0, .any, .any, .any, .any, .any, .any, .any, .any, .any, .any, .any, .any, .any, .any, .any, .any, .any, .any, .any, .any, .any, .any, .any, .any, .any, .any, .any, .any, .any, .any, .any, .any, .any]) fn_18 rfl rfl rfl rfl fun R hR => ?_
  (all_goals (try ((first | (with_reducible refine wp_id ?_) | (with_reducible refine does_id ?_) | (with_reducible refine ops_id ?_)); refine walk ?_; (repeat' (first | exact trivial | with_reducible refine And.intro ?_ ?_)); all_goals (repeat (first | (with_reducible refine ImpB.mk fun hb => ?_) | (with_reducible refine ImpK.mk fun hK => ?_) | (with_reducible refine ImpF.mk fun hF => ?_) | (with_reducible refine ImpQ.mk fun hp => ?_) | (with_reducible refine AllE.mk fun p => ?_) | (with_reducible refine AllR.mk fun rest => ?_) | (with_reducible refine AllK.mk fun K => ?_))))); repeat' (with_reducible refine And.intro ?_ ?_))
  (focus (refine ⟨_, _, Gh.trans (gh_close (t := 0) (ts := [1, 2, 3]) (l := GU g) ⟨⟨_, _, rfl⟩, ?_, by simp⟩) (gh_close (t := 4) (ts := [5, 6, 7]) (l := GU g) ⟨⟨_, _, rfl⟩, ?_, by simp⟩), [0, 4], rfl, ?_⟩; all_goals (refine ⟨?_, ?_, ?_⟩ <;> simp only [go_sem, List.range, List.range.loop, List.nodup_cons, List.nodup_nil, List.mem_cons, List.not_mem_nil, or_false, or_self, decide_true, decide_false, Int.reduceToNat, Nat.min_eq_left, Nat.min_eq_right, Int.reducePow, Nat.reducePow, Int.reduceLE, Int.reduceLT, Int.reduceMul, Int.reduceAdd, Int.reduceSub, Int.reduceNeg, Bool.not_true, Bool.not_false, Bool.not_not, ↓reduceIte, Nat.reduceAdd, Nat.reduceSub, Nat.reduceMul, Nat.reduceEqDiff, reduceCtorEq, Nat.reduceLT, Nat.reduceLeDiff, Nat.reduceGT]); (try any_goals (refine ⟨?_, ?_⟩)); (try any_goals (with_reducible rfl))))
  all_goals (repeat' (first | (refine And.intro ?_ ?_) | exact List.Perm.refl _ | rfl))
end Go.V

set_option maxRecDepth 100000
namespace Go.V
open Go.Lib
def kvU (unit : Int) (l : Nat) : List (Int × Sw) := if l = 0 then [] else [(unit, ⟨true, (l : Int)⟩)]
def nxU (P : Int) (l : Nat) : Int := if l = 0 then 1 else l + P
def gsU (W S P unit : Int) (t l : Nat) : Gs := ⟨W, S, P, ((t - 1 : Nat) : Int), ((t - 1 : Nat) : Int), ((t - 1 : Nat) : Int), false, 0, kvU unit l, [], [], false⟩
theorem atU {t : Nat} (h1 : 1 ≤ t) (h2 : t ≤ 201) : atT ((t - 1 : Nat) : Int) t = t := atT_up h1 h2
theorem sdl_two (u : Int) : sdl [u, u] = [u] := by
  have h1 := sdl_lt [u, u]
  have h2 : ∀ x, x ∈ sdl [u, u] ↔ x = u := fun x => by rw [sdl_mem]; simp
  match hs : sdl [u, u], h1, h2 with
  | [], _, h2 => exact absurd ((h2 u).2 rfl) (by simp)
  | [x], _, h2 => rw [(h2 x).1 (by simp)]
  | x :: y :: r, h1, h2 =>
    have e1 := (h2 x).1 (by simp)
    have e2 := (h2 y).1 (by simp)
    rw [List.pairwise_cons] at h1
    have := h1.1 y (by simp)
    omega
theorem mgz_kvU (unit : Int) (l : Nat) : mgz (kvU unit l) unit = if l = 0 then ⟨false, 0⟩ else ⟨true, (l : Int)⟩ := by
  unfold kvU mgz
  split
  · rfl
  · simp [mget]
theorem put_kvU (unit : Int) (l : Nat) (now : Int) : putU now (kvU unit l) [unit] = [(unit, ⟨true, now⟩)] := by
  unfold putU kvU
  split
  · rfl
  · simp [mset]
def whU (vital : Bool) (unit : Int) : List Int := if vital then [unit] else []
def inU (W S P unit : Int) (vital : Bool) (t l : Nat) : Gs := brokenG (heardG (aliveG (gsU W S P unit t l) t) t) t [unit, unit] (whU vital unit)
theorem inU_eq {W S P unit : Int} {vital : Bool} {t l : Nat} (h1 : 1 ≤ t) (h2 : t ≤ 201) : inU W S P unit vital t l = ⟨W, S, P, t, t, t, false, 0, kvU unit l, [unit, unit], whU vital unit, false⟩ := by
  unfold inU brokenG heardG aliveG gsU
  dsimp only
  rw [atU h1 h2, atT_id h2, atT_id h2]
theorem okU {W S P unit : Int} {vital : Bool} {t l : Nat} (h1 : 1 ≤ t) (h2 : t ≤ 201) (hl : l ≤ t) : OkG (inU W S P unit vital t l) := by
  rw [inU_eq h1 h2]
  refine ⟨by dsimp only; omega, by dsimp only; omega, by dsimp only; omega, by dsimp only; omega, fun u => ?_, by simp, by dsimp only; unfold whU; split <;> simp⟩
  dsimp only
  unfold mgz kvU
  split
  · simp [mget]
  · simp only [mget]
    split <;> simp <;> omega
theorem dueU {P unit : Int} {t l : Nat} (hl : l < t) (h0 : l = 0 → t = 1) : dueB P t (kvU unit l) unit = decide (nxU P l ≤ t) := by
  unfold dueB mayB nxU
  rw [mgz_kvU]
  split
  · rename_i h
    have e : decide ((1 : Int) ≤ (t : Int)) = true := decide_eq_true (by rw [h0 h]; decide)
    rw [e]
    rfl
  · simp only [Bool.not_true, Bool.false_or]
    congr 1
    apply propext
    omega
theorem wdU {W S P unit : Int} {vital : Bool} {t l : Nat} (hW : 1 ≤ W) (h1 : 1 ≤ t) (h2 : t ≤ 201) : wdG (inU W S P unit vital t l) t = false := by
  rw [inU_eq h1 h2]
  unfold wdG
  dsimp only
  rw [atT_id h2]
  exact decide_eq_false (by omega)
theorem silU {W S P unit : Int} {vital : Bool} {t l : Nat} (hS : 1 ≤ S) (h1 : 1 ≤ t) (h2 : t ≤ 201) : silG (inU W S P unit vital t l) t = false := by
  rw [inU_eq h1 h2]
  unfold silG
  dsimp only
  rw [atT_id h2, decide_eq_false (by omega), Bool.false_and]
theorem frU {W S P unit : Int} {vital : Bool} {t l : Nat} (h1 : 1 ≤ t) (h2 : t ≤ 201) (hl : l < t) (h0 : l = 0 → t = 1) : frG (inU W S P unit vital t l) t = if nxU P l ≤ t then [unit] else [] := by
  rw [inU_eq h1 h2]
  unfold frG
  dsimp only
  rw [atT_id h2, sdl_two, List.filter_cons, dueU hl h0]
  by_cases c : nxU P l ≤ t <;> simp [c]
theorem tickU_no {W S P unit : Int} {vital : Bool} {t l : Nat} (hW : 1 ≤ W) (hS : 1 ≤ S) (h1 : 1 ≤ t) (h2 : t ≤ 200) (hl : l < t) (h0 : l = 0 → t = 1) (c : ¬ nxU P l ≤ t) :
    tickG (inU W S P unit vital t l) t = gsU W S P unit (t + 1) l ∧ tickO (inU W S P unit vital t l) t = [] := by
  have f := frU (W := W) (S := S) (P := P) (unit := unit) (vital := vital) h1 (by omega) hl h0
  rw [if_neg c] at f
  have a := wdU (W := W) (S := S) (P := P) (unit := unit) (vital := vital) (l := l) hW h1 (by omega)
  have b := silU (W := W) (S := S) (P := P) (unit := unit) (vital := vital) (l := l) hS h1 (by omega)
  constructor
  · unfold tickG
    rw [f, a, b, inU_eq h1 (by omega)]
    dsimp only
    rw [atT_id (by omega)]
    rfl
  · unfold tickO safeG
    rw [f, a, b, inU_eq h1 (by omega)]
    rfl
theorem tickU_yes {W S P unit : Int} {vital : Bool} {t l : Nat} (hW : 1 ≤ W) (hS : 1 ≤ S) (h1 : 1 ≤ t) (h2 : t ≤ 200) (hl : l < t) (h0 : l = 0 → t = 1) (c : nxU P l ≤ t) :
    tickG (inU W S P unit vital t l) t = gsU W S P unit (t + 1) t ∧ tickO (inU W S P unit vital t l) t = ⟨t, 2, unit⟩ :: (if vital then [⟨t, 1, 0⟩] else []) := by
  have f := frU (W := W) (S := S) (P := P) (unit := unit) (vital := vital) h1 (by omega) hl h0
  rw [if_pos c] at f
  have a := wdU (W := W) (S := S) (P := P) (unit := unit) (vital := vital) (l := l) hW h1 (by omega)
  have b := silU (W := W) (S := S) (P := P) (unit := unit) (vital := vital) (l := l) hS h1 (by omega)
  constructor
  · unfold tickG
    rw [f, a, b, inU_eq h1 (by omega)]
    dsimp only
    rw [atT_id (by omega), put_kvU]
    have e : kvU unit t = [(unit, ⟨true, (t : Int)⟩)] := if_neg (by omega)
    unfold gsU
    rw [e]
    rfl
  · unfold tickO safeG
    rw [f, a, b, inU_eq h1 (by omega)]
    dsimp only
    rw [atT_id (by omega)]
    cases vital
    · rfl
    · unfold whU tkO outU hasZ
      simp
end Go.V

set_option maxRecDepth 100000
set_option maxHeartbeats 16000000
namespace Go.V
open Go.Proofs Go.Lib
structure OkR (r : Rs) : Prop where
  now : 0 ≤ r.now ∧ r.now ≤ 1099511627776
  A : 0 ≤ r.A ∧ r.A ≤ 1099511627776
  H : 0 ≤ r.H ∧ r.H ≤ 1099511627776
  rt : -1 ≤ r.rt ∧ r.rt ≤ 1099511627776
  lst : ∀ u, lastU r.un u ≤ 1099511627776
  un : r.un.length ≤ 1000000
  br : r.br.length ≤ 1000
  vi : r.vi.length ≤ 1000
def wdR (r : Rs) (n : Int) : Bool := decide (r.W ≤ atT r.now n - r.A)
def silR (r : Rs) (n : Int) : Bool := decide (r.S ≤ atT r.now n - r.H) && (decide (r.rt < 0) || decide (r.P ≤ atT r.now n - r.rt))
def frR (r : Rs) (n : Int) : List Int := (sdl r.br).filter (dueR r.P (atT r.now n) r.un)
def safeR (r : Rs) (n : Int) : Bool := (r.al || silR r n) || (frR r n).any (hasZ r.vi)
def tickR (r : Rs) (n : Int) : Rs := { r with now := atT r.now n, A := if wdR r n then atT r.now n else r.A, rt := if silR r n then atT r.now n else r.rt, un := putR (atT r.now n) r.un (frR r n), br := [], vi := [], al := false }
def tickRO (r : Rs) (n : Int) : List Rcy := tkO (atT r.now n) (wdR r n) (silR r n) (safeR r n) (frR r n)
theorem tk_self {α : Type} (l : List α) (x : α) : (l ++ [x]).take (l.length + 1) = l ++ [x] := List.take_of_length_le (by simp)
section
variable (W S P now A H0 : Int) (rt : Int) (un : List Pr) (br vi : List Int) (al : Bool)
theorem b_rtick1 (n : Int) (ok : OkR ⟨W, S, P, now, A, H0, rt, un, br, vi, al⟩) (c1 : ¬ W ≤ atT now n - A) (c2 : ¬ S ≤ atT now n - H0) : DoesK Try.prog 0 19 [.agg (RL ⟨W, S, P, now, A, H0, rt, un, br, vi, al⟩), .int .i64 n] [] (EndF 0 (.tup [.agg (RL (tickR ⟨W, S, P, now, A, H0, rt, un, br, vi, al⟩ n)), .ro .rcy (tickRO ⟨W, S, P, now, A, H0, rt, un, br, vi, al⟩ n)]) []) := by
  refine DoesK.close ?_
  have h1 := atT_ok (n := n) ok.now
  have h2 := ok.A
  have h3 := ok.H
  have h4 := ok.rt
  have h5 := ok.lst
  have h6 := ok.br
  have h7 := ok.vi
  have h9 := ok.un
  dsimp only at h1 h2 h3 h4 h5 h6 h7 h9
  have h8 := sdl_len br
  have d1 : decide (W ≤ atT now n - A) = false := decide_eq_false c1
  have d2 : decide (S ≤ atT now n - H0) = false := decide_eq_false c2
  have w1 : IntKind.i64.wrap (atT now n - A) = atT now n - A := wrap_i64 _ (by omega) (by omega)
  have w2 : IntKind.i64.wrap (atT now n - H0) = atT now n - H0 := wrap_i64 _ (by omega) (by omega)
  have q1 : wdR ⟨W, S, P, now, A, H0, rt, un, br, vi, al⟩ n = false := d1
  have q2 : silR ⟨W, S, P, now, A, H0, rt, un, br, vi, al⟩ n = false := by
    unfold silR
    dsimp only
    rw [d2]
    rfl
  have q3 : tickR ⟨W, S, P, now, A, H0, rt, un, br, vi, al⟩ n = ⟨W, S, P, atT now n, A, H0, rt, putR (atT now n) un (frR ⟨W, S, P, now, A, H0, rt, un, br, vi, al⟩ n), [], [], false⟩ := by
    unfold tickR
    rw [q1, q2]
    rfl
  have q4 : ∀ sf, safeR ⟨W, S, P, now, A, H0, rt, un, br, vi, al⟩ n = sf → tickRO ⟨W, S, P, now, A, H0, rt, un, br, vi, al⟩ n = ([] : List Rcy) ++ outU (atT now n) (frR ⟨W, S, P, now, A, H0, rt, un, br, vi, al⟩ n) ++ (if sf then [⟨atT now n, 1, 0⟩] else []) := fun sf hs => by
    unfold tickRO tkO
    rw [q1, q2, hs]
    rfl
  have q5 : safeR ⟨W, S, P, now, A, H0, rt, un, br, vi, al⟩ n = (al || (frR ⟨W, S, P, now, A, H0, rt, un, br, vi, al⟩ n).any (hasZ vi)) := by
    unfold safeR
    rw [q2]
    dsimp only
    rw [Bool.or_false]
  rw [q3]
  have hl0 : leastF br [] = leastF br ((sdl br).take 0) := rfl
  refine w_body (rs := [.cell 4 45, .tmp 5]) (tm := [.agg (RL ⟨W, S, P, now, A, H0, rt, un, br, vi, al⟩), .int .i64 n, .any, .any, .any, .any, .any, .any, .any, .any, .any, .any, .any, .any, .any, .any, .any, .any, .any, .any, .any, .any, .any, .any, .any, .any, .any, .any, .any, .any, .any, .any, .any, .any, .any, .any, .any, .any, .any, .any, .any, .any, .any, .any, .any, .any, .any, .any, .any, .any, .any, .any, .any, .any, .any, .any, .any, .any, .any, .any, .any, .any, .any, .any, .any, .any, .any, .any, .any, .any, .any, .any, .any, .any, .any, .any, .any, .any, .any, .any, .any, .any, .any, .any, .any, .any, .any, .any, .any, .any, .any, .any, .any, .any, .any, .any, .any, .any, .any, .any, .any, .any, .any, .any, .any, .any, .any, .any, .any, .any, .any, .any, .any, .any, .any, .any, .any, .any, .any, .any, .any, .any, .any, .any, .any, .any, .any, .any, .any, .any, .any, .any, .any, .any, .any, .any, .any, .any, .any, .any]) fn_19 rfl rfl rfl rfl fun R hR => ?_
  (have zx1 := @d1; have zx2 := @d2; have zx3 := @w1; have zx4 := @w2; all_goals (try ((first | (with_reducible refine wp_id ?_) | (with_reducible refine does_id ?_) | (with_reducible refine ops_id ?_)); refine walk ?_; (repeat' (first | exact trivial | with_reducible refine And.intro ?_ ?_)); all_goals (repeat (first | (with_reducible refine ImpB.mk fun hb => ?_) | (with_reducible refine ImpK.mk fun hK => ?_) | (with_reducible refine ImpF.mk fun hF => ?_) | (with_reducible refine ImpQ.mk fun hp => ?_) | (with_reducible refine AllE.mk fun p => ?_) | (with_reducible refine AllR.mk fun rest => ?_) | (with_reducible refine AllK.mk fun K => ?_))))); repeat' (with_reducible refine And.intro ?_ ?_))
  all_goals first | omega | skip
  refine Wp.ghost (gh_adopt (s := 6) .rcy trivial) ?_
  simp only [go_sem, decide_true, decide_false, Int.reduceToNat, Nat.min_eq_left, Nat.min_eq_right, Int.reducePow, Nat.reducePow, Int.reduceLE, Int.reduceLT, Int.reduceMul, Int.reduceAdd, Int.reduceSub, Int.reduceNeg, Bool.not_true, Bool.not_false, Bool.not_not, ↓reduceIte, Nat.reduceAdd, Nat.reduceSub, Nat.reduceMul, Nat.reduceEqDiff, reduceCtorEq, Nat.reduceLT, Nat.reduceLeDiff, Nat.reduceGT]
  refine Wp.ghost (gh_adopt (s := 8) .int trivial) ?_
  simp only [go_sem, decide_true, decide_false, Int.reduceToNat, Nat.min_eq_left, Nat.min_eq_right, Int.reducePow, Nat.reducePow, Int.reduceLE, Int.reduceLT, Int.reduceMul, Int.reduceAdd, Int.reduceSub, Int.reduceNeg, Bool.not_true, Bool.not_false, Bool.not_not, ↓reduceIte, Nat.reduceAdd, Nat.reduceSub, Nat.reduceMul, Nat.reduceEqDiff, reduceCtorEq, Nat.reduceLT, Nat.reduceLeDiff, Nat.reduceGT]
  any_goals ((try (refine w_seq fun K hK => ?_)); (try (refine w_block ?_)); refine w_loop (A := Nat) (fun k => k ≤ (sdl br).length) (fun k => (sdl br).length - k) (fun k => [(31, .any), (60, .any), (65, .any), (6, .sl 2 .rcy 0 (([] : List Rcy) ++ outU (atT now n) (frd (dueR P (atT now n) un) (sdl br) k)).length), (8, .sl 3 .int 0 k), (9, .int .i64 (leastF br ((sdl br).take k)).1), (10, .bool (leastF br ((sdl br).take k)).2), (7, .bool (al || (frd (dueR P (atT now n) un) (sdl br) k).any (hasZ vi)))]) (fun k => [(0, .cells (RL ⟨W, S, P, atT now n, A, H0, rt, putR (atT now n) un (frd (dueR P (atT now n) un) (sdl br) k), br, vi, al⟩)), (2, .rows .rcy (([] : List Rcy) ++ outU (atT now n) (frd (dueR P (atT now n) un) (sdl br) k))), (3, .rows .int ((sdl br).take k))]) (0) (ws := ?ws1) (tk := ?tk1) ?hw1 ?ht1 ?hi ?h0 ?LH1; (case hw1 => simp only [go_sem, decide_true, decide_false, Int.reduceToNat, Nat.min_eq_left, Nat.min_eq_right, Int.reducePow, Nat.reducePow, Int.reduceLE, Int.reduceLT, Int.reduceMul, Int.reduceAdd, Int.reduceSub, Int.reduceNeg, Bool.not_true, Bool.not_false, Bool.not_not, ↓reduceIte, Nat.reduceAdd, Nat.reduceSub, Nat.reduceMul, Nat.reduceEqDiff, reduceCtorEq, Nat.reduceLT, Nat.reduceLeDiff, Nat.reduceGT]; exact rfl); (case ht1 => simp only [go_sem, decide_true, decide_false, Int.reduceToNat, Nat.min_eq_left, Nat.min_eq_right, Int.reducePow, Nat.reducePow, Int.reduceLE, Int.reduceLT, Int.reduceMul, Int.reduceAdd, Int.reduceSub, Int.reduceNeg, Bool.not_true, Bool.not_false, Bool.not_not, ↓reduceIte, Nat.reduceAdd, Nat.reduceSub, Nat.reduceMul, Nat.reduceEqDiff, reduceCtorEq, Nat.reduceLT, Nat.reduceLeDiff, Nat.reduceGT]; exact rfl); (case' LH1 => rintro k E t hx hE ht; simp only [go_sem] at ht; subst ht; simp only [go_sem]; try dsimp only at hx))
  case hi => exact Nat.zero_le _
  case h0 =>
    (focus (refine ⟨_, _, Gh.refl, [0, 1, 2, 3], rfl, ?_⟩; (refine ⟨?_, ?_, ?_⟩ <;> simp only [go_sem, List.range, List.range.loop, List.nodup_cons, List.nodup_nil, List.mem_cons, List.not_mem_nil, or_false, or_self, decide_true, decide_false, Int.reduceToNat, Nat.min_eq_left, Nat.min_eq_right, Int.reducePow, Nat.reducePow, Int.reduceLE, Int.reduceLT, Int.reduceMul, Int.reduceAdd, Int.reduceSub, Int.reduceNeg, Bool.not_true, Bool.not_false, Bool.not_not, ↓reduceIte, Nat.reduceAdd, Nat.reduceSub, Nat.reduceMul, Nat.reduceEqDiff, reduceCtorEq, Nat.reduceLT, Nat.reduceLeDiff, Nat.reduceGT]); (try any_goals (refine ⟨?_, ?_⟩)); (try any_goals (with_reducible rfl))))
    all_goals (repeat' (first | (refine And.intro ?_ ?_) | rfl | (simp [frd]; done) | (simp [frd, outU, putR]; done)))
  case LH1 =>
    have hk0 : k ≤ (sdl br).length := hx
    have hpl : (putR (atT now n) un (frd (dueR P (atT now n) un) (sdl br) k)).length ≤ 1100000 := by
      unfold putR; rw [List.length_append, List.length_map]
      have := frd_len (due := (dueR P (atT now n) un)) (sd := sdl br) (k := k)
      omega
    have hol : (outU (atT now n) (frd (dueR P (atT now n) un) (sdl br) k)).length ≤ k := by unfold outU; rw [List.length_map]; exact frd_len
    by_cases hk : k < (sdl br).length
    · have hla := least_at hk
      have hz := (zAt hk).symm
      have hlu : lastU (putR (atT now n) un (frd (dueR P (atT now n) un) (sdl br) k)) ((sdl br).getD k 0) = lastU un ((sdl br).getD k 0) := by
        rw [lastU_putR, if_neg (frd_new hk)]
      have hlt := h5 ((sdl br).getD k 0)
      have htl : ((sdl br).take k).length = k := by rw [List.length_take]; omega
      rw [hla]
      dsimp only
      by_cases c5 : 0 ≤ lastU un ((sdl br).getD k 0)
      · have d5 : decide (0 ≤ lastU un ((sdl br).getD k 0)) = true := decide_eq_true c5
        have w5 : IntKind.i64.wrap (atT now n - lastU un ((sdl br).getD k 0)) = atT now n - lastU un ((sdl br).getD k 0) := wrap_i64 _ (by omega) (by omega)
        by_cases c6 : atT now n - lastU un ((sdl br).getD k 0) < P
        · have d6 : decide (atT now n - lastU un ((sdl br).getD k 0) < P) = true := decide_eq_true c6
          have hdu : dueR P (atT now n) un ((sdl br).getD k 0) = false := by unfold dueR; rw [d5, d6]; rfl
          have hy := frd_no (due := (dueR P (atT now n) un)) hk hdu
          (have zx1 := @hlu; have zx2 := @d5; have zx3 := @w5; have zx4 := @d6; have zx5 := @hz; have zx6 := @htl; all_goals (try ((first | (with_reducible refine wp_id ?_) | (with_reducible refine does_id ?_) | (with_reducible refine ops_id ?_)); refine walk ?_; (repeat' (first | exact trivial | with_reducible refine And.intro ?_ ?_)); all_goals (repeat (first | (with_reducible refine ImpB.mk fun hb => ?_) | (with_reducible refine ImpK.mk fun hK => ?_) | (with_reducible refine ImpF.mk fun hF => ?_) | (with_reducible refine ImpQ.mk fun hp => ?_) | (with_reducible refine AllE.mk fun p => ?_) | (with_reducible refine AllR.mk fun rest => ?_) | (with_reducible refine AllK.mk fun K => ?_))))); repeat' (with_reducible refine And.intro ?_ ?_))
          all_goals first | omega | (rw [List.length_take]; omega) | skip
          all_goals (refine ⟨k + 1, ⟨by first | omega | (dsimp only; omega), by first | omega | (dsimp only; omega)⟩, ?_⟩)
          all_goals (focus (refine ⟨_, _, Gh.refl, [0, 1, 2, 5], rfl, ?_⟩; (refine ⟨?_, ?_, ?_⟩ <;> simp only [go_sem, List.range, List.range.loop, List.nodup_cons, List.nodup_nil, List.mem_cons, List.not_mem_nil, or_false, or_self, decide_true, decide_false, Int.reduceToNat, Nat.min_eq_left, Nat.min_eq_right, Int.reducePow, Nat.reducePow, Int.reduceLE, Int.reduceLT, Int.reduceMul, Int.reduceAdd, Int.reduceSub, Int.reduceNeg, Bool.not_true, Bool.not_false, Bool.not_not, ↓reduceIte, Nat.reduceAdd, Nat.reduceSub, Nat.reduceMul, Nat.reduceEqDiff, reduceCtorEq, Nat.reduceLT, Nat.reduceLeDiff, Nat.reduceGT]); (try any_goals (refine ⟨?_, ?_⟩)); (try any_goals (with_reducible rfl))))
          all_goals (repeat' (first | (refine And.intro ?_ ?_) | rfl | (rw [hy]; done) | (rw [hy]; rfl)))
        · have d6 : decide (atT now n - lastU un ((sdl br).getD k 0) < P) = false := decide_eq_false c6
          have hdu : dueR P (atT now n) un ((sdl br).getD k 0) = true := by unfold dueR; rw [d5, d6]; rfl
          have hy := frd_yes (due := (dueR P (atT now n) un)) hk hdu
          (have zx1 := @hlu; have zx2 := @d5; have zx3 := @w5; have zx4 := @d6; have zx5 := @hz; have zx6 := @htl; all_goals (try ((first | (with_reducible refine wp_id ?_) | (with_reducible refine does_id ?_) | (with_reducible refine ops_id ?_)); refine walk ?_; (repeat' (first | exact trivial | with_reducible refine And.intro ?_ ?_)); all_goals (repeat (first | (with_reducible refine ImpB.mk fun hb => ?_) | (with_reducible refine ImpK.mk fun hK => ?_) | (with_reducible refine ImpF.mk fun hF => ?_) | (with_reducible refine ImpQ.mk fun hp => ?_) | (with_reducible refine AllE.mk fun p => ?_) | (with_reducible refine AllR.mk fun rest => ?_) | (with_reducible refine AllK.mk fun K => ?_))))); repeat' (with_reducible refine And.intro ?_ ?_))
          all_goals first | omega | (rw [List.length_take]; omega) | (simp only [List.length_append, List.length_cons, List.length_nil]; omega) | (exfalso; simp at hb; done) | skip
          all_goals (refine ⟨k + 1, ⟨by first | omega | (dsimp only; omega), by first | omega | (dsimp only; omega)⟩, ?_⟩)
          all_goals (focus (refine ⟨_, _, gh_frz (t := 10) (e := .pr) (xs := putR (atT now n) un (frd (dueR P (atT now n) un) (sdl br) k) ++ [⟨(sdl br).getD k 0, atT now n⟩]) rfl (by simp [frObL, frOb]) (by simp [frObH, frObC, frOb, frObL]), [0, 1, 7, 5], rfl, ?_⟩; all_goals (refine ⟨?_, ?_, ?_⟩ <;> simp only [go_sem, List.range, List.range.loop, List.nodup_cons, List.nodup_nil, List.mem_cons, List.not_mem_nil, or_false, or_self, decide_true, decide_false, Int.reduceToNat, Nat.min_eq_left, Nat.min_eq_right, Int.reducePow, Nat.reducePow, Int.reduceLE, Int.reduceLT, Int.reduceMul, Int.reduceAdd, Int.reduceSub, Int.reduceNeg, Bool.not_true, Bool.not_false, Bool.not_not, ↓reduceIte, Nat.reduceAdd, Nat.reduceSub, Nat.reduceMul, Nat.reduceEqDiff, reduceCtorEq, Nat.reduceLT, Nat.reduceLeDiff, Nat.reduceGT]); (try any_goals (refine ⟨?_, ?_⟩)); (try any_goals (with_reducible rfl))))
          all_goals (repeat' (first | (refine And.intro ?_ ?_) | rfl | (rw [hy, any_snoc, ← Bool.or_assoc, hb]; done) | (rw [hy, any_snoc, ← Bool.or_assoc, hb]; rfl) | (rw [hy, outU_snoc]; first | done | rfl | (simp; done)) | (rw [hy, putR_snoc, List.take_of_length_le (by simp)])))
      · have d5 : decide (0 ≤ lastU un ((sdl br).getD k 0)) = false := decide_eq_false c5
        have hdu : dueR P (atT now n) un ((sdl br).getD k 0) = true := by unfold dueR; rw [d5]; rfl
        have hy := frd_yes (due := (dueR P (atT now n) un)) hk hdu
        (have zx1 := @hlu; have zx2 := @d5; have zx3 := @hz; have zx4 := @htl; all_goals (try ((first | (with_reducible refine wp_id ?_) | (with_reducible refine does_id ?_) | (with_reducible refine ops_id ?_)); refine walk ?_; (repeat' (first | exact trivial | with_reducible refine And.intro ?_ ?_)); all_goals (repeat (first | (with_reducible refine ImpB.mk fun hb => ?_) | (with_reducible refine ImpK.mk fun hK => ?_) | (with_reducible refine ImpF.mk fun hF => ?_) | (with_reducible refine ImpQ.mk fun hp => ?_) | (with_reducible refine AllE.mk fun p => ?_) | (with_reducible refine AllR.mk fun rest => ?_) | (with_reducible refine AllK.mk fun K => ?_))))); repeat' (with_reducible refine And.intro ?_ ?_))
        all_goals first | omega | (rw [List.length_take]; omega) | (simp only [List.length_append, List.length_cons, List.length_nil]; omega) | (exfalso; simp at hb; done) | skip
        all_goals (refine ⟨k + 1, ⟨by first | omega | (dsimp only; omega), by first | omega | (dsimp only; omega)⟩, ?_⟩)
        all_goals (focus (refine ⟨_, _, gh_frz (t := 10) (e := .pr) (xs := putR (atT now n) un (frd (dueR P (atT now n) un) (sdl br) k) ++ [⟨(sdl br).getD k 0, atT now n⟩]) rfl (by simp [frObL, frOb]) (by simp [frObH, frObC, frOb, frObL]), [0, 1, 7, 5], rfl, ?_⟩; all_goals (refine ⟨?_, ?_, ?_⟩ <;> simp only [go_sem, List.range, List.range.loop, List.nodup_cons, List.nodup_nil, List.mem_cons, List.not_mem_nil, or_false, or_self, decide_true, decide_false, Int.reduceToNat, Nat.min_eq_left, Nat.min_eq_right, Int.reducePow, Nat.reducePow, Int.reduceLE, Int.reduceLT, Int.reduceMul, Int.reduceAdd, Int.reduceSub, Int.reduceNeg, Bool.not_true, Bool.not_false, Bool.not_not, ↓reduceIte, Nat.reduceAdd, Nat.reduceSub, Nat.reduceMul, Nat.reduceEqDiff, reduceCtorEq, Nat.reduceLT, Nat.reduceLeDiff, Nat.reduceGT]); (try any_goals (refine ⟨?_, ?_⟩)); (try any_goals (with_reducible rfl))))
        all_goals (repeat' (first | (refine And.intro ?_ ?_) | rfl | (rw [hy, any_snoc, ← Bool.or_assoc, hb]; done) | (rw [hy, any_snoc, ← Bool.or_assoc, hb]; rfl) | (rw [hy, outU_snoc]; first | done | rfl | (simp; done)) | (rw [hy, putR_snoc, List.take_of_length_le (by simp)])))
    · obtain rfl : k = (sdl br).length := by omega
      have hfe : frd (dueR P (atT now n) un) (sdl br) (sdl br).length = frR ⟨W, S, P, now, A, H0, rt, un, br, vi, al⟩ n := frd_end
      have hle := least_end br
      rw [hfe, hle]
      dsimp only
      have hol2 : (outU (atT now n) (frR ⟨W, S, P, now, A, H0, rt, un, br, vi, al⟩ n)).length ≤ br.length := by
        unfold outU; rw [List.length_map]; unfold frR; exact Nat.le_trans (List.length_filter_le _ _) h8
      cases hsf : (al || (frR ⟨W, S, P, now, A, H0, rt, un, br, vi, al⟩ n).any (hasZ vi))
      · (have zx1 := @hsf; all_goals (try ((first | (with_reducible refine wp_id ?_) | (with_reducible refine does_id ?_) | (with_reducible refine ops_id ?_)); refine walk ?_; (repeat' (first | exact trivial | with_reducible refine And.intro ?_ ?_)); all_goals (repeat (first | (with_reducible refine ImpB.mk fun hb => ?_) | (with_reducible refine ImpK.mk fun hK => ?_) | (with_reducible refine ImpF.mk fun hF => ?_) | (with_reducible refine ImpQ.mk fun hp => ?_) | (with_reducible refine AllE.mk fun p => ?_) | (with_reducible refine AllR.mk fun rest => ?_) | (with_reducible refine AllK.mk fun K => ?_))))); repeat' (with_reducible refine And.intro ?_ ?_))
        all_goals first | omega | skip
        rw [q4 false (q5.trans hsf)]
        (focus (refine ⟨_, _, gh_frz (t := 2) (e := .rcy) (xs := ([] : List Rcy) ++ outU (atT now n) (frR ⟨W, S, P, now, A, H0, rt, un, br, vi, al⟩ n)) rfl (by simp [frObL, frOb]) (by simp [frObH, frObC, frOb, frObL]), [], rfl, ?_⟩; all_goals (refine ⟨?_, ?_, ?_⟩ <;> simp only [go_sem, List.range, List.range.loop, List.nodup_cons, List.nodup_nil, List.mem_cons, List.not_mem_nil, or_false, or_self, decide_true, decide_false, Int.reduceToNat, Nat.min_eq_left, Nat.min_eq_right, Int.reducePow, Nat.reducePow, Int.reduceLE, Int.reduceLT, Int.reduceMul, Int.reduceAdd, Int.reduceSub, Int.reduceNeg, Bool.not_true, Bool.not_false, Bool.not_not, ↓reduceIte, Nat.reduceAdd, Nat.reduceSub, Nat.reduceMul, Nat.reduceEqDiff, reduceCtorEq, Nat.reduceLT, Nat.reduceLeDiff, Nat.reduceGT]); (try any_goals (refine ⟨?_, ?_⟩)); (try any_goals (with_reducible rfl))))
        all_goals (repeat' (first | (refine And.intro ?_ ?_) | rfl | (simp [frL, frA, asE]; done) | exact (tk_self _ _).symm | (refine congrArg (List.cons _) ?_)))
      · (have zx1 := @hsf; all_goals (try ((first | (with_reducible refine wp_id ?_) | (with_reducible refine does_id ?_) | (with_reducible refine ops_id ?_)); refine walk ?_; (repeat' (first | exact trivial | with_reducible refine And.intro ?_ ?_)); all_goals (repeat (first | (with_reducible refine ImpB.mk fun hb => ?_) | (with_reducible refine ImpK.mk fun hK => ?_) | (with_reducible refine ImpF.mk fun hF => ?_) | (with_reducible refine ImpQ.mk fun hp => ?_) | (with_reducible refine AllE.mk fun p => ?_) | (with_reducible refine AllR.mk fun rest => ?_) | (with_reducible refine AllK.mk fun K => ?_))))); repeat' (with_reducible refine And.intro ?_ ?_))
        all_goals first | omega | (simp only [List.length_append, List.length_cons, List.length_nil]; omega) | skip
        rw [q4 true (q5.trans hsf)]
        (focus (refine ⟨_, _, gh_frz (t := 5) (e := .rcy) (xs := ([] : List Rcy) ++ outU (atT now n) (frR ⟨W, S, P, now, A, H0, rt, un, br, vi, al⟩ n) ++ [⟨atT now n, 1, 0⟩]) rfl (by simp [frObL, frOb]) (by simp [frObH, frObC, frOb, frObL]), [], rfl, ?_⟩; all_goals (refine ⟨?_, ?_, ?_⟩ <;> simp only [go_sem, List.range, List.range.loop, List.nodup_cons, List.nodup_nil, List.mem_cons, List.not_mem_nil, or_false, or_self, decide_true, decide_false, Int.reduceToNat, Nat.min_eq_left, Nat.min_eq_right, Int.reducePow, Nat.reducePow, Int.reduceLE, Int.reduceLT, Int.reduceMul, Int.reduceAdd, Int.reduceSub, Int.reduceNeg, Bool.not_true, Bool.not_false, Bool.not_not, ↓reduceIte, Nat.reduceAdd, Nat.reduceSub, Nat.reduceMul, Nat.reduceEqDiff, reduceCtorEq, Nat.reduceLT, Nat.reduceLeDiff, Nat.reduceGT]); (try any_goals (refine ⟨?_, ?_⟩)); (try any_goals (with_reducible rfl))))
        all_goals (repeat' (first | (refine And.intro ?_ ?_) | rfl | (simp [frL, frA, asE]; done) | exact (tk_self _ _).symm | (refine congrArg (List.cons _) ?_)))
theorem b_rtick2 (n : Int) (ok : OkR ⟨W, S, P, now, A, H0, rt, un, br, vi, al⟩) (c1 : ¬ W ≤ atT now n - A) (c2 : S ≤ atT now n - H0) (c3 : ¬ rt < 0) (c4 : ¬ P ≤ atT now n - rt) : DoesK Try.prog 0 19 [.agg (RL ⟨W, S, P, now, A, H0, rt, un, br, vi, al⟩), .int .i64 n] [] (EndF 0 (.tup [.agg (RL (tickR ⟨W, S, P, now, A, H0, rt, un, br, vi, al⟩ n)), .ro .rcy (tickRO ⟨W, S, P, now, A, H0, rt, un, br, vi, al⟩ n)]) []) := by
  refine DoesK.close ?_
  have h1 := atT_ok (n := n) ok.now
  have h2 := ok.A
  have h3 := ok.H
  have h4 := ok.rt
  have h5 := ok.lst
  have h6 := ok.br
  have h7 := ok.vi
  have h9 := ok.un
  dsimp only at h1 h2 h3 h4 h5 h6 h7 h9
  have h8 := sdl_len br
  have d1 : decide (W ≤ atT now n - A) = false := decide_eq_false c1
  have d2 : decide (S ≤ atT now n - H0) = true := decide_eq_true c2
  have w1 : IntKind.i64.wrap (atT now n - A) = atT now n - A := wrap_i64 _ (by omega) (by omega)
  have w2 : IntKind.i64.wrap (atT now n - H0) = atT now n - H0 := wrap_i64 _ (by omega) (by omega)
  have d3 : decide (rt < 0) = false := decide_eq_false c3
  have d4 : decide (P ≤ atT now n - rt) = false := decide_eq_false c4
  have w3 : IntKind.i64.wrap (atT now n - rt) = atT now n - rt := wrap_i64 _ (by omega) (by omega)
  have q1 : wdR ⟨W, S, P, now, A, H0, rt, un, br, vi, al⟩ n = false := d1
  have q2 : silR ⟨W, S, P, now, A, H0, rt, un, br, vi, al⟩ n = false := by
    unfold silR
    dsimp only
    rw [d2, d3, d4]
    rfl
  have q3 : tickR ⟨W, S, P, now, A, H0, rt, un, br, vi, al⟩ n = ⟨W, S, P, atT now n, A, H0, rt, putR (atT now n) un (frR ⟨W, S, P, now, A, H0, rt, un, br, vi, al⟩ n), [], [], false⟩ := by
    unfold tickR
    rw [q1, q2]
    rfl
  have q4 : ∀ sf, safeR ⟨W, S, P, now, A, H0, rt, un, br, vi, al⟩ n = sf → tickRO ⟨W, S, P, now, A, H0, rt, un, br, vi, al⟩ n = ([] : List Rcy) ++ outU (atT now n) (frR ⟨W, S, P, now, A, H0, rt, un, br, vi, al⟩ n) ++ (if sf then [⟨atT now n, 1, 0⟩] else []) := fun sf hs => by
    unfold tickRO tkO
    rw [q1, q2, hs]
    rfl
  have q5 : safeR ⟨W, S, P, now, A, H0, rt, un, br, vi, al⟩ n = (al || (frR ⟨W, S, P, now, A, H0, rt, un, br, vi, al⟩ n).any (hasZ vi)) := by
    unfold safeR
    rw [q2]
    dsimp only
    rw [Bool.or_false]
  rw [q3]
  have hl0 : leastF br [] = leastF br ((sdl br).take 0) := rfl
  refine w_body (rs := [.cell 4 45, .tmp 5]) (tm := [.agg (RL ⟨W, S, P, now, A, H0, rt, un, br, vi, al⟩), .int .i64 n, .any, .any, .any, .any, .any, .any, .any, .any, .any, .any, .any, .any, .any, .any, .any, .any, .any, .any, .any, .any, .any, .any, .any, .any, .any, .any, .any, .any, .any, .any, .any, .any, .any, .any, .any, .any, .any, .any, .any, .any, .any, .any, .any, .any, .any, .any, .any, .any, .any, .any, .any, .any, .any, .any, .any, .any, .any, .any, .any, .any, .any, .any, .any, .any, .any, .any, .any, .any, .any, .any, .any, .any, .any, .any, .any, .any, .any, .any, .any, .any, .any, .any, .any, .any, .any, .any, .any, .any, .any, .any, .any, .any, .any, .any, .any, .any, .any, .any, .any, .any, .any, .any, .any, .any, .any, .any, .any, .any, .any, .any, .any, .any, .any, .any, .any, .any, .any, .any, .any, .any, .any, .any, .any, .any, .any, .any, .any, .any, .any, .any, .any, .any, .any, .any, .any, .any, .any, .any]) fn_19 rfl rfl rfl rfl fun R hR => ?_
  (have zx1 := @d1; have zx2 := @d2; have zx3 := @w1; have zx4 := @w2; have zx5 := @d3; have zx6 := @d4; have zx7 := @w3; all_goals (try ((first | (with_reducible refine wp_id ?_) | (with_reducible refine does_id ?_) | (with_reducible refine ops_id ?_)); refine walk ?_; (repeat' (first | exact trivial | with_reducible refine And.intro ?_ ?_)); all_goals (repeat (first | (with_reducible refine ImpB.mk fun hb => ?_) | (with_reducible refine ImpK.mk fun hK => ?_) | (with_reducible refine ImpF.mk fun hF => ?_) | (with_reducible refine ImpQ.mk fun hp => ?_) | (with_reducible refine AllE.mk fun p => ?_) | (with_reducible refine AllR.mk fun rest => ?_) | (with_reducible refine AllK.mk fun K => ?_))))); repeat' (with_reducible refine And.intro ?_ ?_))
  all_goals first | omega | skip
  refine Wp.ghost (gh_adopt (s := 6) .rcy trivial) ?_
  simp only [go_sem, decide_true, decide_false, Int.reduceToNat, Nat.min_eq_left, Nat.min_eq_right, Int.reducePow, Nat.reducePow, Int.reduceLE, Int.reduceLT, Int.reduceMul, Int.reduceAdd, Int.reduceSub, Int.reduceNeg, Bool.not_true, Bool.not_false, Bool.not_not, ↓reduceIte, Nat.reduceAdd, Nat.reduceSub, Nat.reduceMul, Nat.reduceEqDiff, reduceCtorEq, Nat.reduceLT, Nat.reduceLeDiff, Nat.reduceGT]
  refine Wp.ghost (gh_adopt (s := 8) .int trivial) ?_
  simp only [go_sem, decide_true, decide_false, Int.reduceToNat, Nat.min_eq_left, Nat.min_eq_right, Int.reducePow, Nat.reducePow, Int.reduceLE, Int.reduceLT, Int.reduceMul, Int.reduceAdd, Int.reduceSub, Int.reduceNeg, Bool.not_true, Bool.not_false, Bool.not_not, ↓reduceIte, Nat.reduceAdd, Nat.reduceSub, Nat.reduceMul, Nat.reduceEqDiff, reduceCtorEq, Nat.reduceLT, Nat.reduceLeDiff, Nat.reduceGT]
  any_goals ((try (refine w_seq fun K hK => ?_)); (try (refine w_block ?_)); refine w_loop (A := Nat) (fun k => k ≤ (sdl br).length) (fun k => (sdl br).length - k) (fun k => [(31, .any), (60, .any), (65, .any), (6, .sl 2 .rcy 0 (([] : List Rcy) ++ outU (atT now n) (frd (dueR P (atT now n) un) (sdl br) k)).length), (8, .sl 3 .int 0 k), (9, .int .i64 (leastF br ((sdl br).take k)).1), (10, .bool (leastF br ((sdl br).take k)).2), (7, .bool (al || (frd (dueR P (atT now n) un) (sdl br) k).any (hasZ vi)))]) (fun k => [(0, .cells (RL ⟨W, S, P, atT now n, A, H0, rt, putR (atT now n) un (frd (dueR P (atT now n) un) (sdl br) k), br, vi, al⟩)), (2, .rows .rcy (([] : List Rcy) ++ outU (atT now n) (frd (dueR P (atT now n) un) (sdl br) k))), (3, .rows .int ((sdl br).take k))]) (0) (ws := ?ws2) (tk := ?tk2) ?hw2 ?ht2 ?hi ?h0 ?LH2; (case hw2 => simp only [go_sem, decide_true, decide_false, Int.reduceToNat, Nat.min_eq_left, Nat.min_eq_right, Int.reducePow, Nat.reducePow, Int.reduceLE, Int.reduceLT, Int.reduceMul, Int.reduceAdd, Int.reduceSub, Int.reduceNeg, Bool.not_true, Bool.not_false, Bool.not_not, ↓reduceIte, Nat.reduceAdd, Nat.reduceSub, Nat.reduceMul, Nat.reduceEqDiff, reduceCtorEq, Nat.reduceLT, Nat.reduceLeDiff, Nat.reduceGT]; exact rfl); (case ht2 => simp only [go_sem, decide_true, decide_false, Int.reduceToNat, Nat.min_eq_left, Nat.min_eq_right, Int.reducePow, Nat.reducePow, Int.reduceLE, Int.reduceLT, Int.reduceMul, Int.reduceAdd, Int.reduceSub, Int.reduceNeg, Bool.not_true, Bool.not_false, Bool.not_not, ↓reduceIte, Nat.reduceAdd, Nat.reduceSub, Nat.reduceMul, Nat.reduceEqDiff, reduceCtorEq, Nat.reduceLT, Nat.reduceLeDiff, Nat.reduceGT]; exact rfl); (case' LH2 => rintro k E t hx hE ht; simp only [go_sem] at ht; subst ht; simp only [go_sem]; try dsimp only at hx))
  case hi => exact Nat.zero_le _
  case h0 =>
    (focus (refine ⟨_, _, Gh.refl, [0, 1, 2, 3], rfl, ?_⟩; (refine ⟨?_, ?_, ?_⟩ <;> simp only [go_sem, List.range, List.range.loop, List.nodup_cons, List.nodup_nil, List.mem_cons, List.not_mem_nil, or_false, or_self, decide_true, decide_false, Int.reduceToNat, Nat.min_eq_left, Nat.min_eq_right, Int.reducePow, Nat.reducePow, Int.reduceLE, Int.reduceLT, Int.reduceMul, Int.reduceAdd, Int.reduceSub, Int.reduceNeg, Bool.not_true, Bool.not_false, Bool.not_not, ↓reduceIte, Nat.reduceAdd, Nat.reduceSub, Nat.reduceMul, Nat.reduceEqDiff, reduceCtorEq, Nat.reduceLT, Nat.reduceLeDiff, Nat.reduceGT]); (try any_goals (refine ⟨?_, ?_⟩)); (try any_goals (with_reducible rfl))))
    all_goals (repeat' (first | (refine And.intro ?_ ?_) | rfl | (simp [frd]; done) | (simp [frd, outU, putR]; done)))
  case LH2 =>
    have hk0 : k ≤ (sdl br).length := hx
    have hpl : (putR (atT now n) un (frd (dueR P (atT now n) un) (sdl br) k)).length ≤ 1100000 := by
      unfold putR; rw [List.length_append, List.length_map]
      have := frd_len (due := (dueR P (atT now n) un)) (sd := sdl br) (k := k)
      omega
    have hol : (outU (atT now n) (frd (dueR P (atT now n) un) (sdl br) k)).length ≤ k := by unfold outU; rw [List.length_map]; exact frd_len
    by_cases hk : k < (sdl br).length
    · have hla := least_at hk
      have hz := (zAt hk).symm
      have hlu : lastU (putR (atT now n) un (frd (dueR P (atT now n) un) (sdl br) k)) ((sdl br).getD k 0) = lastU un ((sdl br).getD k 0) := by
        rw [lastU_putR, if_neg (frd_new hk)]
      have hlt := h5 ((sdl br).getD k 0)
      have htl : ((sdl br).take k).length = k := by rw [List.length_take]; omega
      rw [hla]
      dsimp only
      by_cases c5 : 0 ≤ lastU un ((sdl br).getD k 0)
      · have d5 : decide (0 ≤ lastU un ((sdl br).getD k 0)) = true := decide_eq_true c5
        have w5 : IntKind.i64.wrap (atT now n - lastU un ((sdl br).getD k 0)) = atT now n - lastU un ((sdl br).getD k 0) := wrap_i64 _ (by omega) (by omega)
        by_cases c6 : atT now n - lastU un ((sdl br).getD k 0) < P
        · have d6 : decide (atT now n - lastU un ((sdl br).getD k 0) < P) = true := decide_eq_true c6
          have hdu : dueR P (atT now n) un ((sdl br).getD k 0) = false := by unfold dueR; rw [d5, d6]; rfl
          have hy := frd_no (due := (dueR P (atT now n) un)) hk hdu
          (have zx1 := @hlu; have zx2 := @d5; have zx3 := @w5; have zx4 := @d6; have zx5 := @hz; have zx6 := @htl; all_goals (try ((first | (with_reducible refine wp_id ?_) | (with_reducible refine does_id ?_) | (with_reducible refine ops_id ?_)); refine walk ?_; (repeat' (first | exact trivial | with_reducible refine And.intro ?_ ?_)); all_goals (repeat (first | (with_reducible refine ImpB.mk fun hb => ?_) | (with_reducible refine ImpK.mk fun hK => ?_) | (with_reducible refine ImpF.mk fun hF => ?_) | (with_reducible refine ImpQ.mk fun hp => ?_) | (with_reducible refine AllE.mk fun p => ?_) | (with_reducible refine AllR.mk fun rest => ?_) | (with_reducible refine AllK.mk fun K => ?_))))); repeat' (with_reducible refine And.intro ?_ ?_))
          all_goals first | omega | (rw [List.length_take]; omega) | skip
          all_goals (refine ⟨k + 1, ⟨by first | omega | (dsimp only; omega), by first | omega | (dsimp only; omega)⟩, ?_⟩)
          all_goals (focus (refine ⟨_, _, Gh.refl, [0, 1, 2, 5], rfl, ?_⟩; (refine ⟨?_, ?_, ?_⟩ <;> simp only [go_sem, List.range, List.range.loop, List.nodup_cons, List.nodup_nil, List.mem_cons, List.not_mem_nil, or_false, or_self, decide_true, decide_false, Int.reduceToNat, Nat.min_eq_left, Nat.min_eq_right, Int.reducePow, Nat.reducePow, Int.reduceLE, Int.reduceLT, Int.reduceMul, Int.reduceAdd, Int.reduceSub, Int.reduceNeg, Bool.not_true, Bool.not_false, Bool.not_not, ↓reduceIte, Nat.reduceAdd, Nat.reduceSub, Nat.reduceMul, Nat.reduceEqDiff, reduceCtorEq, Nat.reduceLT, Nat.reduceLeDiff, Nat.reduceGT]); (try any_goals (refine ⟨?_, ?_⟩)); (try any_goals (with_reducible rfl))))
          all_goals (repeat' (first | (refine And.intro ?_ ?_) | rfl | (rw [hy]; done) | (rw [hy]; rfl)))
        · have d6 : decide (atT now n - lastU un ((sdl br).getD k 0) < P) = false := decide_eq_false c6
          have hdu : dueR P (atT now n) un ((sdl br).getD k 0) = true := by unfold dueR; rw [d5, d6]; rfl
          have hy := frd_yes (due := (dueR P (atT now n) un)) hk hdu
          (have zx1 := @hlu; have zx2 := @d5; have zx3 := @w5; have zx4 := @d6; have zx5 := @hz; have zx6 := @htl; all_goals (try ((first | (with_reducible refine wp_id ?_) | (with_reducible refine does_id ?_) | (with_reducible refine ops_id ?_)); refine walk ?_; (repeat' (first | exact trivial | with_reducible refine And.intro ?_ ?_)); all_goals (repeat (first | (with_reducible refine ImpB.mk fun hb => ?_) | (with_reducible refine ImpK.mk fun hK => ?_) | (with_reducible refine ImpF.mk fun hF => ?_) | (with_reducible refine ImpQ.mk fun hp => ?_) | (with_reducible refine AllE.mk fun p => ?_) | (with_reducible refine AllR.mk fun rest => ?_) | (with_reducible refine AllK.mk fun K => ?_))))); repeat' (with_reducible refine And.intro ?_ ?_))
          all_goals first | omega | (rw [List.length_take]; omega) | (simp only [List.length_append, List.length_cons, List.length_nil]; omega) | (exfalso; simp at hb; done) | skip
          all_goals (refine ⟨k + 1, ⟨by first | omega | (dsimp only; omega), by first | omega | (dsimp only; omega)⟩, ?_⟩)
          all_goals (focus (refine ⟨_, _, gh_frz (t := 10) (e := .pr) (xs := putR (atT now n) un (frd (dueR P (atT now n) un) (sdl br) k) ++ [⟨(sdl br).getD k 0, atT now n⟩]) rfl (by simp [frObL, frOb]) (by simp [frObH, frObC, frOb, frObL]), [0, 1, 7, 5], rfl, ?_⟩; all_goals (refine ⟨?_, ?_, ?_⟩ <;> simp only [go_sem, List.range, List.range.loop, List.nodup_cons, List.nodup_nil, List.mem_cons, List.not_mem_nil, or_false, or_self, decide_true, decide_false, Int.reduceToNat, Nat.min_eq_left, Nat.min_eq_right, Int.reducePow, Nat.reducePow, Int.reduceLE, Int.reduceLT, Int.reduceMul, Int.reduceAdd, Int.reduceSub, Int.reduceNeg, Bool.not_true, Bool.not_false, Bool.not_not, ↓reduceIte, Nat.reduceAdd, Nat.reduceSub, Nat.reduceMul, Nat.reduceEqDiff, reduceCtorEq, Nat.reduceLT, Nat.reduceLeDiff, Nat.reduceGT]); (try any_goals (refine ⟨?_, ?_⟩)); (try any_goals (with_reducible rfl))))
          all_goals (repeat' (first | (refine And.intro ?_ ?_) | rfl | (rw [hy, any_snoc, ← Bool.or_assoc, hb]; done) | (rw [hy, any_snoc, ← Bool.or_assoc, hb]; rfl) | (rw [hy, outU_snoc]; first | done | rfl | (simp; done)) | (rw [hy, putR_snoc, List.take_of_length_le (by simp)])))
      · have d5 : decide (0 ≤ lastU un ((sdl br).getD k 0)) = false := decide_eq_false c5
        have hdu : dueR P (atT now n) un ((sdl br).getD k 0) = true := by unfold dueR; rw [d5]; rfl
        have hy := frd_yes (due := (dueR P (atT now n) un)) hk hdu
        (have zx1 := @hlu; have zx2 := @d5; have zx3 := @hz; have zx4 := @htl; all_goals (try ((first | (with_reducible refine wp_id ?_) | (with_reducible refine does_id ?_) | (with_reducible refine ops_id ?_)); refine walk ?_; (repeat' (first | exact trivial | with_reducible refine And.intro ?_ ?_)); all_goals (repeat (first | (with_reducible refine ImpB.mk fun hb => ?_) | (with_reducible refine ImpK.mk fun hK => ?_) | (with_reducible refine ImpF.mk fun hF => ?_) | (with_reducible refine ImpQ.mk fun hp => ?_) | (with_reducible refine AllE.mk fun p => ?_) | (with_reducible refine AllR.mk fun rest => ?_) | (with_reducible refine AllK.mk fun K => ?_))))); repeat' (with_reducible refine And.intro ?_ ?_))
        all_goals first | omega | (rw [List.length_take]; omega) | (simp only [List.length_append, List.length_cons, List.length_nil]; omega) | (exfalso; simp at hb; done) | skip
        all_goals (refine ⟨k + 1, ⟨by first | omega | (dsimp only; omega), by first | omega | (dsimp only; omega)⟩, ?_⟩)
        all_goals (focus (refine ⟨_, _, gh_frz (t := 10) (e := .pr) (xs := putR (atT now n) un (frd (dueR P (atT now n) un) (sdl br) k) ++ [⟨(sdl br).getD k 0, atT now n⟩]) rfl (by simp [frObL, frOb]) (by simp [frObH, frObC, frOb, frObL]), [0, 1, 7, 5], rfl, ?_⟩; all_goals (refine ⟨?_, ?_, ?_⟩ <;> simp only [go_sem, List.range, List.range.loop, List.nodup_cons, List.nodup_nil, List.mem_cons, List.not_mem_nil, or_false, or_self, decide_true, decide_false, Int.reduceToNat, Nat.min_eq_left, Nat.min_eq_right, Int.reducePow, Nat.reducePow, Int.reduceLE, Int.reduceLT, Int.reduceMul, Int.reduceAdd, Int.reduceSub, Int.reduceNeg, Bool.not_true, Bool.not_false, Bool.not_not, ↓reduceIte, Nat.reduceAdd, Nat.reduceSub, Nat.reduceMul, Nat.reduceEqDiff, reduceCtorEq, Nat.reduceLT, Nat.reduceLeDiff, Nat.reduceGT]); (try any_goals (refine ⟨?_, ?_⟩)); (try any_goals (with_reducible rfl))))
        all_goals (repeat' (first | (refine And.intro ?_ ?_) | rfl | (rw [hy, any_snoc, ← Bool.or_assoc, hb]; done) | (rw [hy, any_snoc, ← Bool.or_assoc, hb]; rfl) | (rw [hy, outU_snoc]; first | done | rfl | (simp; done)) | (rw [hy, putR_snoc, List.take_of_length_le (by simp)])))
    · obtain rfl : k = (sdl br).length := by omega
      have hfe : frd (dueR P (atT now n) un) (sdl br) (sdl br).length = frR ⟨W, S, P, now, A, H0, rt, un, br, vi, al⟩ n := frd_end
      have hle := least_end br
      rw [hfe, hle]
      dsimp only
      have hol2 : (outU (atT now n) (frR ⟨W, S, P, now, A, H0, rt, un, br, vi, al⟩ n)).length ≤ br.length := by
        unfold outU; rw [List.length_map]; unfold frR; exact Nat.le_trans (List.length_filter_le _ _) h8
      cases hsf : (al || (frR ⟨W, S, P, now, A, H0, rt, un, br, vi, al⟩ n).any (hasZ vi))
      · (have zx1 := @hsf; all_goals (try ((first | (with_reducible refine wp_id ?_) | (with_reducible refine does_id ?_) | (with_reducible refine ops_id ?_)); refine walk ?_; (repeat' (first | exact trivial | with_reducible refine And.intro ?_ ?_)); all_goals (repeat (first | (with_reducible refine ImpB.mk fun hb => ?_) | (with_reducible refine ImpK.mk fun hK => ?_) | (with_reducible refine ImpF.mk fun hF => ?_) | (with_reducible refine ImpQ.mk fun hp => ?_) | (with_reducible refine AllE.mk fun p => ?_) | (with_reducible refine AllR.mk fun rest => ?_) | (with_reducible refine AllK.mk fun K => ?_))))); repeat' (with_reducible refine And.intro ?_ ?_))
        all_goals first | omega | skip
        rw [q4 false (q5.trans hsf)]
        (focus (refine ⟨_, _, gh_frz (t := 2) (e := .rcy) (xs := ([] : List Rcy) ++ outU (atT now n) (frR ⟨W, S, P, now, A, H0, rt, un, br, vi, al⟩ n)) rfl (by simp [frObL, frOb]) (by simp [frObH, frObC, frOb, frObL]), [], rfl, ?_⟩; all_goals (refine ⟨?_, ?_, ?_⟩ <;> simp only [go_sem, List.range, List.range.loop, List.nodup_cons, List.nodup_nil, List.mem_cons, List.not_mem_nil, or_false, or_self, decide_true, decide_false, Int.reduceToNat, Nat.min_eq_left, Nat.min_eq_right, Int.reducePow, Nat.reducePow, Int.reduceLE, Int.reduceLT, Int.reduceMul, Int.reduceAdd, Int.reduceSub, Int.reduceNeg, Bool.not_true, Bool.not_false, Bool.not_not, ↓reduceIte, Nat.reduceAdd, Nat.reduceSub, Nat.reduceMul, Nat.reduceEqDiff, reduceCtorEq, Nat.reduceLT, Nat.reduceLeDiff, Nat.reduceGT]); (try any_goals (refine ⟨?_, ?_⟩)); (try any_goals (with_reducible rfl))))
        all_goals (repeat' (first | (refine And.intro ?_ ?_) | rfl | (simp [frL, frA, asE]; done) | exact (tk_self _ _).symm | (refine congrArg (List.cons _) ?_)))
      · (have zx1 := @hsf; all_goals (try ((first | (with_reducible refine wp_id ?_) | (with_reducible refine does_id ?_) | (with_reducible refine ops_id ?_)); refine walk ?_; (repeat' (first | exact trivial | with_reducible refine And.intro ?_ ?_)); all_goals (repeat (first | (with_reducible refine ImpB.mk fun hb => ?_) | (with_reducible refine ImpK.mk fun hK => ?_) | (with_reducible refine ImpF.mk fun hF => ?_) | (with_reducible refine ImpQ.mk fun hp => ?_) | (with_reducible refine AllE.mk fun p => ?_) | (with_reducible refine AllR.mk fun rest => ?_) | (with_reducible refine AllK.mk fun K => ?_))))); repeat' (with_reducible refine And.intro ?_ ?_))
        all_goals first | omega | (simp only [List.length_append, List.length_cons, List.length_nil]; omega) | skip
        rw [q4 true (q5.trans hsf)]
        (focus (refine ⟨_, _, gh_frz (t := 5) (e := .rcy) (xs := ([] : List Rcy) ++ outU (atT now n) (frR ⟨W, S, P, now, A, H0, rt, un, br, vi, al⟩ n) ++ [⟨atT now n, 1, 0⟩]) rfl (by simp [frObL, frOb]) (by simp [frObH, frObC, frOb, frObL]), [], rfl, ?_⟩; all_goals (refine ⟨?_, ?_, ?_⟩ <;> simp only [go_sem, List.range, List.range.loop, List.nodup_cons, List.nodup_nil, List.mem_cons, List.not_mem_nil, or_false, or_self, decide_true, decide_false, Int.reduceToNat, Nat.min_eq_left, Nat.min_eq_right, Int.reducePow, Nat.reducePow, Int.reduceLE, Int.reduceLT, Int.reduceMul, Int.reduceAdd, Int.reduceSub, Int.reduceNeg, Bool.not_true, Bool.not_false, Bool.not_not, ↓reduceIte, Nat.reduceAdd, Nat.reduceSub, Nat.reduceMul, Nat.reduceEqDiff, reduceCtorEq, Nat.reduceLT, Nat.reduceLeDiff, Nat.reduceGT]); (try any_goals (refine ⟨?_, ?_⟩)); (try any_goals (with_reducible rfl))))
        all_goals (repeat' (first | (refine And.intro ?_ ?_) | rfl | (simp [frL, frA, asE]; done) | exact (tk_self _ _).symm | (refine congrArg (List.cons _) ?_)))
end
end Go.V
