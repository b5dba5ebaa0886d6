/-
  The engine: the object; New, valid, advance, find, Running.
  The engine: Stop, Start.
  Copies of commands and of steps.
-/
import Derived.Test.YtpnfoffggcfhfaaPart18
set_option linter.unusedVariables false
set_option linter.unusedSimpArgs false
set_option maxRecDepth 100000
set_option maxHeartbeats 8000000
namespace Go.V
open Go.Proofs
theorem getM {α : Type} {l : List α} {k : Nat} {z : α} (h : k < l.length) : l.getD k z ∈ l := by
  rw [List.getD_eq_getElem?_getD, List.getElem?_eq_getElem h]; exact List.getElem_mem h
theorem getEq {α : Type} {l : List α} {k : Nat} {z : α} (h : k < l.length) : l.getD k z = l[k] := by rw [List.getD_eq_getElem?_getD, List.getElem?_eq_getElem h]; rfl
theorem getT {α : Type} {l : List α} {k : Nat} {z : α} (h : k < l.length) : l.take (k + 1) = l.take k ++ [l.getD k z] := by
  rw [List.take_succ_eq_append_getElem h, getEq h]
/-- the engine as it lies -/
def EN (now : Int) (L : List Prg) : List Ch := [.cells [.bool true, .int .i64 now, .sl 1 .prg 0 L.length], .rows .prg L]
attribute [go_sem] EN
def atQ (now n : Int) : Int := if now < n ∧ n ≤ 1099511627776 then n else now
/-- where a number belongs -/
def fnI (L : List Prg) (id : Int) : Nat := (L.takeWhile fun x => decide (x.id < id)).length
def fnB (L : List Prg) (id : Int) : Bool := decide (fnI L id < L.length) && decide ((L.getD (fnI L id) Prg.zero).id = id)
theorem tw_at {α : Type} {p : α → Bool} {z : α} : ∀ {l : List α} {k : Nat}, k ≤ l.length → (∀ i, i < k → p (l.getD i z) = true) → (k < l.length → p (l.getD k z) = false) → (l.takeWhile p).length = k
  | [], k, h, _, _ => by simp at h; subst h; rfl
  | x :: l, 0, _, _, h => by
    have : p x = false := h (Nat.succ_pos _)
    rw [List.takeWhile_cons, this]; rfl
  | x :: l, k + 1, h, h1, h2 => by
    have e : p x = true := h1 0 (Nat.succ_pos _)
    rw [List.takeWhile_cons, e, if_pos rfl, List.length_cons, tw_at (k := k) (by simpa using h) (fun i hi => h1 (i + 1) (by omega)) (fun hk => h2 (by simpa using hk))]
theorem b_eNew : DoesK Try.prog 0 11 [] [] (EndF 0 (.ptr 0 0) [.pack (EN 0 [])]) := by
  refine DoesK.close ?_
  refine w_body (rs := [.tmp 0]) (tm := [.any, .any, .any]) fn_11 rfl rfl rfl rfl fun R hR => ?_
  (all_goals (try ((first | (with_reducible refine wp_id ?_) | (with_reducible refine does_id ?_) | (with_reducible refine ops_id ?_)); refine walk ?_; (repeat' (first | exact trivial | with_reducible refine And.intro ?_ ?_)); all_goals (repeat (first | (with_reducible refine ImpB.mk fun hb => ?_) | (with_reducible refine ImpK.mk fun hK => ?_) | (with_reducible refine ImpF.mk fun hF => ?_) | (with_reducible refine ImpQ.mk fun hp => ?_) | (with_reducible refine AllE.mk fun p => ?_) | (with_reducible refine AllR.mk fun rest => ?_) | (with_reducible refine AllK.mk fun K => ?_))))); repeat' (with_reducible refine And.intro ?_ ?_))
  refine ⟨_, _, Gh.trans (gh_adoptC (t := 0) (i := 2) .prg rfl trivial) (gh_close (t := 0) (ts := [1]) (l := EN 0 []) ⟨⟨_, _, rfl⟩, ?fc, by simp⟩), [0], rfl, ?ft⟩
  case' ft => (refine fitq ?_ ?_ ?_ <;> try exact trivial)
  case' fc => simp only [go_sem, decide_true, decide_false, Int.reduceToNat, Nat.min_eq_left, Nat.min_eq_right, Int.reducePow, Nat.reducePow, Int.reduceLE, Int.reduceLT, Int.reduceMul, Int.reduceAdd, Int.reduceSub, Int.reduceNeg, Bool.not_true, Bool.not_false, Bool.not_not, ↓reduceIte, Nat.reduceAdd, Nat.reduceSub, Nat.reduceMul, Nat.reduceEqDiff, reduceCtorEq, Nat.reduceLT, Nat.reduceLeDiff, Nat.reduceGT]
  all_goals (repeat' (first | (refine And.intro ?_ ?_) | rfl | trace_state))
theorem c_eNew {h : List Ch} {K : KT} (H : K (.ptr h.length 0) (h ++ [.pack (EN 0 [])])) : Does Try.prog 11 [] h K :=
  frame_new b_eNew br_nil (.inl rfl) (fun _ => rfl) (by simp [renA, renL, rhoC]) H
theorem b_eValid (now : Int) (L : List Prg) : DoesK Try.prog 1 27 [.ptr 0 0] [.pack (EN now L)] (EndF 1 (.bool true) ([.pack (EN now L)] ++ [])) := by
  refine DoesK.close ?_
  refine w_body (rs := [.tmp 2]) (tm := [.ptr 0 0, .any, .any, .any, .any, .any, .any, .any, .any, .any, .any]) fn_27 rfl rfl rfl rfl fun R hR => ?_
  (all_goals (try ((first | (with_reducible refine wp_id ?_) | (with_reducible refine does_id ?_) | (with_reducible refine ops_id ?_)); refine walk ?_; (repeat' (first | exact trivial | with_reducible refine And.intro ?_ ?_)); all_goals (repeat (first | (with_reducible refine ImpB.mk fun hb => ?_) | (with_reducible refine ImpK.mk fun hK => ?_) | (with_reducible refine ImpF.mk fun hF => ?_) | (with_reducible refine ImpQ.mk fun hp => ?_) | (with_reducible refine AllE.mk fun p => ?_) | (with_reducible refine AllR.mk fun rest => ?_) | (with_reducible refine AllK.mk fun K => ?_))))); repeat' (with_reducible refine And.intro ?_ ?_))
  (focus (refine ⟨_, _, gh_close (t := 0) (ts := [1]) (l := EN now L) ⟨⟨_, _, rfl⟩, ?_, by simp⟩, [0], rfl, ?_⟩; all_goals (refine fitq ?_ ?_ ?_ <;> try exact trivial); (try any_goals (refine ⟨?_, ?_⟩)); (try any_goals (with_reducible rfl))))
  all_goals (repeat' (first | (refine And.intro ?_ ?_) | rfl))
theorem c_eValid {h : List Ch} {K : KT} {u : Nat} {now : Int} {L : List Prg} (H : K (.bool true) h) (o : hth h u = .pack (EN now L)) : Does Try.prog 27 [.ptr u 0] h K :=
  frame_look (b_eValid now L) o (by simp) (fitC_pack _) (br_cons (br_ptr rfl) br_nil) (.inl rfl) (fun _ => rfl) rfl H
abbrev i_eValid := Ctr.mk (i := 0) (g := 27) @c_eValid
attribute [instance] i_eValid
theorem b_eAdv (now : Int) (L : List Prg) (n : Int) : DoesK Try.prog 1 32 [.ptr 0 0, .int .i64 n] [.pack (EN now L)] (EndF 1 (.tup []) ([.pack (EN (atQ now n) L)] ++ [])) := by
  refine DoesK.close ?_
  unfold atQ
  by_cases c1 : now < n
  · have d1 : decide (now < n) = true := decide_eq_true c1
    by_cases c2 : n ≤ 1099511627776
    · have d2 : decide (n ≤ 1099511627776) = true := decide_eq_true c2
      rw [if_pos ⟨c1, c2⟩]
      refine w_body (rs := []) (tm := [.ptr 0 0, .int .i64 n, .any, .any, .any, .any, .any, .any, .any, .any, .any, .any, .any, .any, .any, .any, .any, .any]) fn_32 rfl rfl rfl rfl fun R hR => ?_
      (have zx1 := @d1; have zx2 := @d2; all_goals (try ((first | (with_reducible refine wp_id ?_) | (with_reducible refine does_id ?_) | (with_reducible refine ops_id ?_)); refine walk ?_; (repeat' (first | exact trivial | with_reducible refine And.intro ?_ ?_)); all_goals (repeat (first | (with_reducible refine ImpB.mk fun hb => ?_) | (with_reducible refine ImpK.mk fun hK => ?_) | (with_reducible refine ImpF.mk fun hF => ?_) | (with_reducible refine ImpQ.mk fun hp => ?_) | (with_reducible refine AllE.mk fun p => ?_) | (with_reducible refine AllR.mk fun rest => ?_) | (with_reducible refine AllK.mk fun K => ?_))))); repeat' (with_reducible refine And.intro ?_ ?_))
      (focus (refine ⟨_, _, gh_close (t := 0) (ts := [1]) (l := EN n L) ⟨⟨_, _, rfl⟩, ?_, by simp⟩, [0], rfl, ?_⟩; all_goals (refine fitq ?_ ?_ ?_ <;> try exact trivial); (try any_goals (refine ⟨?_, ?_⟩)); (try any_goals (with_reducible rfl))))
      all_goals (repeat' (first | (refine And.intro ?_ ?_) | rfl))
    · have d2 : decide (n ≤ 1099511627776) = false := decide_eq_false c2
      rw [if_neg (fun q => c2 q.2)]
      refine w_body (rs := []) (tm := [.ptr 0 0, .int .i64 n, .any, .any, .any, .any, .any, .any, .any, .any, .any, .any, .any, .any, .any, .any, .any, .any]) fn_32 rfl rfl rfl rfl fun R hR => ?_
      (have zx1 := @d1; have zx2 := @d2; all_goals (try ((first | (with_reducible refine wp_id ?_) | (with_reducible refine does_id ?_) | (with_reducible refine ops_id ?_)); refine walk ?_; (repeat' (first | exact trivial | with_reducible refine And.intro ?_ ?_)); all_goals (repeat (first | (with_reducible refine ImpB.mk fun hb => ?_) | (with_reducible refine ImpK.mk fun hK => ?_) | (with_reducible refine ImpF.mk fun hF => ?_) | (with_reducible refine ImpQ.mk fun hp => ?_) | (with_reducible refine AllE.mk fun p => ?_) | (with_reducible refine AllR.mk fun rest => ?_) | (with_reducible refine AllK.mk fun K => ?_))))); repeat' (with_reducible refine And.intro ?_ ?_))
      (focus (refine ⟨_, _, gh_close (t := 0) (ts := [1]) (l := EN now L) ⟨⟨_, _, rfl⟩, ?_, by simp⟩, [0], rfl, ?_⟩; all_goals (refine fitq ?_ ?_ ?_ <;> try exact trivial); (try any_goals (refine ⟨?_, ?_⟩)); (try any_goals (with_reducible rfl))))
      all_goals (repeat' (first | (refine And.intro ?_ ?_) | rfl))
  · have d1 : decide (now < n) = false := decide_eq_false c1
    rw [if_neg (fun q => c1 q.1)]
    refine w_body (rs := []) (tm := [.ptr 0 0, .int .i64 n, .any, .any, .any, .any, .any, .any, .any, .any, .any, .any, .any, .any, .any, .any, .any, .any]) fn_32 rfl rfl rfl rfl fun R hR => ?_
    (have zx1 := @d1; all_goals (try ((first | (with_reducible refine wp_id ?_) | (with_reducible refine does_id ?_) | (with_reducible refine ops_id ?_)); refine walk ?_; (repeat' (first | exact trivial | with_reducible refine And.intro ?_ ?_)); all_goals (repeat (first | (with_reducible refine ImpB.mk fun hb => ?_) | (with_reducible refine ImpK.mk fun hK => ?_) | (with_reducible refine ImpF.mk fun hF => ?_) | (with_reducible refine ImpQ.mk fun hp => ?_) | (with_reducible refine AllE.mk fun p => ?_) | (with_reducible refine AllR.mk fun rest => ?_) | (with_reducible refine AllK.mk fun K => ?_))))); repeat' (with_reducible refine And.intro ?_ ?_))
    (focus (refine ⟨_, _, gh_close (t := 0) (ts := [1]) (l := EN now L) ⟨⟨_, _, rfl⟩, ?_, by simp⟩, [0], rfl, ?_⟩; all_goals (refine fitq ?_ ?_ ?_ <;> try exact trivial); (try any_goals (refine ⟨?_, ?_⟩)); (try any_goals (with_reducible rfl))))
    all_goals (repeat' (first | (refine And.intro ?_ ?_) | rfl))
theorem c_eAdv {h : List Ch} {K : KT} {u : Nat} {now : Int} {L : List Prg} {n : Int} (H : K (.tup []) (h.set u (.pack (EN (atQ now n) L)))) (o : hth h u = .pack (EN now L)) : Does Try.prog 32 [.ptr u 0, .int .i64 n] h K :=
  frame_obj0 (b_eAdv now L n) o (by simp) (fitC_pack _) (br_cons (br_ptr rfl) (br_cons br_int br_nil)) (.inl rfl) (fun _ => rfl) rfl H
abbrev i_eAdv := Ctr.mk (i := 0) (g := 32) @c_eAdv
attribute [instance] i_eAdv
theorem b_eFind (now : Int) (L : List Prg) (id : Int) (hL : L.length ≤ 1000000) : DoesK Try.prog 1 29 [.ptr 0 0, .int .i64 id] [.pack (EN now L)] (EndF 1 (.tup [.int .i64 (fnI L id), .bool (fnB L id)]) ([.pack (EN now L)] ++ [])) := by
  refine DoesK.close ?_
  refine w_body (rs := [.tmp 4, .tmp 5]) (tm := [.ptr 0 0, .int .i64 id, .any, .any, .any, .any, .any, .any, .any, .any, .any, .any, .any, .any, .any, .any, .any, .any, .any, .any, .any, .any, .any, .any, .any, .any, .any, .any, .any, .any, .any, .any, .any, .any, .any, .any, .any, .any, .any, .any, .any, .any]) fn_29 rfl rfl rfl rfl fun R hR => ?_
  (all_goals (try ((first | (with_reducible refine wp_id ?_) | (with_reducible refine does_id ?_) | (with_reducible refine ops_id ?_)); refine walk ?_; (repeat' (first | exact trivial | with_reducible refine And.intro ?_ ?_)); all_goals (repeat (first | (with_reducible refine ImpB.mk fun hb => ?_) | (with_reducible refine ImpK.mk fun hK => ?_) | (with_reducible refine ImpF.mk fun hF => ?_) | (with_reducible refine ImpQ.mk fun hp => ?_) | (with_reducible refine AllE.mk fun p => ?_) | (with_reducible refine AllR.mk fun rest => ?_) | (with_reducible refine AllK.mk fun K => ?_))))); repeat' (with_reducible refine And.intro ?_ ?_))
  any_goals ((try (refine w_seq fun K hK => ?_)); (try (refine w_block ?_)); refine w_loop (A := Nat) (fun k => k ≤ L.length ∧ ∀ i, i < k → decide ((L.getD i Prg.zero).id < id) = true) (fun k => L.length - k) (fun k => [(12, .int .i64 k)]) (fun _ => []) (0) (ws := ?ws1) (tk := ?tk1) ?hw1 ?ht1 ?hi ?h0 ?LH1; (case hw1 => simp only [go_sem, decide_true, decide_false, Int.reduceToNat, Nat.min_eq_left, Nat.min_eq_right, Int.reducePow, Nat.reducePow, Int.reduceLE, Int.reduceLT, Int.reduceMul, Int.reduceAdd, Int.reduceSub, Int.reduceNeg, Bool.not_true, Bool.not_false, Bool.not_not, ↓reduceIte, Nat.reduceAdd, Nat.reduceSub, Nat.reduceMul, Nat.reduceEqDiff, reduceCtorEq, Nat.reduceLT, Nat.reduceLeDiff, Nat.reduceGT]; exact rfl); (case ht1 => simp only [go_sem, decide_true, decide_false, Int.reduceToNat, Nat.min_eq_left, Nat.min_eq_right, Int.reducePow, Nat.reducePow, Int.reduceLE, Int.reduceLT, Int.reduceMul, Int.reduceAdd, Int.reduceSub, Int.reduceNeg, Bool.not_true, Bool.not_false, Bool.not_not, ↓reduceIte, Nat.reduceAdd, Nat.reduceSub, Nat.reduceMul, Nat.reduceEqDiff, reduceCtorEq, Nat.reduceLT, Nat.reduceLeDiff, Nat.reduceGT]; exact rfl); (case' LH1 => rintro k E t hx hE ht; simp only [go_sem] at ht; subst ht; simp only [go_sem]; try dsimp only at hx))
  case hi => exact ⟨Nat.zero_le _, fun i hi => absurd hi (by omega)⟩
  case h0 => (focus (refine ⟨_, _, Gh.refl, [0, 1], rfl, ?_⟩; (refine fitq ?_ ?_ ?_ <;> try exact trivial); (try any_goals (refine ⟨?_, ?_⟩)); (try any_goals (with_reducible rfl)))); (all_goals (repeat' (first | (refine And.intro ?_ ?_) | rfl | trace_state)))
  case LH1 =>
    obtain ⟨hk0, hlt⟩ := hx
    have hw : IntKind.i64.wrap ((k : Int) + 1) = ((k + 1 : Nat) : Int) := by rw [wrap_i64 _ (by omega) (by omega)]; omega
    by_cases hk : k < L.length
    · have hkd : decide ((k : Int) < L.length) = true := decide_eq_true (by omega)
      by_cases c : id ≤ (L.getD k Prg.zero).id
      · have cd : decide (id ≤ (L.getD k Prg.zero).id) = true := decide_eq_true c
        have hf : fnI L id = k := tw_at hk0 hlt fun _ => decide_eq_false (by omega)
        have hb : fnB L id = decide ((L.getD k Prg.zero).id = id) := by unfold fnB; rw [hf, decide_eq_true hk, Bool.true_and]
        (have zx1 := @hkd; have zx2 := @hw; have zx3 := @cd; all_goals (try ((first | (with_reducible refine wp_id ?_) | (with_reducible refine does_id ?_) | (with_reducible refine ops_id ?_)); refine walk ?_; (repeat' (first | exact trivial | with_reducible refine And.intro ?_ ?_)); all_goals (repeat (first | (with_reducible refine ImpB.mk fun hb => ?_) | (with_reducible refine ImpK.mk fun hK => ?_) | (with_reducible refine ImpF.mk fun hF => ?_) | (with_reducible refine ImpQ.mk fun hp => ?_) | (with_reducible refine AllE.mk fun p => ?_) | (with_reducible refine AllR.mk fun rest => ?_) | (with_reducible refine AllK.mk fun K => ?_))))); repeat' (with_reducible refine And.intro ?_ ?_))
        all_goals first | exact Int.natCast_nonneg _ | omega | skip
        rw [hf, hb]
        (focus (refine ⟨_, _, gh_close (t := 0) (ts := [1]) (l := EN now L) ⟨⟨_, _, rfl⟩, ?_, by simp⟩, [0], rfl, ?_⟩; all_goals (refine fitq ?_ ?_ ?_ <;> try exact trivial); (try any_goals (refine ⟨?_, ?_⟩)); (try any_goals (with_reducible rfl))))
        all_goals (repeat' (first | (refine And.intro ?_ ?_) | rfl | trace_state))
      · have cd : decide (id ≤ (L.getD k Prg.zero).id) = false := decide_eq_false c
        (have zx1 := @hkd; have zx2 := @hw; have zx3 := @cd; all_goals (try ((first | (with_reducible refine wp_id ?_) | (with_reducible refine does_id ?_) | (with_reducible refine ops_id ?_)); refine walk ?_; (repeat' (first | exact trivial | with_reducible refine And.intro ?_ ?_)); all_goals (repeat (first | (with_reducible refine ImpB.mk fun hb => ?_) | (with_reducible refine ImpK.mk fun hK => ?_) | (with_reducible refine ImpF.mk fun hF => ?_) | (with_reducible refine ImpQ.mk fun hp => ?_) | (with_reducible refine AllE.mk fun p => ?_) | (with_reducible refine AllR.mk fun rest => ?_) | (with_reducible refine AllK.mk fun K => ?_))))); repeat' (with_reducible refine And.intro ?_ ?_))
        all_goals first | exact Int.natCast_nonneg _ | omega | skip
        refine ⟨k + 1, ⟨⟨by first | omega | (dsimp only; omega), fun i hi => ?_⟩, by first | omega | (dsimp only; omega)⟩, ?_⟩
        · by_cases e : i = k
          · rw [e]; exact decide_eq_true (by omega)
          · exact hlt i (by omega)
        (focus (refine ⟨_, _, Gh.refl, [0, 1], rfl, ?_⟩; (refine fitq ?_ ?_ ?_ <;> try exact trivial); (try any_goals (refine ⟨?_, ?_⟩)); (try any_goals (with_reducible rfl))))
        all_goals (repeat' (first | (refine And.intro ?_ ?_) | rfl | trace_state))
    · have hkd : decide ((k : Int) < L.length) = false := decide_eq_false (by omega)
      obtain rfl : k = L.length := by omega
      have hf : fnI L id = L.length := tw_at hk0 hlt fun h => absurd h (Nat.lt_irrefl _)
      have hb : fnB L id = false := by unfold fnB; rw [hf, decide_eq_false (Nat.lt_irrefl _), Bool.false_and]
      (have zx1 := @hkd; all_goals (try ((first | (with_reducible refine wp_id ?_) | (with_reducible refine does_id ?_) | (with_reducible refine ops_id ?_)); refine walk ?_; (repeat' (first | exact trivial | with_reducible refine And.intro ?_ ?_)); all_goals (repeat (first | (with_reducible refine ImpB.mk fun hb => ?_) | (with_reducible refine ImpK.mk fun hK => ?_) | (with_reducible refine ImpF.mk fun hF => ?_) | (with_reducible refine ImpQ.mk fun hp => ?_) | (with_reducible refine AllE.mk fun p => ?_) | (with_reducible refine AllR.mk fun rest => ?_) | (with_reducible refine AllK.mk fun K => ?_))))); repeat' (with_reducible refine And.intro ?_ ?_))
      rw [hf, hb]
      (focus (refine ⟨_, _, gh_close (t := 0) (ts := [1]) (l := EN now L) ⟨⟨_, _, rfl⟩, ?_, by simp⟩, [0], rfl, ?_⟩; all_goals (refine fitq ?_ ?_ ?_ <;> try exact trivial); (try any_goals (refine ⟨?_, ?_⟩)); (try any_goals (with_reducible rfl))))
      all_goals (repeat' (first | (refine And.intro ?_ ?_) | rfl | trace_state))
theorem c_eFind {h : List Ch} {K : KT} {u : Nat} {now : Int} {L : List Prg} {id : Int} (H : K (.tup [.int .i64 (fnI L id), .bool (fnB L id)]) h) (o : hth h u = .pack (EN now L)) (s1 : L.length ≤ 1000000) : Does Try.prog 29 [.ptr u 0, .int .i64 id] h K :=
  frame_look (b_eFind now L id s1) o (by simp) (fitC_pack _) (br_cons (br_ptr rfl) (br_cons br_int br_nil)) (.inl rfl) (fun _ => rfl) rfl H
abbrev i_eFind := Ctr.mk (i := 0) (g := 29) @c_eFind
attribute [instance] i_eFind
/-- the numbers of those that run -/
def rnQ (L : List Prg) : List Int := (L.filter fun x => x.run).map fun x => x.id
theorem rn_next {L : List Prg} {k : Nat} (hk : k < L.length) : rnQ (L.take (k + 1)) = if (L.getD k Prg.zero).run then rnQ (L.take k) ++ [(L.getD k Prg.zero).id] else rnQ (L.take k) := by
  unfold rnQ
  rw [getT (z := Prg.zero) hk, List.filter_append, List.map_append, List.filter_cons, List.filter_nil]
  split
  · rfl
  · exact List.append_nil _
theorem rn_le {L : List Prg} {k : Nat} : (rnQ (L.take k)).length ≤ k := by
  unfold rnQ
  have := List.length_filter_le (fun x : Prg => x.run) (L.take k)
  rw [List.length_take] at this
  rw [List.length_map]
  omega
theorem b_eRun (now : Int) (L : List Prg) (hL : L.length ≤ 1000000) : DoesK Try.prog 1 16 [.ptr 0 0] [.pack (EN now L)] (EndF 1 (.ro .int (rnQ L)) ([.pack (EN now L)] ++ [])) := by
  refine DoesK.close ?_
  refine w_body (rs := [.tmp 2]) (tm := [.ptr 0 0, .any, .any, .any, .any, .any, .any, .any, .any, .any, .any, .any, .any, .any, .any, .any, .any, .any, .any, .any, .any, .any, .any, .any, .any, .any, .any, .any, .any, .any, .any, .any, .any, .any, .any, .any, .any]) fn_16 rfl rfl rfl rfl fun R hR => ?_
  (all_goals (try ((first | (with_reducible refine wp_id ?_) | (with_reducible refine does_id ?_) | (with_reducible refine ops_id ?_)); refine walk ?_; (repeat' (first | exact trivial | with_reducible refine And.intro ?_ ?_)); all_goals (repeat (first | (with_reducible refine ImpB.mk fun hb => ?_) | (with_reducible refine ImpK.mk fun hK => ?_) | (with_reducible refine ImpF.mk fun hF => ?_) | (with_reducible refine ImpQ.mk fun hp => ?_) | (with_reducible refine AllE.mk fun p => ?_) | (with_reducible refine AllR.mk fun rest => ?_) | (with_reducible refine AllK.mk fun K => ?_))))); repeat' (with_reducible refine And.intro ?_ ?_))
  refine Wp.ghost (gh_adopt (s := 3) .int trivial) ?_
  simp only [go_sem, decide_true, decide_false, Int.reduceToNat, Nat.min_eq_left, Nat.min_eq_right, Int.reducePow, Nat.reducePow, Int.reduceLE, Int.reduceLT, Int.reduceMul, Int.reduceAdd, Int.reduceSub, Int.reduceNeg, Bool.not_true, Bool.not_false, Bool.not_not, ↓reduceIte, Nat.reduceAdd, Nat.reduceSub, Nat.reduceMul, Nat.reduceEqDiff, reduceCtorEq, Nat.reduceLT, Nat.reduceLeDiff, Nat.reduceGT]
  any_goals ((try (refine w_seq fun K hK => ?_)); (try (refine w_block ?_)); refine w_loop (A := Nat) (fun k => k ≤ L.length) (fun k => L.length - k) (fun k => [(3, .sl 2 .int 0 (rnQ (L.take k)).length), (13, .int .i64 k)]) (fun k => [(2, .rows .int (rnQ (L.take k)))]) (0) (ws := ?ws2) (tk := ?tk2) ?hw2 ?ht2 ?hi ?h0 ?LH2; (case hw2 => simp only [go_sem, decide_true, decide_false, Int.reduceToNat, Nat.min_eq_left, Nat.min_eq_right, Int.reducePow, Nat.reducePow, Int.reduceLE, Int.reduceLT, Int.reduceMul, Int.reduceAdd, Int.reduceSub, Int.reduceNeg, Bool.not_true, Bool.not_false, Bool.not_not, ↓reduceIte, Nat.reduceAdd, Nat.reduceSub, Nat.reduceMul, Nat.reduceEqDiff, reduceCtorEq, Nat.reduceLT, Nat.reduceLeDiff, Nat.reduceGT]; exact rfl); (case ht2 => simp only [go_sem, decide_true, decide_false, Int.reduceToNat, Nat.min_eq_left, Nat.min_eq_right, Int.reducePow, Nat.reducePow, Int.reduceLE, Int.reduceLT, Int.reduceMul, Int.reduceAdd, Int.reduceSub, Int.reduceNeg, Bool.not_true, Bool.not_false, Bool.not_not, ↓reduceIte, Nat.reduceAdd, Nat.reduceSub, Nat.reduceMul, Nat.reduceEqDiff, reduceCtorEq, Nat.reduceLT, Nat.reduceLeDiff, Nat.reduceGT]; exact rfl); (case' LH2 => rintro k E t hx hE ht; simp only [go_sem] at ht; subst ht; simp only [go_sem]; try dsimp only at hx))
  case hi => exact Nat.zero_le _
  case h0 => (focus (refine ⟨_, _, Gh.refl, [0, 1, 2], rfl, ?_⟩; (refine fitq ?_ ?_ ?_ <;> try exact trivial); (try any_goals (refine ⟨?_, ?_⟩)); (try any_goals (with_reducible rfl)))); (all_goals (repeat' (first | (refine And.intro ?_ ?_) | rfl | trace_state)))
  case LH2 =>
    have hk0 : k ≤ L.length := hx
    have hle := rn_le (L := L) (k := k)
    have hw : IntKind.i64.wrap ((k : Int) + 1) = ((k + 1 : Nat) : Int) := by rw [wrap_i64 _ (by omega) (by omega)]; omega
    by_cases hk : k < L.length
    · have hkd : decide ((k : Int) < L.length) = true := decide_eq_true (by omega)
      have hn := rn_next hk
      cases c : (L.getD k Prg.zero).run
      · rw [c, if_neg (by decide)] at hn
        (have zx1 := @hkd; have zx2 := @hw; have zx3 := @c; all_goals (try ((first | (with_reducible refine wp_id ?_) | (with_reducible refine does_id ?_) | (with_reducible refine ops_id ?_)); refine walk ?_; (repeat' (first | exact trivial | with_reducible refine And.intro ?_ ?_)); all_goals (repeat (first | (with_reducible refine ImpB.mk fun hb => ?_) | (with_reducible refine ImpK.mk fun hK => ?_) | (with_reducible refine ImpF.mk fun hF => ?_) | (with_reducible refine ImpQ.mk fun hp => ?_) | (with_reducible refine AllE.mk fun p => ?_) | (with_reducible refine AllR.mk fun rest => ?_) | (with_reducible refine AllK.mk fun K => ?_))))); repeat' (with_reducible refine And.intro ?_ ?_))
        all_goals first | exact Int.natCast_nonneg _ | omega | skip
        refine ⟨k + 1, ⟨by first | omega | (dsimp only; omega), by first | omega | (dsimp only; omega)⟩, ?_⟩
        dsimp only
        rw [hn]
        (focus (refine ⟨_, _, Gh.refl, [0, 1, 2], rfl, ?_⟩; (refine fitq ?_ ?_ ?_ <;> try exact trivial); (try any_goals (refine ⟨?_, ?_⟩)); (try any_goals (with_reducible rfl))))
        all_goals (repeat' (first | (refine And.intro ?_ ?_) | rfl | trace_state))
      · rw [c, if_pos rfl] at hn
        (have zx1 := @hkd; have zx2 := @hw; have zx3 := @c; all_goals (try ((first | (with_reducible refine wp_id ?_) | (with_reducible refine does_id ?_) | (with_reducible refine ops_id ?_)); refine walk ?_; (repeat' (first | exact trivial | with_reducible refine And.intro ?_ ?_)); all_goals (repeat (first | (with_reducible refine ImpB.mk fun hb => ?_) | (with_reducible refine ImpK.mk fun hK => ?_) | (with_reducible refine ImpF.mk fun hF => ?_) | (with_reducible refine ImpQ.mk fun hp => ?_) | (with_reducible refine AllE.mk fun p => ?_) | (with_reducible refine AllR.mk fun rest => ?_) | (with_reducible refine AllK.mk fun K => ?_))))); repeat' (with_reducible refine And.intro ?_ ?_))
        all_goals first | exact Int.natCast_nonneg _ | omega | skip
        refine ⟨k + 1, ⟨by first | omega | (dsimp only; omega), by first | omega | (dsimp only; omega)⟩, ?_⟩
        dsimp only
        rw [hn]
        (focus (refine ⟨_, _, Gh.refl, [0, 1, 4], rfl, ?_⟩; (refine fitq ?_ ?_ ?_ <;> try exact trivial); (try any_goals (refine ⟨?_, ?_⟩)); (try any_goals (with_reducible rfl))))
        all_goals (repeat' (first | (refine And.intro ?_ ?_) | rfl | (simp only [List.length_append, List.length_cons, List.length_nil]; done) | trace_state))
    · have hkd : decide ((k : Int) < L.length) = false := decide_eq_false (by omega)
      obtain rfl : k = L.length := by omega
      rw [List.take_of_length_le (Nat.le_refl _)]
      (have zx1 := @hkd; all_goals (try ((first | (with_reducible refine wp_id ?_) | (with_reducible refine does_id ?_) | (with_reducible refine ops_id ?_)); refine walk ?_; (repeat' (first | exact trivial | with_reducible refine And.intro ?_ ?_)); all_goals (repeat (first | (with_reducible refine ImpB.mk fun hb => ?_) | (with_reducible refine ImpK.mk fun hK => ?_) | (with_reducible refine ImpF.mk fun hF => ?_) | (with_reducible refine ImpQ.mk fun hp => ?_) | (with_reducible refine AllE.mk fun p => ?_) | (with_reducible refine AllR.mk fun rest => ?_) | (with_reducible refine AllK.mk fun K => ?_))))); repeat' (with_reducible refine And.intro ?_ ?_))
      refine ⟨_, _, (gh_frz (t := 2) (e := .int) (xs := rnQ L) rfl ?f1 ?f2).trans (gh_close (t := 0) (ts := [1]) (l := EN now L) ⟨⟨_, _, rfl⟩, ?fc, by simp⟩), [0], rfl, ?ft⟩
      case' ft => (refine fitq ?_ ?_ ?_ <;> try exact trivial)
      case' fc => simp only [go_sem, decide_true, decide_false, Int.reduceToNat, Nat.min_eq_left, Nat.min_eq_right, Int.reducePow, Nat.reducePow, Int.reduceLE, Int.reduceLT, Int.reduceMul, Int.reduceAdd, Int.reduceSub, Int.reduceNeg, Bool.not_true, Bool.not_false, Bool.not_not, ↓reduceIte, Nat.reduceAdd, Nat.reduceSub, Nat.reduceMul, Nat.reduceEqDiff, reduceCtorEq, Nat.reduceLT, Nat.reduceLeDiff, Nat.reduceGT]
      case' f1 => simp only [go_sem, decide_true, decide_false, Int.reduceToNat, Nat.min_eq_left, Nat.min_eq_right, Int.reducePow, Nat.reducePow, Int.reduceLE, Int.reduceLT, Int.reduceMul, Int.reduceAdd, Int.reduceSub, Int.reduceNeg, Bool.not_true, Bool.not_false, Bool.not_not, ↓reduceIte, Nat.reduceAdd, Nat.reduceSub, Nat.reduceMul, Nat.reduceEqDiff, reduceCtorEq, Nat.reduceLT, Nat.reduceLeDiff, Nat.reduceGT]
      case' f2 => simp only [go_sem, decide_true, decide_false, Int.reduceToNat, Nat.min_eq_left, Nat.min_eq_right, Int.reducePow, Nat.reducePow, Int.reduceLE, Int.reduceLT, Int.reduceMul, Int.reduceAdd, Int.reduceSub, Int.reduceNeg, Bool.not_true, Bool.not_false, Bool.not_not, ↓reduceIte, Nat.reduceAdd, Nat.reduceSub, Nat.reduceMul, Nat.reduceEqDiff, reduceCtorEq, Nat.reduceLT, Nat.reduceLeDiff, Nat.reduceGT]
      all_goals first | exact Nat.le_refl _ | exact ⟨Nat.le_refl _, False.elim⟩ | exact False.elim | (repeat' (first | (refine And.intro ?_ ?_) | rfl)) | trace_state
theorem c_eRun {h : List Ch} {K : KT} {u : Nat} {now : Int} {L : List Prg} (H : K (.ro .int (rnQ L)) h) (o : hth h u = .pack (EN now L)) (s1 : L.length ≤ 1000000) : Does Try.prog 16 [.ptr u 0] h K :=
  frame_look (b_eRun now L s1) o (by simp) (fitC_pack _) (br_cons (br_ptr rfl) br_nil) (.inl rfl) (fun _ => rfl) rfl H
end Go.V

set_option maxRecDepth 100000
set_option maxHeartbeats 8000000
namespace Go.V
open Go.Proofs
abbrev atP (L : List Prg) (id : Int) : Prg := L.getD (fnI L id) Prg.zero
theorem fn_lt {L : List Prg} {id : Int} (h : fnB L id = true) : fnI L id < L.length := by
  unfold fnB at h
  rw [Bool.and_eq_true] at h
  exact of_decide_eq_true h.1
/-- a resource is in use -/
def bzQ (L : List Prg) (r : Int) : Bool := L.any fun x => x.run && decide (¬ bitsI .and .i64 x.res r = 0)
/-- Start: the answer, and what is left -/
def srQ (L : List Prg) (id : Int) : Int × List Prg :=
  if fnB L id then (if (atP L id).run then (12, L) else if bzQ L (atP L id).res then (15, L) else (0, L.set (fnI L id) { atP L id with run := true, pos := 0, wt := false })) else (8, L)
theorem b_eStart (now : Int) (L : List Prg) (id n : Int) (hL : L.length ≤ 1000000) : DoesK Try.prog 1 13 [.ptr 0 0, .int .i64 id, .int .i64 n] [.pack (EN now L)] (EndF 1 (.int .i64 (srQ L id).1) ([.pack (EN (atQ now n) (srQ L id).2)] ++ [])) := by
  refine DoesK.close ?_
  obtain ⟨N, hN⟩ : ∃ N, atQ now n = N := ⟨_, rfl⟩
  rw [hN]
  unfold srQ
  cases hb1 : fnB L id
  · rw [if_neg (by decide)]
    refine w_body (rs := [.tmp 6]) (tm := [.ptr 0 0, .int .i64 id, .int .i64 n, .any, .any, .any, .any, .any, .any, .any, .any, .any, .any, .any, .any, .any, .any, .any, .any, .any, .any, .any, .any, .any, .any, .any, .any, .any, .any, .any, .any, .any, .any, .any, .any, .any, .any, .any, .any, .any, .any, .any, .any, .any, .any, .any, .any, .any, .any, .any, .any, .any, .any, .any, .any, .any, .any, .any, .any, .any, .any, .any, .any, .any, .any, .any, .any, .any, .any, .any, .any, .any, .any, .any, .any, .any, .any]) fn_13 rfl rfl rfl rfl fun R hR => ?_
    (have zx1 := @hN; have zx2 := @hb1; all_goals (try ((first | (with_reducible refine wp_id ?_) | (with_reducible refine does_id ?_) | (with_reducible refine ops_id ?_)); refine walk ?_; (repeat' (first | exact trivial | with_reducible refine And.intro ?_ ?_)); all_goals (repeat (first | (with_reducible refine ImpB.mk fun hb => ?_) | (with_reducible refine ImpK.mk fun hK => ?_) | (with_reducible refine ImpF.mk fun hF => ?_) | (with_reducible refine ImpQ.mk fun hp => ?_) | (with_reducible refine AllE.mk fun p => ?_) | (with_reducible refine AllR.mk fun rest => ?_) | (with_reducible refine AllK.mk fun K => ?_))))); repeat' (with_reducible refine And.intro ?_ ?_))
    all_goals first | omega | skip
    (focus (refine ⟨_, _, Gh.refl, [0], rfl, ?_⟩; (refine fitq ?_ ?_ ?_ <;> try exact trivial); (try any_goals (refine ⟨?_, ?_⟩)); (try any_goals (with_reducible rfl))))
    all_goals (repeat' (first | (refine And.intro ?_ ?_) | rfl | trace_state))
  · rw [if_pos rfl]
    have hlt := fn_lt hb1
    unfold atP
    obtain ⟨i, hi⟩ : ∃ i, fnI L id = i := ⟨_, rfl⟩
    rw [hi] at hlt ⊢
    obtain ⟨x, hxe⟩ : ∃ x, L.getD i Prg.zero = x := ⟨_, rfl⟩
    rw [hxe]
    cases hr : x.run
    · rw [if_neg (by decide)]
      refine w_body (rs := [.tmp 6]) (tm := [.ptr 0 0, .int .i64 id, .int .i64 n, .any, .any, .any, .any, .any, .any, .any, .any, .any, .any, .any, .any, .any, .any, .any, .any, .any, .any, .any, .any, .any, .any, .any, .any, .any, .any, .any, .any, .any, .any, .any, .any, .any, .any, .any, .any, .any, .any, .any, .any, .any, .any, .any, .any, .any, .any, .any, .any, .any, .any, .any, .any, .any, .any, .any, .any, .any, .any, .any, .any, .any, .any, .any, .any, .any, .any, .any, .any, .any, .any, .any, .any, .any, .any]) fn_13 rfl rfl rfl rfl fun R hR => ?_
      (have zx1 := @hN; have zx2 := @hb1; have zx3 := @hi; have zx4 := @hxe; have zx5 := @hr; all_goals (try ((first | (with_reducible refine wp_id ?_) | (with_reducible refine does_id ?_) | (with_reducible refine ops_id ?_)); refine walk ?_; (repeat' (first | exact trivial | with_reducible refine And.intro ?_ ?_)); all_goals (repeat (first | (with_reducible refine ImpB.mk fun hb => ?_) | (with_reducible refine ImpK.mk fun hK => ?_) | (with_reducible refine ImpF.mk fun hF => ?_) | (with_reducible refine ImpQ.mk fun hp => ?_) | (with_reducible refine AllE.mk fun p => ?_) | (with_reducible refine AllR.mk fun rest => ?_) | (with_reducible refine AllK.mk fun K => ?_))))); repeat' (with_reducible refine And.intro ?_ ?_))
      all_goals first | exact Int.natCast_nonneg _ | omega | skip
      any_goals ((try (refine w_seq fun K hK => ?_)); (try (refine w_block ?_)); refine w_loop (A := Nat) (fun k => k ≤ L.length ∧ bzQ (L.take k) x.res = false) (fun k => L.length - k) (fun k => [(40, .int .i64 k)]) (fun _ => []) (0) (ws := ?ws1) (tk := ?tk1) ?hw1 ?ht1 ?hi ?h0 ?LH1; (case hw1 => simp only [go_sem, decide_true, decide_false, Int.reduceToNat, Nat.min_eq_left, Nat.min_eq_right, Int.reducePow, Nat.reducePow, Int.reduceLE, Int.reduceLT, Int.reduceMul, Int.reduceAdd, Int.reduceSub, Int.reduceNeg, Bool.not_true, Bool.not_false, Bool.not_not, ↓reduceIte, Nat.reduceAdd, Nat.reduceSub, Nat.reduceMul, Nat.reduceEqDiff, reduceCtorEq, Nat.reduceLT, Nat.reduceLeDiff, Nat.reduceGT]; exact rfl); (case ht1 => simp only [go_sem, decide_true, decide_false, Int.reduceToNat, Nat.min_eq_left, Nat.min_eq_right, Int.reducePow, Nat.reducePow, Int.reduceLE, Int.reduceLT, Int.reduceMul, Int.reduceAdd, Int.reduceSub, Int.reduceNeg, Bool.not_true, Bool.not_false, Bool.not_not, ↓reduceIte, Nat.reduceAdd, Nat.reduceSub, Nat.reduceMul, Nat.reduceEqDiff, reduceCtorEq, Nat.reduceLT, Nat.reduceLeDiff, Nat.reduceGT]; exact rfl); (case' LH1 => rintro k E t hx hE ht; simp only [go_sem] at ht; subst ht; simp only [go_sem]; try dsimp only at hx))
      case hi => exact ⟨Nat.zero_le _, rfl⟩
      case h0 => (focus (refine ⟨_, _, Gh.refl, [0, 1], rfl, ?_⟩; (refine fitq ?_ ?_ ?_ <;> try exact trivial); (try any_goals (refine ⟨?_, ?_⟩)); (try any_goals (with_reducible rfl)))); (all_goals (repeat' (first | (refine And.intro ?_ ?_) | rfl | trace_state)))
      case LH1 =>
        obtain ⟨hk0, hno⟩ := hx
        have hw : IntKind.i64.wrap ((k : Int) + 1) = ((k + 1 : Nat) : Int) := by rw [wrap_i64 _ (by omega) (by omega)]; omega
        by_cases hk : k < L.length
        · have hkd : decide ((k : Int) < L.length) = true := decide_eq_true (by omega)
          have hnx : bzQ (L.take (k + 1)) x.res = ((L.getD k Prg.zero).run && decide (¬ bitsI .and .i64 (L.getD k Prg.zero).res x.res = 0)) := by
            unfold bzQ at hno ⊢
            rw [getT (z := Prg.zero) hk, List.any_append, hno, Bool.false_or, List.any_cons, List.any_nil, Bool.or_false]
          obtain ⟨y, hy⟩ : ∃ y, L.getD k Prg.zero = y := ⟨_, rfl⟩
          rw [hy] at hnx
          cases hyr : y.run
          · rw [hyr, Bool.false_and] at hnx
            (have zx1 := @hkd; have zx2 := @hw; have zx3 := @hxe; have zx4 := @hy; have zx5 := @hyr; all_goals (try ((first | (with_reducible refine wp_id ?_) | (with_reducible refine does_id ?_) | (with_reducible refine ops_id ?_)); refine walk ?_; (repeat' (first | exact trivial | with_reducible refine And.intro ?_ ?_)); all_goals (repeat (first | (with_reducible refine ImpB.mk fun hb => ?_) | (with_reducible refine ImpK.mk fun hK => ?_) | (with_reducible refine ImpF.mk fun hF => ?_) | (with_reducible refine ImpQ.mk fun hp => ?_) | (with_reducible refine AllE.mk fun p => ?_) | (with_reducible refine AllR.mk fun rest => ?_) | (with_reducible refine AllK.mk fun K => ?_))))); repeat' (with_reducible refine And.intro ?_ ?_))
            all_goals first | exact Int.natCast_nonneg _ | omega | skip
            refine ⟨k + 1, ⟨⟨by first | omega | (dsimp only; omega), hnx⟩, by first | omega | (dsimp only; omega)⟩, ?_⟩
            (focus (refine ⟨_, _, Gh.refl, [0, 1], rfl, ?_⟩; (refine fitq ?_ ?_ ?_ <;> try exact trivial); (try any_goals (refine ⟨?_, ?_⟩)); (try any_goals (with_reducible rfl))))
            all_goals (repeat' (first | (refine And.intro ?_ ?_) | rfl | trace_state))
          · rw [hyr, Bool.true_and] at hnx
            cases hc : decide (¬ bitsI .and .i64 y.res x.res = 0)
            · rw [hc] at hnx
              (have zx1 := @hkd; have zx2 := @hw; have zx3 := @hxe; have zx4 := @hy; have zx5 := @hyr; have zx6 := @hc; all_goals (try ((first | (with_reducible refine wp_id ?_) | (with_reducible refine does_id ?_) | (with_reducible refine ops_id ?_)); refine walk ?_; (repeat' (first | exact trivial | with_reducible refine And.intro ?_ ?_)); all_goals (repeat (first | (with_reducible refine ImpB.mk fun hb => ?_) | (with_reducible refine ImpK.mk fun hK => ?_) | (with_reducible refine ImpF.mk fun hF => ?_) | (with_reducible refine ImpQ.mk fun hp => ?_) | (with_reducible refine AllE.mk fun p => ?_) | (with_reducible refine AllR.mk fun rest => ?_) | (with_reducible refine AllK.mk fun K => ?_))))); repeat' (with_reducible refine And.intro ?_ ?_))
              all_goals first | exact Int.natCast_nonneg _ | omega | skip
              refine ⟨k + 1, ⟨⟨by first | omega | (dsimp only; omega), hnx⟩, by first | omega | (dsimp only; omega)⟩, ?_⟩
              (focus (refine ⟨_, _, Gh.refl, [0, 1], rfl, ?_⟩; (refine fitq ?_ ?_ ?_ <;> try exact trivial); (try any_goals (refine ⟨?_, ?_⟩)); (try any_goals (with_reducible rfl))))
              all_goals (repeat' (first | (refine And.intro ?_ ?_) | rfl | trace_state))
            · have hbz : bzQ L x.res = true := List.any_eq_true.2 ⟨y, hy ▸ getM hk, by rw [hyr, hc]; rfl⟩
              (have zx1 := @hkd; have zx2 := @hw; have zx3 := @hxe; have zx4 := @hy; have zx5 := @hyr; have zx6 := @hc; all_goals (try ((first | (with_reducible refine wp_id ?_) | (with_reducible refine does_id ?_) | (with_reducible refine ops_id ?_)); refine walk ?_; (repeat' (first | exact trivial | with_reducible refine And.intro ?_ ?_)); all_goals (repeat (first | (with_reducible refine ImpB.mk fun hb => ?_) | (with_reducible refine ImpK.mk fun hK => ?_) | (with_reducible refine ImpF.mk fun hF => ?_) | (with_reducible refine ImpQ.mk fun hp => ?_) | (with_reducible refine AllE.mk fun p => ?_) | (with_reducible refine AllR.mk fun rest => ?_) | (with_reducible refine AllK.mk fun K => ?_))))); repeat' (with_reducible refine And.intro ?_ ?_))
              all_goals first | exact Int.natCast_nonneg _ | omega | skip
              rw [hbz, if_pos rfl]
              (focus (refine ⟨_, _, gh_close (t := 0) (ts := [1]) (l := EN N L) ⟨⟨_, _, rfl⟩, ?_, by simp⟩, [0], rfl, ?_⟩; all_goals (refine fitq ?_ ?_ ?_ <;> try exact trivial); (try any_goals (refine ⟨?_, ?_⟩)); (try any_goals (with_reducible rfl))))
              all_goals (repeat' (first | (refine And.intro ?_ ?_) | rfl | trace_state))
        · have hkd : decide ((k : Int) < L.length) = false := decide_eq_false (by omega)
          obtain rfl : k = L.length := by omega
          rw [List.take_of_length_le (Nat.le_refl _)] at hno
          have hs1 : ∀ a : Prg, (L.set i a).getD i Prg.zero = a := fun a => by rw [List.getD_eq_getElem?_getD, List.getElem?_set_self hlt]; rfl
          have hs2 : ∀ a b : Prg, (L.set i a).set i b = L.set i b := fun a b => List.set_set ..
          (have zx1 := @hkd; have zx2 := @hxe; have zx3 := @hs1; have zx4 := @hs2; all_goals (try ((first | (with_reducible refine wp_id ?_) | (with_reducible refine does_id ?_) | (with_reducible refine ops_id ?_)); refine walk ?_; (repeat' (first | exact trivial | with_reducible refine And.intro ?_ ?_)); all_goals (repeat (first | (with_reducible refine ImpB.mk fun hb => ?_) | (with_reducible refine ImpK.mk fun hK => ?_) | (with_reducible refine ImpF.mk fun hF => ?_) | (with_reducible refine ImpQ.mk fun hp => ?_) | (with_reducible refine AllE.mk fun p => ?_) | (with_reducible refine AllR.mk fun rest => ?_) | (with_reducible refine AllK.mk fun K => ?_))))); repeat' (with_reducible refine And.intro ?_ ?_))
          all_goals first | exact Int.natCast_nonneg _ | (rw [List.length_set]; omega) | omega | skip
          rw [hno, if_neg (by decide)]
          (focus (refine ⟨_, _, gh_close (t := 0) (ts := [1]) (l := EN N (L.set i { x with run := true, pos := 0, wt := false })) ⟨⟨_, _, rfl⟩, ?_, by simp⟩, [0], rfl, ?_⟩; all_goals (refine fitq ?_ ?_ ?_ <;> try exact trivial); (try any_goals (refine ⟨?_, ?_⟩)); (try any_goals (with_reducible rfl))))
          all_goals (repeat' (first | (refine And.intro ?_ ?_) | rfl | trace_state))
    · rw [if_pos rfl]
      refine w_body (rs := [.tmp 6]) (tm := [.ptr 0 0, .int .i64 id, .int .i64 n, .any, .any, .any, .any, .any, .any, .any, .any, .any, .any, .any, .any, .any, .any, .any, .any, .any, .any, .any, .any, .any, .any, .any, .any, .any, .any, .any, .any, .any, .any, .any, .any, .any, .any, .any, .any, .any, .any, .any, .any, .any, .any, .any, .any, .any, .any, .any, .any, .any, .any, .any, .any, .any, .any, .any, .any, .any, .any, .any, .any, .any, .any, .any, .any, .any, .any, .any, .any, .any, .any, .any, .any, .any, .any]) fn_13 rfl rfl rfl rfl fun R hR => ?_
      (have zx1 := @hN; have zx2 := @hb1; have zx3 := @hi; have zx4 := @hxe; have zx5 := @hr; all_goals (try ((first | (with_reducible refine wp_id ?_) | (with_reducible refine does_id ?_) | (with_reducible refine ops_id ?_)); refine walk ?_; (repeat' (first | exact trivial | with_reducible refine And.intro ?_ ?_)); all_goals (repeat (first | (with_reducible refine ImpB.mk fun hb => ?_) | (with_reducible refine ImpK.mk fun hK => ?_) | (with_reducible refine ImpF.mk fun hF => ?_) | (with_reducible refine ImpQ.mk fun hp => ?_) | (with_reducible refine AllE.mk fun p => ?_) | (with_reducible refine AllR.mk fun rest => ?_) | (with_reducible refine AllK.mk fun K => ?_))))); repeat' (with_reducible refine And.intro ?_ ?_))
      all_goals first | exact Int.natCast_nonneg _ | omega | skip
      (focus (refine ⟨_, _, gh_close (t := 0) (ts := [1]) (l := EN N L) ⟨⟨_, _, rfl⟩, ?_, by simp⟩, [0], rfl, ?_⟩; all_goals (refine fitq ?_ ?_ ?_ <;> try exact trivial); (try any_goals (refine ⟨?_, ?_⟩)); (try any_goals (with_reducible rfl))))
      all_goals (repeat' (first | (refine And.intro ?_ ?_) | rfl | trace_state))
theorem c_eStart {h : List Ch} {K : KT} {u : Nat} {now : Int} {L : List Prg} {id n : Int} (H : K (.int .i64 (srQ L id).1) (h.set u (.pack (EN (atQ now n) (srQ L id).2)))) (o : hth h u = .pack (EN now L)) (s1 : L.length ≤ 1000000) : Does Try.prog 13 [.ptr u 0, .int .i64 id, .int .i64 n] h K :=
  frame_obj0 (b_eStart now L id n s1) o (by simp) (fitC_pack _) (br_cons (br_ptr rfl) (br_cons br_int (br_cons br_int br_nil))) (.inl rfl) (fun _ => rfl) rfl H
end Go.V

set_option maxRecDepth 100000
set_option maxHeartbeats 8000000
namespace Go.V
open Go.Proofs
theorem b_qcl_int (xs : List Int) (hl : xs.length ≤ 1099511627776) : DoesK Try.prog 0 83 [.ro .int xs] [] (EndF 0 (.ro .int xs) []) := by
  refine DoesK.close ?_
  refine w_body (rs := [.tmp 2]) (tm := [.ro .int xs, .any, .any, .any, .any, .any, .any, .any]) fn_83 rfl rfl rfl rfl fun R hR => ?_
  (all_goals (try ((first | (with_reducible refine wp_id ?_) | (with_reducible refine does_id ?_) | (with_reducible refine ops_id ?_)); refine walk ?_; (repeat' (first | exact trivial | with_reducible refine And.intro ?_ ?_)); all_goals (repeat (first | (with_reducible refine ImpB.mk fun hb => ?_) | (with_reducible refine ImpK.mk fun hK => ?_) | (with_reducible refine ImpF.mk fun hF => ?_) | (with_reducible refine ImpQ.mk fun hp => ?_) | (with_reducible refine AllE.mk fun p => ?_) | (with_reducible refine AllR.mk fun rest => ?_) | (with_reducible refine AllK.mk fun K => ?_))))); repeat' (with_reducible refine And.intro ?_ ?_))
  (all_goals first | exact Int.natCast_nonneg _ | exact Int.ofNat_lt.2 (by assumption) | assumption | omega | exact Nat.le_refl _ | (exfalso; simp at hb; done) | (simp only [go_sem, decide_true, decide_false, Int.reduceToNat, Nat.min_eq_left, Nat.min_eq_right, Int.reducePow, Nat.reducePow, Int.reduceLE, Int.reduceLT, Int.reduceMul, Int.reduceAdd, Int.reduceSub, Int.reduceNeg, Bool.not_true, Bool.not_false, Bool.not_not, ↓reduceIte, Nat.reduceAdd, Nat.reduceSub, Nat.reduceMul, Nat.reduceEqDiff, reduceCtorEq, Nat.reduceLT, Nat.reduceLeDiff, Nat.reduceGT]; done) | (unfold capM; omega) | (simp only [List.length_drop, List.length_take, List.length_append, List.length_cons, List.length_nil]; omega) | skip)
  · exact ⟨_, rfl⟩
  · (focus (refine ⟨_, _, Gh.refl, [], rfl, ?_⟩; (refine fitq ?_ ?_ ?_ <;> try exact trivial); (try any_goals (refine ⟨?_, ?_⟩)); (try any_goals (with_reducible rfl))))
    all_goals (try exact hb)
  · refine ⟨_, _, gh_frz (t := 1) (e := .int) (xs := xs) rfl ?f1 ?f2, [], rfl, ?ft⟩
    case' ft => (refine fitq ?_ ?_ ?_ <;> try exact trivial)
    case' f1 => simp only [go_sem, decide_true, decide_false, Int.reduceToNat, Nat.min_eq_left, Nat.min_eq_right, Int.reducePow, Nat.reducePow, Int.reduceLE, Int.reduceLT, Int.reduceMul, Int.reduceAdd, Int.reduceSub, Int.reduceNeg, Bool.not_true, Bool.not_false, Bool.not_not, ↓reduceIte, Nat.reduceAdd, Nat.reduceSub, Nat.reduceMul, Nat.reduceEqDiff, reduceCtorEq, Nat.reduceLT, Nat.reduceLeDiff, Nat.reduceGT]
    case' f2 => simp only [go_sem, decide_true, decide_false, Int.reduceToNat, Nat.min_eq_left, Nat.min_eq_right, Int.reducePow, Nat.reducePow, Int.reduceLE, Int.reduceLT, Int.reduceMul, Int.reduceAdd, Int.reduceSub, Int.reduceNeg, Bool.not_true, Bool.not_false, Bool.not_not, ↓reduceIte, Nat.reduceAdd, Nat.reduceSub, Nat.reduceMul, Nat.reduceEqDiff, reduceCtorEq, Nat.reduceLT, Nat.reduceLeDiff, Nat.reduceGT]
    all_goals first | exact Nat.le_refl _ | simp
theorem c_qcl_int {h : List Ch} {K : KT} {xs : List Int} {a : AV} (H : K (.ro .int xs) h) (q1 : isRO .int xs a) (s1 : xs.length ≤ 1099511627776) : Does Try.prog 83 [a] h K :=
  frame_pure (b_qcl_int xs s1) (br_cons q1.br br_nil) (.inl (by rw [brTL, q1.brT]; rfl)) (fun _ => rfl) H
abbrev i_qcl_int := Ctr.mk (i := 0) (g := 83) @c_qcl_int
attribute [instance] i_qcl_int
theorem b_qcl_byte (xs : List UInt8) (hl : xs.length ≤ 1099511627776) : DoesK Try.prog 0 84 [.ro .byte xs] [] (EndF 0 (.ro .byte xs) []) := by
  refine DoesK.close ?_
  refine w_body (rs := [.tmp 2]) (tm := [.ro .byte xs, .any, .any, .any, .any, .any, .any, .any]) fn_84 rfl rfl rfl rfl fun R hR => ?_
  (all_goals (try ((first | (with_reducible refine wp_id ?_) | (with_reducible refine does_id ?_) | (with_reducible refine ops_id ?_)); refine walk ?_; (repeat' (first | exact trivial | with_reducible refine And.intro ?_ ?_)); all_goals (repeat (first | (with_reducible refine ImpB.mk fun hb => ?_) | (with_reducible refine ImpK.mk fun hK => ?_) | (with_reducible refine ImpF.mk fun hF => ?_) | (with_reducible refine ImpQ.mk fun hp => ?_) | (with_reducible refine AllE.mk fun p => ?_) | (with_reducible refine AllR.mk fun rest => ?_) | (with_reducible refine AllK.mk fun K => ?_))))); repeat' (with_reducible refine And.intro ?_ ?_))
  (all_goals first | exact Int.natCast_nonneg _ | exact Int.ofNat_lt.2 (by assumption) | assumption | omega | exact Nat.le_refl _ | (exfalso; simp at hb; done) | (simp only [go_sem, decide_true, decide_false, Int.reduceToNat, Nat.min_eq_left, Nat.min_eq_right, Int.reducePow, Nat.reducePow, Int.reduceLE, Int.reduceLT, Int.reduceMul, Int.reduceAdd, Int.reduceSub, Int.reduceNeg, Bool.not_true, Bool.not_false, Bool.not_not, ↓reduceIte, Nat.reduceAdd, Nat.reduceSub, Nat.reduceMul, Nat.reduceEqDiff, reduceCtorEq, Nat.reduceLT, Nat.reduceLeDiff, Nat.reduceGT]; done) | (unfold capM; omega) | (simp only [List.length_drop, List.length_take, List.length_append, List.length_cons, List.length_nil]; omega) | skip)
  · exact ⟨_, rfl⟩
  · (focus (refine ⟨_, _, Gh.refl, [], rfl, ?_⟩; (refine fitq ?_ ?_ ?_ <;> try exact trivial); (try any_goals (refine ⟨?_, ?_⟩)); (try any_goals (with_reducible rfl))))
    all_goals (try exact hb)
  · refine ⟨_, _, gh_frz (t := 1) (e := .byte) (xs := xs) rfl ?f1 ?f2, [], rfl, ?ft⟩
    case' ft => (refine fitq ?_ ?_ ?_ <;> try exact trivial)
    case' f1 => simp only [go_sem, decide_true, decide_false, Int.reduceToNat, Nat.min_eq_left, Nat.min_eq_right, Int.reducePow, Nat.reducePow, Int.reduceLE, Int.reduceLT, Int.reduceMul, Int.reduceAdd, Int.reduceSub, Int.reduceNeg, Bool.not_true, Bool.not_false, Bool.not_not, ↓reduceIte, Nat.reduceAdd, Nat.reduceSub, Nat.reduceMul, Nat.reduceEqDiff, reduceCtorEq, Nat.reduceLT, Nat.reduceLeDiff, Nat.reduceGT]
    case' f2 => simp only [go_sem, decide_true, decide_false, Int.reduceToNat, Nat.min_eq_left, Nat.min_eq_right, Int.reducePow, Nat.reducePow, Int.reduceLE, Int.reduceLT, Int.reduceMul, Int.reduceAdd, Int.reduceSub, Int.reduceNeg, Bool.not_true, Bool.not_false, Bool.not_not, ↓reduceIte, Nat.reduceAdd, Nat.reduceSub, Nat.reduceMul, Nat.reduceEqDiff, reduceCtorEq, Nat.reduceLT, Nat.reduceLeDiff, Nat.reduceGT]
    all_goals first | exact Nat.le_refl _ | simp
theorem c_qcl_byte {h : List Ch} {K : KT} {xs : List UInt8} {a : AV} (H : K (.ro .byte xs) h) (q1 : isRO .byte xs a) (s1 : xs.length ≤ 1099511627776) : Does Try.prog 84 [a] h K :=
  frame_pure (b_qcl_byte xs s1) (br_cons q1.br br_nil) (.inl (by rw [brTL, q1.brT]; rfl)) (fun _ => rfl) H
abbrev i_qcl_byte := Ctr.mk (i := 0) (g := 84) @c_qcl_byte
attribute [instance] i_qcl_byte
theorem b_qclS (xs : List Stp) (hl : xs.length ≤ 1000000) : DoesK Try.prog 0 55 [.ro .stp xs] [] (EndF 0 (.sl 0 .stp 0 xs.length) [.rows .stp xs]) := by
  refine DoesK.close ?_
  refine w_body (rs := [.tmp 2]) (tm := [.ro .stp xs, .any, .any, .any, .any, .any, .any, .any]) fn_55 rfl rfl rfl rfl fun R hR => ?_
  (all_goals (try ((first | (with_reducible refine wp_id ?_) | (with_reducible refine does_id ?_) | (with_reducible refine ops_id ?_)); refine walk ?_; (repeat' (first | exact trivial | with_reducible refine And.intro ?_ ?_)); all_goals (repeat (first | (with_reducible refine ImpB.mk fun hb => ?_) | (with_reducible refine ImpK.mk fun hK => ?_) | (with_reducible refine ImpF.mk fun hF => ?_) | (with_reducible refine ImpQ.mk fun hp => ?_) | (with_reducible refine AllE.mk fun p => ?_) | (with_reducible refine AllR.mk fun rest => ?_) | (with_reducible refine AllK.mk fun K => ?_))))); repeat' (with_reducible refine And.intro ?_ ?_))
  (all_goals first | exact Int.natCast_nonneg _ | exact Int.ofNat_lt.2 (by assumption) | assumption | omega | exact Nat.le_refl _ | (exfalso; simp at hb; done) | (simp only [go_sem, decide_true, decide_false, Int.reduceToNat, Nat.min_eq_left, Nat.min_eq_right, Int.reducePow, Nat.reducePow, Int.reduceLE, Int.reduceLT, Int.reduceMul, Int.reduceAdd, Int.reduceSub, Int.reduceNeg, Bool.not_true, Bool.not_false, Bool.not_not, ↓reduceIte, Nat.reduceAdd, Nat.reduceSub, Nat.reduceMul, Nat.reduceEqDiff, reduceCtorEq, Nat.reduceLT, Nat.reduceLeDiff, Nat.reduceGT]; done) | (unfold capM; omega) | (simp only [List.length_drop, List.length_take, List.length_append, List.length_cons, List.length_nil]; omega) | skip)
  · exact ⟨_, rfl⟩
  · subst hb
    refine ⟨_, _, gh_adopt (s := 0) .stp trivial, [0], rfl, ?ft⟩
    case' ft => (refine fitq ?_ ?_ ?_ <;> try exact trivial)
    all_goals rfl
  · (focus (refine ⟨_, _, Gh.refl, [1], rfl, ?_⟩; (refine fitq ?_ ?_ ?_ <;> try exact trivial); (try any_goals (refine ⟨?_, ?_⟩)); (try any_goals (with_reducible rfl))))
theorem c_qclS {h : List Ch} {K : KT} {xs : List Stp} {a : AV} (H : K (.sl h.length .stp 0 xs.length) (h ++ [.rows .stp xs])) (q1 : isRO .stp xs a) (s1 : xs.length ≤ 1000000) : Does Try.prog 55 [a] h K :=
  frame_new (b_qclS xs s1) (br_cons q1.br br_nil) (.inl (by rw [brTL, q1.brT]; rfl)) (fun _ => rfl) (by simp [renA, rhoC]) H
abbrev i_qclS := Ctr.mk (i := 0) (g := 55) @c_qclS
attribute [instance] i_qclS
theorem b_dup (c : Cmd) (h1 : c.args.length ≤ 1000000) (h2 : c.data.length ≤ 1000000) : DoesK Try.prog 0 56 [.agg (cmdL c)] [] (EndF 0 (.agg (cmdL c)) []) := by
  refine DoesK.close ?_
  refine w_body (rs := [.cell 2 31]) (tm := [.agg (cmdL c), .any, .any, .any, .any, .any, .any, .any, .any, .any, .any, .any]) fn_56 rfl rfl rfl rfl fun R hR => ?_
  (all_goals (try ((first | (with_reducible refine wp_id ?_) | (with_reducible refine does_id ?_) | (with_reducible refine ops_id ?_)); refine walk ?_; (repeat' (first | exact trivial | with_reducible refine And.intro ?_ ?_)); all_goals (repeat (first | (with_reducible refine ImpB.mk fun hb => ?_) | (with_reducible refine ImpK.mk fun hK => ?_) | (with_reducible refine ImpF.mk fun hF => ?_) | (with_reducible refine ImpQ.mk fun hp => ?_) | (with_reducible refine AllE.mk fun p => ?_) | (with_reducible refine AllR.mk fun rest => ?_) | (with_reducible refine AllK.mk fun K => ?_))))); repeat' (with_reducible refine And.intro ?_ ?_))
  all_goals first | omega | exact .inl rfl | skip
  all_goals (focus (refine ⟨_, _, Gh.refl, [], rfl, ?_⟩; (refine fitq ?_ ?_ ?_ <;> try exact trivial); (try any_goals (refine ⟨?_, ?_⟩)); (try any_goals (with_reducible rfl))))
theorem c_dup {h : List Ch} {K : KT} {x y z : Int} {args : List Int} {data : List UInt8} {a1 a2 : AV} (H : K (.agg [.int .i64 x, .int .i64 y, .int .i64 z, .ro .int args, .ro .byte data]) h) (q1 : isRO .int args a1) (q2 : isRO .byte data a2) (s1 : args.length ≤ 1000000) (s2 : data.length ≤ 1000000) : Does Try.prog 56 [.agg [.int .i64 x, .int .i64 y, .int .i64 z, a1, a2]] h K :=
  frame_pure (b_dup ⟨x, y, z, args, data⟩ s1 s2) (br_cons (br_agg (br_cons br_int (br_cons br_int (br_cons br_int (br_cons q1.br (br_cons q2.br br_nil)))))) br_nil) (.inl (by have t1 := q1.brT; have t2 := q2.brT; simp [brTL, brT] at t1 t2 ⊢; exact ⟨t1, t2⟩)) (fun _ => rfl) H
abbrev i_dup := Ctr.mk (i := 0) (g := 56) @c_dup
attribute [instance] i_dup
/-- commands of a size that can be copied -/
def smQ (l : List Stp) : Prop := l.length ≤ 1000000 ∧ ∀ x ∈ l, x.c.args.length ≤ 1000000 ∧ x.c.data.length ≤ 1000000
theorem set_self {l : List Stp} {k : Nat} (hk : k < l.length) : l.set k (l.getD k Stp.zero) = l := by
  rw [List.getD_eq_getElem?_getD, List.getElem?_eq_getElem hk]
  exact List.set_getElem_self hk
theorem b_copied (l : List Stp) (hs : smQ l) : DoesK Try.prog 0 30 [.ro .stp l] [] (EndF 0 (.ro .stp l) []) := by
  refine DoesK.close ?_
  obtain ⟨hl, hx0⟩ := hs
  refine w_body (rs := [.tmp 2]) (tm := [.ro .stp l, .any, .any, .any, .any, .any, .any, .any, .any, .any, .any, .any, .any, .any, .any, .any, .any, .any, .any, .any, .any, .any, .any, .any]) fn_30 rfl rfl rfl rfl fun R hR => ?_
  (all_goals (try ((first | (with_reducible refine wp_id ?_) | (with_reducible refine does_id ?_) | (with_reducible refine ops_id ?_)); refine walk ?_; (repeat' (first | exact trivial | with_reducible refine And.intro ?_ ?_)); all_goals (repeat (first | (with_reducible refine ImpB.mk fun hb => ?_) | (with_reducible refine ImpK.mk fun hK => ?_) | (with_reducible refine ImpF.mk fun hF => ?_) | (with_reducible refine ImpQ.mk fun hp => ?_) | (with_reducible refine AllE.mk fun p => ?_) | (with_reducible refine AllR.mk fun rest => ?_) | (with_reducible refine AllK.mk fun K => ?_))))); repeat' (with_reducible refine And.intro ?_ ?_))
  all_goals first | omega | skip
  any_goals ((try (refine w_seq fun K hK => ?_)); (try (refine w_block ?_)); refine w_loop (A := Nat) (fun k => k ≤ l.length) (fun k => l.length - k) (fun k => [(3, .sl 0 .stp 0 l.length), (9, .int .i64 k)]) (fun k => [(0, .rows .stp l)]) (0) (ws := ?ws1) (tk := ?tk1) ?hw1 ?ht1 ?hi ?h0 ?LH1; (case hw1 => simp only [go_sem, decide_true, decide_false, Int.reduceToNat, Nat.min_eq_left, Nat.min_eq_right, Int.reducePow, Nat.reducePow, Int.reduceLE, Int.reduceLT, Int.reduceMul, Int.reduceAdd, Int.reduceSub, Int.reduceNeg, Bool.not_true, Bool.not_false, Bool.not_not, ↓reduceIte, Nat.reduceAdd, Nat.reduceSub, Nat.reduceMul, Nat.reduceEqDiff, reduceCtorEq, Nat.reduceLT, Nat.reduceLeDiff, Nat.reduceGT]; exact rfl); (case ht1 => simp only [go_sem, decide_true, decide_false, Int.reduceToNat, Nat.min_eq_left, Nat.min_eq_right, Int.reducePow, Nat.reducePow, Int.reduceLE, Int.reduceLT, Int.reduceMul, Int.reduceAdd, Int.reduceSub, Int.reduceNeg, Bool.not_true, Bool.not_false, Bool.not_not, ↓reduceIte, Nat.reduceAdd, Nat.reduceSub, Nat.reduceMul, Nat.reduceEqDiff, reduceCtorEq, Nat.reduceLT, Nat.reduceLeDiff, Nat.reduceGT]; exact rfl); (case' LH1 => rintro k E t hx hE ht; simp only [go_sem] at ht; subst ht; simp only [go_sem]; try dsimp only at hx))
  case hi => exact Nat.zero_le _
  case h0 => (focus (refine ⟨_, _, Gh.refl, [0], rfl, ?_⟩; (refine fitq ?_ ?_ ?_ <;> try exact trivial); (try any_goals (refine ⟨?_, ?_⟩)); (try any_goals (with_reducible rfl))))
  case LH1 =>
    have hk0 : k ≤ l.length := hx
    have hw : IntKind.i64.wrap ((k : Int) + 1) = ((k + 1 : Nat) : Int) := by rw [wrap_i64 _ (by omega) (by omega)]; omega
    by_cases hk : k < l.length
    · have hkd : decide ((k : Int) < (l.length : Int)) = true := decide_eq_true (by omega)
      have hlx := hx0 _ (gM hk)
      have hss := set_self hk
      obtain ⟨x, hxe⟩ : ∃ x, l.getD k Stp.zero = x := ⟨_, rfl⟩
      rw [hxe] at hlx hss
      (have zx1 := @hkd; have zx2 := @hw; have zx3 := @hxe; all_goals (try ((first | (with_reducible refine wp_id ?_) | (with_reducible refine does_id ?_) | (with_reducible refine ops_id ?_)); refine walk ?_; (repeat' (first | exact trivial | with_reducible refine And.intro ?_ ?_)); all_goals (repeat (first | (with_reducible refine ImpB.mk fun hb => ?_) | (with_reducible refine ImpK.mk fun hK => ?_) | (with_reducible refine ImpF.mk fun hF => ?_) | (with_reducible refine ImpQ.mk fun hp => ?_) | (with_reducible refine AllE.mk fun p => ?_) | (with_reducible refine AllR.mk fun rest => ?_) | (with_reducible refine AllK.mk fun K => ?_))))); repeat' (with_reducible refine And.intro ?_ ?_))
      all_goals first | exact Int.natCast_nonneg _ | omega | exact hlx.1 | exact hlx.2 | exact .inl rfl | skip
      refine ⟨k + 1, ⟨by first | omega | (dsimp only; omega), by first | omega | (dsimp only; omega)⟩, ?_⟩
      (focus (refine ⟨_, _, Gh.refl, [0], rfl, ?_⟩; (refine fitq ?_ ?_ ?_ <;> try exact trivial); (try any_goals (refine ⟨?_, ?_⟩)); (try any_goals (with_reducible rfl))))
      all_goals first | exact hss | exact hss.symm | trace_state
    · have hkd : decide ((k : Int) < (l.length : Int)) = false := decide_eq_false (by omega)
      (have zx1 := @hkd; all_goals (try ((first | (with_reducible refine wp_id ?_) | (with_reducible refine does_id ?_) | (with_reducible refine ops_id ?_)); refine walk ?_; (repeat' (first | exact trivial | with_reducible refine And.intro ?_ ?_)); all_goals (repeat (first | (with_reducible refine ImpB.mk fun hb => ?_) | (with_reducible refine ImpK.mk fun hK => ?_) | (with_reducible refine ImpF.mk fun hF => ?_) | (with_reducible refine ImpQ.mk fun hp => ?_) | (with_reducible refine AllE.mk fun p => ?_) | (with_reducible refine AllR.mk fun rest => ?_) | (with_reducible refine AllK.mk fun K => ?_))))); repeat' (with_reducible refine And.intro ?_ ?_))
      refine ⟨_, _, gh_frz (t := 0) (e := .stp) (xs := l) rfl ?f1 ?f2, [], rfl, ?ft⟩
      case' ft => (refine fitq ?_ ?_ ?_ <;> try exact trivial)
      case' f1 => simp only [go_sem, decide_true, decide_false, Int.reduceToNat, Nat.min_eq_left, Nat.min_eq_right, Int.reducePow, Nat.reducePow, Int.reduceLE, Int.reduceLT, Int.reduceMul, Int.reduceAdd, Int.reduceSub, Int.reduceNeg, Bool.not_true, Bool.not_false, Bool.not_not, ↓reduceIte, Nat.reduceAdd, Nat.reduceSub, Nat.reduceMul, Nat.reduceEqDiff, reduceCtorEq, Nat.reduceLT, Nat.reduceLeDiff, Nat.reduceGT]
      case' f2 => simp only [go_sem, decide_true, decide_false, Int.reduceToNat, Nat.min_eq_left, Nat.min_eq_right, Int.reducePow, Nat.reducePow, Int.reduceLE, Int.reduceLT, Int.reduceMul, Int.reduceAdd, Int.reduceSub, Int.reduceNeg, Bool.not_true, Bool.not_false, Bool.not_not, ↓reduceIte, Nat.reduceAdd, Nat.reduceSub, Nat.reduceMul, Nat.reduceEqDiff, reduceCtorEq, Nat.reduceLT, Nat.reduceLeDiff, Nat.reduceGT]
      all_goals first | exact Nat.le_refl _ | exact ⟨Nat.le_refl _, False.elim⟩ | exact False.elim | simp
theorem c_copied {h : List Ch} {K : KT} {l : List Stp} {a : AV} (H : K (.ro .stp l) h) (q1 : isRO .stp l a) (s1 : smQ l) : Does Try.prog 30 [a] h K :=
  frame_pure (b_copied l s1) (br_cons q1.br br_nil) (.inl (by rw [brTL, q1.brT]; rfl)) (fun _ => rfl) H
abbrev i_copied := Ctr.mk (i := 0) (g := 30) @c_copied
attribute [instance] i_copied
end Go.V
