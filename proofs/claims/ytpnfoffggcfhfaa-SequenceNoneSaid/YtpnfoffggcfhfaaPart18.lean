/-
  At most 16 steps in a tick: plain.
  A nil engine; the law SequenceNone.
  The law SequenceResources.
  The law SequenceBounds.
  From the arguments of a given statement to abstract values: what is read as data lies for good.
-/
import Derived.Test.YtpnfoffggcfhfaaPart17
import Derived.ChangeArms
import Derived.ChangeShapes
import Derived.ChangeReads
import Derived.DataReads
import Derived.Below
set_option linter.unusedVariables false
set_option linter.unusedSimpArgs false
set_option maxRecDepth 100000
namespace Go.V
open Go Go.Proofs
attribute [-go_sem] EN PL Wr
abbrev dS (i : Nat) : Stp := ⟨1, 0, 0, 0, 0, 0, ⟨1, (i : Int), 1, [], []⟩⟩
def pS (n : Nat) : List Stp := (List.range n).map dS
theorem pS_len (n : Nat) : (pS n).length = n := by rw [pS, List.length_map, List.length_range]
theorem pS_at {n p : Nat} (h : p < n) : (pS n).getD p Stp.zero = dS p := by
  rw [pS, List.getD_eq_getElem?_getD, List.getElem?_map, List.getElem?_range h]; rfl
theorem pS_snoc (n : Nat) : pS n ++ [dS n] = pS (n + 1) := by
  rw [pS, pS, List.range_succ, List.map_append]; rfl
theorem pS_mem {n : Nat} {x : Stp} (h : x ∈ pS n) : ∃ i, i < n ∧ x = dS i := by
  rw [pS, List.mem_map] at h
  obtain ⟨i, hi, rfl⟩ := h
  exact ⟨i, List.mem_range.1 hi, rfl⟩
theorem dS_valid {i : Nat} (h : i ≤ 65535) : validC (dS i).c = true := by
  rw [validC_iff]
  refine ⟨(by decide : okS 1 = true), by show (0 : Int) ≤ 1; omega, by show (1 : Int) ≤ 15; omega, by show (0 : Int) ≤ (i : Int); omega, by show (i : Int) ≤ 65535; omega, (by decide : ((([] : List Int).length : Nat) : Int) = argN 1 0), ?_, ?_⟩
  · intro a ha; cases ha
  · rw [if_neg (by decide : ¬ dataS 1 = true)]; rfl
theorem pS_valid {n : Nat} (h1 : 1 ≤ n) (h2 : n ≤ 200) : vldQ (pS n) = true := by
  rw [vldQ_iff, pS_len]
  refine ⟨⟨h1, by omega⟩, fun x hx => ?_⟩
  obtain ⟨i, hi, rfl⟩ := pS_mem hx
  rw [vldS_iff]
  refine ⟨⟨fun q => absurd rfl q, fun _ => rfl, .inl ⟨rfl, ⟨rfl, rfl, rfl⟩, rfl⟩⟩, fun _ => dS_valid (by omega)⟩
theorem pS_sm {n : Nat} (h : n ≤ 200) : smQ (pS n) := by
  refine ⟨by rw [pS_len]; omega, fun x hx => ?_⟩
  obtain ⟨i, hi, rfl⟩ := pS_mem hx
  exact ⟨(by decide : (0 : Nat) ≤ 1000000), (by decide : (0 : Nat) ≤ 1000000)⟩
theorem pS_plain {n : Nat} (h : n ≤ 200) : plainQ (pS n) := by
  refine ⟨by rw [pS_len]; omega, fun x hx => ?_⟩
  obtain ⟨i, hi, rfl⟩ := pS_mem hx
  exact ⟨.inl rfl, fun q => absurd q (by decide : ¬ (1 : Int) = 5), ⟨(by decide : (0 : Int) ≤ 0), (by decide : (0 : Int) ≤ 1099511627776)⟩, (by decide : (0 : Nat) ≤ 1000000), (by decide : (0 : Nat) ≤ 1000000)⟩
def gL : List Stp := [⟨5, 0, 0, 0, 0, 0, ⟨0, 0, 0, [], []⟩⟩]
theorem gL_sm : smQ gL := smQ_of (by decide) (by decide)
abbrev p1 (n : Nat) (r : Bool) (p : Nat) : Prg := ⟨1, 1, pS n, r, p, false, 0⟩
abbrev p2 (r : Bool) : Prg := ⟨2, 2, gL, r, 0, false, 0⟩
theorem ld1 {n : Nat} (h1 : 1 ≤ n) (h2 : n ≤ 200) : LdS [] 1 1 (pS n) 0 [p1 n false 0] := by
  refine ⟨?_⟩
  unfold ldQ
  rw [if_neg (by decide), pS_valid h1 h2, if_neg (by decide), if_neg (by decide), if_neg (by decide)]
  rfl
theorem ld2 {n : Nat} : LdS [p1 n false 0] 2 2 gL 0 [p1 n false 0, p2 false] := by
  refine ⟨?_⟩
  have hv : vldQ gL = true := by decide
  have hf : fnB [p1 n false 0] 2 = false := rfl
  have hi : fnI [p1 n false 0] 2 = 1 := rfl
  unfold ldQ
  rw [if_neg (by decide), hv, if_neg (by decide), hf, if_neg (by decide), hi, if_neg (by rw [List.length_cons, List.length_nil]; decide)]
  rfl
theorem sr1 {n : Nat} : SrS 0 [p1 n false 0, p2 false] 1 0 0 0 [p1 n true 0, p2 false] := by
  refine ⟨?_, by decide⟩
  have hf : fnB [p1 n false 0, p2 false] 1 = true := rfl
  have hi : fnI [p1 n false 0, p2 false] 1 = 0 := rfl
  have ha : atP [p1 n false 0, p2 false] 1 = p1 n false 0 := rfl
  have hb : bzQ [p1 n false 0, p2 false] (p1 n false 0).res = false := rfl
  unfold srQ
  rw [hf, if_pos rfl, ha, if_neg Bool.false_ne_true, hb, if_neg (by decide), hi]
  rfl
theorem sr2 {n : Nat} : SrS 0 [p1 n true 0, p2 false] 2 0 0 0 [p1 n true 0, p2 true] := by
  refine ⟨?_, by decide⟩
  have hf : fnB [p1 n true 0, p2 false] 2 = true := rfl
  have hi : fnI [p1 n true 0, p2 false] 2 = 1 := rfl
  have ha : atP [p1 n true 0, p2 false] 2 = p2 false := rfl
  have hb : bzQ [p1 n true 0, p2 false] (p2 false).res = false := by
    have e : bitsI .and .i64 1 2 = 0 := by decide
    have e2 : bzQ [p1 n true 0, p2 false] 2 = ((true && decide (¬ bitsI .and .i64 1 2 = 0)) || ((false && decide (¬ bitsI .and .i64 2 2 = 0)) || false)) := rfl
    show bzQ [p1 n true 0, p2 false] 2 = false
    rw [e2, e]; rfl
  unfold srQ
  rw [hf, if_pos rfl, ha, if_neg Bool.false_ne_true, hb, if_neg (by decide), hi]
  rfl
theorem run_pS (now : Int) (n : Nat) (w : Bool) (u : Int) : ∀ (k p : Nat) (out : List Cmd), p ≤ n → ∃ O, rnR now (pS n) k p w u out = (decide (n < p + k), min (p + k) n, w, u, out ++ O) ∧ O.length = min k (n - p)
  | 0, p, out, hp => by
    refine ⟨[], ?_, by rw [Nat.zero_min]; rfl⟩
    rw [rnR, List.append_nil, decide_eq_false (by omega), show min (p + 0) n = p by omega]
  | k + 1, p, out, hp => by
    rw [rnR, pS_len]
    by_cases h : p = n
    · refine ⟨[], ?_, by rw [h, Nat.sub_self, Nat.min_zero]; rfl⟩
      rw [if_pos h, List.append_nil, decide_eq_true (by omega), show min (p + (k + 1)) n = p by omega]
    · obtain ⟨O, e, hl⟩ := run_pS now n w u k (p + 1) (out ++ [(dS p).c]) (by omega)
      refine ⟨(dS p).c :: O, ?_, by rw [List.length_cons, hl]; omega⟩
      rw [if_neg h, pS_at (by omega), if_pos rfl, e, List.append_assoc]
      rw [show p + 1 + k = p + (k + 1) by omega]
      rfl
theorem run_gL (now : Int) (w : Bool) (u : Int) (out : List Cmd) : ∀ k, rnR now gL k 0 w u out = (false, 0, w, u, out)
  | 0 => rfl
  | k + 1 => by
    rw [rnR, if_neg (by decide)]
    rw [if_neg (by decide), if_neg (by decide), if_pos (by decide)]
    exact run_gL now w u out k
/-- after j ticks -/
abbrev LB (n j : Nat) : List Prg := [p1 n (decide (16 * j ≤ n)) (min (16 * j) n), p2 true]
theorem LB_ok {n j : Nat} (h : n ≤ 200) : ∀ x ∈ LB n j, okR x := by
  intro x hx
  rcases List.mem_cons.1 hx with rfl | hx
  · refine ⟨pS_plain h, ?_, ?_⟩
    · show (0 : Int) ≤ ((min (16 * j) n : Nat) : Int); omega
    · show ((min (16 * j) n : Nat) : Int) ≤ (pS n).length; rw [pS_len]; omega
  · rw [List.mem_singleton] at hx
    subst hx
    exact okR_of (by decide +kernel)
theorem tk2 (now : Int) : tkX now (p2 true) = p2 true ∧ tkC now (p2 true) = [] := by
  have e : rnX now (p2 true) = (false, 0, false, 0, []) := run_gL now false 0 [] 16
  refine ⟨?_, ?_⟩
  · unfold tkX
    rw [if_pos rfl, e]
    rfl
  · unfold tkC
    rw [if_pos rfl, e]
theorem tk1 (now : Int) (n j : Nat) : tkX now (p1 n (decide (16 * j ≤ n)) (min (16 * j) n)) = p1 n (decide (16 * (j + 1) ≤ n)) (min (16 * (j + 1)) n) ∧ (tkC now (p1 n (decide (16 * j ≤ n)) (min (16 * j) n))).length = min 16 (n - min (16 * j) n) := by
  by_cases h : 16 * j ≤ n
  · obtain ⟨O, e, hl⟩ := run_pS now n false 0 16 (16 * j) [] h
    have em : min (16 * j) n = 16 * j := by omega
    have ex : rnX now (p1 n (decide (16 * j ≤ n)) (min (16 * j) n)) = (decide (n < 16 * j + 16), min (16 * j + 16) n, false, 0, [] ++ O) := by
      rw [em]; exact e
    have hr : (p1 n (decide (16 * j ≤ n)) (min (16 * j) n)).run = true := decide_eq_true h
    refine ⟨?_, ?_⟩
    · unfold tkX
      rw [if_pos hr, ex]
      have e1 : (decide (16 * j ≤ n) && !decide (n < 16 * j + 16)) = decide (16 * (j + 1) ≤ n) := by
        rw [decide_eq_true h, Bool.true_and, ← decide_not]
        exact decide_eq_decide.2 ⟨fun q => by omega, fun q => by omega⟩
      show (⟨1, 1, pS n, (decide (16 * j ≤ n) && !decide (n < 16 * j + 16)), ((min (16 * j + 16) n : Nat) : Int), false, 0⟩ : Prg) = _
      rw [e1, show 16 * j + 16 = 16 * (j + 1) by omega]
    · unfold tkC
      rw [if_pos hr, ex]
      show ([] ++ O).length = _
      rw [List.nil_append, hl, em]
  · have hr : ¬ (p1 n (decide (16 * j ≤ n)) (min (16 * j) n)).run = true := by
      show ¬ decide (16 * j ≤ n) = true
      rw [decide_eq_false h]; decide
    refine ⟨?_, ?_⟩
    · unfold tkX
      rw [if_neg hr, decide_eq_false h, decide_eq_false (by omega : ¬ 16 * (j + 1) ≤ n), show min (16 * j) n = min (16 * (j + 1)) n by omega]
    · unfold tkC
      rw [if_neg hr, show min (16 * j) n = n by omega, Nat.sub_self]
      rfl
theorem tkB (n j : Nat) (h : j ≤ 20) : ∃ O, TkS (j : Int) ((j + 1 : Nat) : Int) (LB n j) ((j + 1 : Nat) : Int) (LB n (j + 1)) O ∧ O.length = min 16 (n - min (16 * j) n) := by
  obtain ⟨h1, h2⟩ := tk1 ((j + 1 : Nat) : Int) n j
  obtain ⟨h3, h4⟩ := tk2 ((j + 1 : Nat) : Int)
  refine ⟨tkO ((j + 1 : Nat) : Int) (LB n j), ⟨?_, ?_, rfl⟩, ?_⟩
  · unfold atQ
    rw [if_pos ⟨by omega, by omega⟩]
  · show [tkX _ _, tkX _ _] = _
    rw [h1, h3]
  · show (tkC _ _ ++ (tkC _ _ ++ [])).length = _
    rw [h4, List.length_append, h2]
    rfl
theorem rnB (n j : Nat) : RnS (LB n j) (if 16 * j ≤ n then [1, 2] else [2]) := by
  refine ⟨?_⟩
  by_cases h : 16 * j ≤ n
  · rw [if_pos h]
    unfold rnQ LB
    rw [decide_eq_true h]
    rfl
  · rw [if_neg h]
    unfold rnQ LB
    rw [decide_eq_false h]
    rfl
end Go.V

set_option maxRecDepth 100000
set_option maxHeartbeats 8000000
namespace Go.V
open Go.Proofs
attribute [-go_sem] EN PL Wr
theorem b_nValid : DoesK Try.prog 0 27 [.lit (.pointer none)] [] (EndF 0 (.bool false) []) := by
  refine DoesK.close ?_
  refine w_body (rs := [.tmp 2]) (tm := [.lit (.pointer none), .any, .any, .any, .any, .any, .any, .any, .any, .any, .any]) fn_27 rfl rfl rfl rfl fun R hR => ?_
  (all_goals (try ((first | (with_reducible refine wp_id ?_) | (with_reducible refine does_id ?_) | (with_reducible refine ops_id ?_)); refine walk ?_; (repeat' (first | exact trivial | with_reducible refine And.intro ?_ ?_)); all_goals (repeat (first | (with_reducible refine ImpB.mk fun hb => ?_) | (with_reducible refine ImpK.mk fun hK => ?_) | (with_reducible refine ImpF.mk fun hF => ?_) | (with_reducible refine ImpQ.mk fun hp => ?_) | (with_reducible refine AllE.mk fun p => ?_) | (with_reducible refine AllR.mk fun rest => ?_) | (with_reducible refine AllK.mk fun K => ?_))))); repeat' (with_reducible refine And.intro ?_ ?_))
  (focus (refine ⟨_, _, Gh.refl, [], rfl, ?_⟩; (refine fitq ?_ ?_ ?_ <;> try exact trivial); (try any_goals (refine ⟨?_, ?_⟩)); (try any_goals (with_reducible rfl))))
theorem c_nValid {h : List Ch} {K : KT} (H : K (.bool false) h) : Does Try.prog 27 [.lit (.pointer none)] h K :=
  frame_pure b_nValid (br_cons br_lit br_nil) (.inl rfl) (fun _ => rfl) H
abbrev i_nValid := Ctr.mk (i := 1) (g := 27) @c_nValid
attribute [instance] i_nValid
theorem b_nLoad (id : Int) : DoesK Try.prog 0 12 [.lit (.pointer none), .int .i64 id, .int .i64 0, .lit (.slice none 0 0)] [] (EndF 0 (.int .i64 2) []) := by
  refine DoesK.close ?_
  refine w_body (rs := [.tmp 8]) (tm := [.lit (.pointer none), .int .i64 id, .int .i64 0, .lit (.slice none 0 0), .any, .any, .any, .any, .any, .any, .any, .any, .any, .any, .any, .any, .any, .any, .any, .any, .any, .any, .any, .any, .any, .any, .any, .any, .any, .any, .any, .any, .any, .any, .any, .any, .any, .any, .any, .any, .any, .any, .any, .any, .any, .any, .any, .any, .any, .any, .any, .any, .any, .any, .any, .any, .any, .any, .any, .any, .any, .any, .any, .any, .any, .any, .any, .any, .any, .any, .any, .any, .any, .any, .any, .any, .any, .any, .any, .any, .any, .any, .any]) fn_12 rfl rfl rfl rfl fun R hR => ?_
  (all_goals (try ((first | (with_reducible refine wp_id ?_) | (with_reducible refine does_id ?_) | (with_reducible refine ops_id ?_)); refine walk ?_; (repeat' (first | exact trivial | with_reducible refine And.intro ?_ ?_)); all_goals (repeat (first | (with_reducible refine ImpB.mk fun hb => ?_) | (with_reducible refine ImpK.mk fun hK => ?_) | (with_reducible refine ImpF.mk fun hF => ?_) | (with_reducible refine ImpQ.mk fun hp => ?_) | (with_reducible refine AllE.mk fun p => ?_) | (with_reducible refine AllR.mk fun rest => ?_) | (with_reducible refine AllK.mk fun K => ?_))))); repeat' (with_reducible refine And.intro ?_ ?_))
  (focus (refine ⟨_, _, Gh.refl, [], rfl, ?_⟩; (refine fitq ?_ ?_ ?_ <;> try exact trivial); (try any_goals (refine ⟨?_, ?_⟩)); (try any_goals (with_reducible rfl))))
theorem c_nLoad {h : List Ch} {K : KT} {id : Int} (H : K (.int .i64 2) h) : Does Try.prog 12 [.lit (.pointer none), .int .i64 id, .int .i64 0, .lit (.slice none 0 0)] h K :=
  frame_pure (b_nLoad id) (br_cons br_lit (br_cons br_int (br_cons br_int (br_cons br_lit br_nil)))) (.inl rfl) (fun _ => rfl) H
abbrev i_nLoad := Ctr.mk (i := 2) (g := 12) @c_nLoad
attribute [instance] i_nLoad
theorem b_nStart (id n : Int) : DoesK Try.prog 0 13 [.lit (.pointer none), .int .i64 id, .int .i64 n] [] (EndF 0 (.int .i64 2) []) := by
  refine DoesK.close ?_
  refine w_body (rs := [.tmp 6]) (tm := [.lit (.pointer none), .int .i64 id, .int .i64 n, .any, .any, .any, .any, .any, .any, .any, .any, .any, .any, .any, .any, .any, .any, .any, .any, .any, .any, .any, .any, .any, .any, .any, .any, .any, .any, .any, .any, .any, .any, .any, .any, .any, .any, .any, .any, .any, .any, .any, .any, .any, .any, .any, .any, .any, .any, .any, .any, .any, .any, .any, .any, .any, .any, .any, .any, .any, .any, .any, .any, .any, .any, .any, .any, .any, .any, .any, .any, .any, .any, .any, .any, .any, .any]) fn_13 rfl rfl rfl rfl fun R hR => ?_
  (all_goals (try ((first | (with_reducible refine wp_id ?_) | (with_reducible refine does_id ?_) | (with_reducible refine ops_id ?_)); refine walk ?_; (repeat' (first | exact trivial | with_reducible refine And.intro ?_ ?_)); all_goals (repeat (first | (with_reducible refine ImpB.mk fun hb => ?_) | (with_reducible refine ImpK.mk fun hK => ?_) | (with_reducible refine ImpF.mk fun hF => ?_) | (with_reducible refine ImpQ.mk fun hp => ?_) | (with_reducible refine AllE.mk fun p => ?_) | (with_reducible refine AllR.mk fun rest => ?_) | (with_reducible refine AllK.mk fun K => ?_))))); repeat' (with_reducible refine And.intro ?_ ?_))
  (focus (refine ⟨_, _, Gh.refl, [], rfl, ?_⟩; (refine fitq ?_ ?_ ?_ <;> try exact trivial); (try any_goals (refine ⟨?_, ?_⟩)); (try any_goals (with_reducible rfl))))
theorem c_nStart {h : List Ch} {K : KT} {id n : Int} (H : K (.int .i64 2) h) : Does Try.prog 13 [.lit (.pointer none), .int .i64 id, .int .i64 n] h K :=
  frame_pure (b_nStart id n) (br_cons br_lit (br_cons br_int (br_cons br_int br_nil))) (.inl rfl) (fun _ => rfl) H
abbrev i_nStart := Ctr.mk (i := 2) (g := 13) @c_nStart
attribute [instance] i_nStart
theorem b_nStop (id : Int) : DoesK Try.prog 0 17 [.lit (.pointer none), .int .i64 id] [] (EndF 0 (.int .i64 2) []) := by
  refine DoesK.close ?_
  refine w_body (rs := [.tmp 4]) (tm := [.lit (.pointer none), .int .i64 id, .any, .any, .any, .any, .any, .any, .any, .any, .any, .any, .any, .any, .any, .any, .any, .any, .any, .any, .any, .any, .any, .any, .any, .any, .any, .any, .any, .any, .any, .any, .any, .any]) fn_17 rfl rfl rfl rfl fun R hR => ?_
  (all_goals (try ((first | (with_reducible refine wp_id ?_) | (with_reducible refine does_id ?_) | (with_reducible refine ops_id ?_)); refine walk ?_; (repeat' (first | exact trivial | with_reducible refine And.intro ?_ ?_)); all_goals (repeat (first | (with_reducible refine ImpB.mk fun hb => ?_) | (with_reducible refine ImpK.mk fun hK => ?_) | (with_reducible refine ImpF.mk fun hF => ?_) | (with_reducible refine ImpQ.mk fun hp => ?_) | (with_reducible refine AllE.mk fun p => ?_) | (with_reducible refine AllR.mk fun rest => ?_) | (with_reducible refine AllK.mk fun K => ?_))))); repeat' (with_reducible refine And.intro ?_ ?_))
  (focus (refine ⟨_, _, Gh.refl, [], rfl, ?_⟩; (refine fitq ?_ ?_ ?_ <;> try exact trivial); (try any_goals (refine ⟨?_, ?_⟩)); (try any_goals (with_reducible rfl))))
theorem c_nStop {h : List Ch} {K : KT} {id : Int} (H : K (.int .i64 2) h) : Does Try.prog 17 [.lit (.pointer none), .int .i64 id] h K :=
  frame_pure (b_nStop id) (br_cons br_lit (br_cons br_int br_nil)) (.inl rfl) (fun _ => rfl) H
abbrev i_nStop := Ctr.mk (i := 2) (g := 17) @c_nStop
attribute [instance] i_nStop
theorem b_nTick (n : Int) : DoesK Try.prog 0 14 [.lit (.pointer none), .int .i64 n, .lit (.pointer none)] [] (EndF 0 (.ro .cmd []) []) := by
  refine DoesK.close ?_
  refine w_body (rs := [.tmp 6]) (tm := [.lit (.pointer none), .int .i64 n, .lit (.pointer none), .any, .any, .any, .any, .any, .any, .any, .any, .any, .any, .any, .any, .any, .any, .any, .any, .any, .any, .any, .any, .any, .any, .any, .any, .any, .any, .any, .any, .any, .any, .any, .any, .any, .any, .any, .any, .any, .any, .any, .any, .any, .any, .any, .any]) fn_14 rfl rfl rfl rfl fun R hR => ?_
  (all_goals (try ((first | (with_reducible refine wp_id ?_) | (with_reducible refine does_id ?_) | (with_reducible refine ops_id ?_)); refine walk ?_; (repeat' (first | exact trivial | with_reducible refine And.intro ?_ ?_)); all_goals (repeat (first | (with_reducible refine ImpB.mk fun hb => ?_) | (with_reducible refine ImpK.mk fun hK => ?_) | (with_reducible refine ImpF.mk fun hF => ?_) | (with_reducible refine ImpQ.mk fun hp => ?_) | (with_reducible refine AllE.mk fun p => ?_) | (with_reducible refine AllR.mk fun rest => ?_) | (with_reducible refine AllK.mk fun K => ?_))))); repeat' (with_reducible refine And.intro ?_ ?_))
  (focus (refine ⟨_, _, Gh.refl, [], rfl, ?_⟩; (refine fitq ?_ ?_ ?_ <;> try exact trivial); (try any_goals (refine ⟨?_, ?_⟩)); (try any_goals (with_reducible rfl))))
theorem c_nTick {h : List Ch} {K : KT} {n : Int} (H : K (.ro .cmd []) h) : Does Try.prog 14 [.lit (.pointer none), .int .i64 n, .lit (.pointer none)] h K :=
  frame_pure (b_nTick n) (br_cons br_lit (br_cons br_int (br_cons br_lit br_nil))) (.inl rfl) (fun _ => rfl) H
abbrev i_nTick := Ctr.mk (i := 2) (g := 14) @c_nTick
attribute [instance] i_nTick
theorem b_nRun : DoesK Try.prog 0 16 [.lit (.pointer none)] [] (EndF 0 (.ro .int []) []) := by
  refine DoesK.close ?_
  refine w_body (rs := [.tmp 2]) (tm := [.lit (.pointer none), .any, .any, .any, .any, .any, .any, .any, .any, .any, .any, .any, .any, .any, .any, .any, .any, .any, .any, .any, .any, .any, .any, .any, .any, .any, .any, .any, .any, .any, .any, .any, .any, .any, .any, .any, .any]) fn_16 rfl rfl rfl rfl fun R hR => ?_
  (all_goals (try ((first | (with_reducible refine wp_id ?_) | (with_reducible refine does_id ?_) | (with_reducible refine ops_id ?_)); refine walk ?_; (repeat' (first | exact trivial | with_reducible refine And.intro ?_ ?_)); all_goals (repeat (first | (with_reducible refine ImpB.mk fun hb => ?_) | (with_reducible refine ImpK.mk fun hK => ?_) | (with_reducible refine ImpF.mk fun hF => ?_) | (with_reducible refine ImpQ.mk fun hp => ?_) | (with_reducible refine AllE.mk fun p => ?_) | (with_reducible refine AllR.mk fun rest => ?_) | (with_reducible refine AllK.mk fun K => ?_))))); repeat' (with_reducible refine And.intro ?_ ?_))
  (focus (refine ⟨_, _, Gh.refl, [], rfl, ?_⟩; (refine fitq ?_ ?_ ?_ <;> try exact trivial); (try any_goals (refine ⟨?_, ?_⟩)); (try any_goals (with_reducible rfl))))
theorem c_nRun {h : List Ch} {K : KT} (H : K (.ro .int []) h) : Does Try.prog 16 [.lit (.pointer none)] h K :=
  frame_pure b_nRun (br_cons br_lit br_nil) (.inl rfl) (fun _ => rfl) H
abbrev i_nRun := Ctr.mk (i := 2) (g := 16) @c_nRun
attribute [instance] i_nRun
theorem b_nClone : DoesK Try.prog 0 18 [.lit (.pointer none)] [] (EndF 0 (.lit (.pointer none)) []) := by
  refine DoesK.close ?_
  refine w_body (rs := [.tmp 2]) (tm := [.lit (.pointer none), .any, .any, .any, .any, .any, .any, .any, .any, .any, .any, .any, .any, .any, .any, .any, .any, .any, .any, .any, .any, .any, .any, .any, .any, .any, .any, .any, .any, .any, .any, .any, .any, .any, .any, .any, .any, .any, .any, .any, .any, .any, .any, .any, .any]) fn_18 rfl rfl rfl rfl fun R hR => ?_
  (all_goals (try ((first | (with_reducible refine wp_id ?_) | (with_reducible refine does_id ?_) | (with_reducible refine ops_id ?_)); refine walk ?_; (repeat' (first | exact trivial | with_reducible refine And.intro ?_ ?_)); all_goals (repeat (first | (with_reducible refine ImpB.mk fun hb => ?_) | (with_reducible refine ImpK.mk fun hK => ?_) | (with_reducible refine ImpF.mk fun hF => ?_) | (with_reducible refine ImpQ.mk fun hp => ?_) | (with_reducible refine AllE.mk fun p => ?_) | (with_reducible refine AllR.mk fun rest => ?_) | (with_reducible refine AllK.mk fun K => ?_))))); repeat' (with_reducible refine And.intro ?_ ?_))
  (focus (refine ⟨_, _, Gh.refl, [], rfl, ?_⟩; (refine fitq ?_ ?_ ?_ <;> try exact trivial); (try any_goals (refine ⟨?_, ?_⟩)); (try any_goals (with_reducible rfl))))
theorem c_nClone {h : List Ch} {K : KT} (H : K (.lit (.pointer none)) h) : Does Try.prog 18 [.lit (.pointer none)] h K :=
  frame_pure b_nClone (br_cons br_lit br_nil) (.inl rfl) (fun _ => rfl) H
abbrev i_nClone := Ctr.mk (i := 0) (g := 18) @c_nClone
attribute [instance] i_nClone
theorem b_none (id now : Int) : DoesK Try.prog 0 5 [.int .i64 id, .int .i64 now] [] (EndF 0 (.bool true) []) := by
  refine DoesK.close ?_
  refine w_body (rs := [.tmp 4]) (tm := [.int .i64 id, .int .i64 now, .any, .any, .any, .any, .any, .any, .any, .any, .any, .any, .any, .any, .any, .any, .any, .any, .any, .any, .any, .any, .any, .any, .any, .any, .any, .any, .any, .any, .any, .any, .any, .any, .any, .any, .any, .any, .any, .any, .any, .any, .any, .any]) fn_5 rfl rfl rfl rfl fun R hR => ?_
  (all_goals (try ((first | (with_reducible refine wp_id ?_) | (with_reducible refine does_id ?_) | (with_reducible refine ops_id ?_)); refine walk ?_; (repeat' (first | exact trivial | with_reducible refine And.intro ?_ ?_)); all_goals (repeat (first | (with_reducible refine ImpB.mk fun hb => ?_) | (with_reducible refine ImpK.mk fun hK => ?_) | (with_reducible refine ImpF.mk fun hF => ?_) | (with_reducible refine ImpQ.mk fun hp => ?_) | (with_reducible refine AllE.mk fun p => ?_) | (with_reducible refine AllR.mk fun rest => ?_) | (with_reducible refine AllK.mk fun K => ?_))))); repeat' (with_reducible refine And.intro ?_ ?_))
  (focus (refine ⟨_, _, Gh.refl, [], rfl, ?_⟩; (refine fitq ?_ ?_ ?_ <;> try exact trivial); (try any_goals (refine ⟨?_, ?_⟩)); (try any_goals (with_reducible rfl))))
end Go.V

set_option maxRecDepth 100000
set_option maxHeartbeats 8000000
namespace Go.V
open Go.Proofs
attribute [-go_sem] EN PL Wr
theorem b_resources (l : List Int) (stop : List Bool) (hl : l.length ≤ 9223372036854775807) (hs : stop.length ≤ 9223372036854775807) : DoesK Try.prog 0 4 [.ro .int l, .ro .bool stop] [] (EndF 0 (.bool true) []) := by
  refine DoesK.close ?_
  by_cases h40 : l.length ≤ 40
  · have d0 : decide ((40 : Int) < l.length) = false := decide_eq_false (by omega)
    refine w_body (rs := [.tmp 4]) (tm := [.ro .int l, .ro .bool stop, .any, .any, .any, .any, .any, .any, .any, .any, .any, .any, .any, .any, .any, .any, .any, .any, .any, .any, .any, .any, .any, .any, .any, .any, .any, .any, .any, .any, .any, .any, .any, .any, .any, .any, .any, .any, .any, .any, .any, .any, .any, .any, .any, .any, .any, .any, .any, .any, .any, .any, .any, .any, .any, .any, .any, .any, .any, .any, .any, .any, .any, .any, .any, .any, .any, .any, .any, .any, .any, .any, .any, .any, .any, .any, .any, .any, .any, .any, .any, .any]) fn_4 rfl rfl rfl rfl fun R hR => ?_
    (have zx1 := @d0; all_goals (try ((first | (with_reducible refine wp_id ?_) | (with_reducible refine does_id ?_) | (with_reducible refine ops_id ?_)); refine walk ?_; (repeat' (first | exact trivial | with_reducible refine And.intro ?_ ?_)); all_goals (repeat (first | (with_reducible refine ImpB.mk fun hb => ?_) | (with_reducible refine ImpK.mk fun hK => ?_) | (with_reducible refine ImpF.mk fun hF => ?_) | (with_reducible refine ImpQ.mk fun hp => ?_) | (with_reducible refine AllE.mk fun p => ?_) | (with_reducible refine AllR.mk fun rest => ?_) | (with_reducible refine AllK.mk fun K => ?_))))); repeat' (with_reducible refine And.intro ?_ ?_))
    any_goals ((try (refine w_seq fun K hK => ?_)); (try (refine w_block ?_)); refine w_loop (A := Nat × List Prg × Nat) (fun z => z.1 ≤ l.length ∧ InvR z.1 z.2.1 z.2.2) (fun z => l.length - z.1) (fun z => [(7, .int .i64 z.1), (6, .int .i64 z.2.2)]) (fun z => [(0, .pack (EN 0 z.2.1))]) ((0, [], 0)) (ws := ?ws1) (tk := ?tk1) ?hw1 ?ht1 ?hi ?h0 ?LH1; (case hw1 => simp only [go_sem, decide_true, decide_false, Int.reduceToNat, Nat.min_eq_left, Nat.min_eq_right, Int.reducePow, Nat.reducePow, Int.reduceLE, Int.reduceLT, Int.reduceMul, Int.reduceAdd, Int.reduceSub, Int.reduceNeg, Bool.not_true, Bool.not_false, Bool.not_not, ↓reduceIte, Nat.reduceAdd, Nat.reduceSub, Nat.reduceMul, Nat.reduceEqDiff, reduceCtorEq, Nat.reduceLT, Nat.reduceLeDiff, Nat.reduceGT]; exact rfl); (case ht1 => simp only [go_sem, decide_true, decide_false, Int.reduceToNat, Nat.min_eq_left, Nat.min_eq_right, Int.reducePow, Nat.reducePow, Int.reduceLE, Int.reduceLT, Int.reduceMul, Int.reduceAdd, Int.reduceSub, Int.reduceNeg, Bool.not_true, Bool.not_false, Bool.not_not, ↓reduceIte, Nat.reduceAdd, Nat.reduceSub, Nat.reduceMul, Nat.reduceEqDiff, reduceCtorEq, Nat.reduceLT, Nat.reduceLeDiff, Nat.reduceGT]; exact rfl); (case' LH1 => rintro ⟨i, L, u⟩ E t hx hE ht; simp only [go_sem] at ht; subst ht; simp only [go_sem]; try dsimp only at hx))
    case hi => exact ⟨Nat.zero_le _, rfl, fun x hx => (by cases hx), fun x hx => (by cases hx), rfl⟩
    case h0 => (focus (refine ⟨_, _, Gh.refl, [0], rfl, ?_⟩; (refine fitq ?_ ?_ ?_ <;> try exact trivial); (try any_goals (refine ⟨?_, ?_⟩)); (try any_goals (with_reducible rfl)))); all_goals (repeat' (first | (refine And.intro ?_ ?_) | rfl))
    case LH1 =>
      have hro : RoLit := .mk
      obtain ⟨hi0, HI⟩ := hx
      have hLl := HI.len
      have hL6 : L.length ≤ 1000000 := by omega
      by_cases hi : i < l.length
      · have hkd : decide ((i : Int) < l.length) = true := decide_eq_true (by omega)
        have hw : IntKind.i64.wrap ((i : Int) + 1) = ((i + 1 : Nat) : Int) := by rw [wrap_i64 _ (by omega) (by omega)]; omega
        obtain ⟨k, hk, hke⟩ := and_16 (l.getD i 0)
        have hu : u < 65536 := by rw [← HI.or]; exact orL_lt HI.res
        have hku := i64_and_nat k u hk hu
        have f1 := ld_ok HI (by omega : i < 256) hk
        have hL7 : ∀ r, (L ++ [pR i k r]).length ≤ 1000000 := fun r => by rw [List.length_append, List.length_cons, List.length_nil]; omega
        have hsm := wL_sm
        have hlit := litQ_of wL_sm
        by_cases h : k &&& u = 0
        · have f2 := sr_yes HI hk h
          have d1 : decide (((k &&& u : Nat) : Int) = 0) = true := decide_eq_true (by omega)
          have d3 : decide (¬ (0 : Int) = 0) = false := by decide
          have d4 : decide ((0 : Int) = 0) = true := by decide
          have hor := i64_or_nat u k hu hk
          have han := i64_andNot_nat u k hu hk h
          have f3 := sp_ok (u := u) (k := k) HI
          have g1 := hL7 true
          have g2 := hL7 false
          by_cases hst : i < stop.length
          · have d5 : decide ((i : Int) < stop.length) = true := decide_eq_true (by omega)
            cases hsb : stop.getD i false
            · (have zx1 := @hkd; have zx2 := @hw; have zx3 := @hke; have zx4 := @hku; have zx5 := @d1; have zx6 := @d3; have zx7 := @d4; have zx8 := @hor; have zx9 := @d5; have zx10 := @hsb; all_goals (try ((first | (with_reducible refine wp_id ?_) | (with_reducible refine does_id ?_) | (with_reducible refine ops_id ?_)); refine walk ?_; (repeat' (first | exact trivial | with_reducible refine And.intro ?_ ?_)); all_goals (repeat (first | (with_reducible refine ImpB.mk fun hb => ?_) | (with_reducible refine ImpK.mk fun hK => ?_) | (with_reducible refine ImpF.mk fun hF => ?_) | (with_reducible refine ImpQ.mk fun hp => ?_) | (with_reducible refine AllE.mk fun p => ?_) | (with_reducible refine AllR.mk fun rest => ?_) | (with_reducible refine AllK.mk fun K => ?_))))); repeat' (with_reducible refine And.intro ?_ ?_))
              all_goals first | (show _ ≤ (_ : Int); omega) | (show _ < (_ : Int); omega) | skip
              refine ⟨(i + 1, L ++ [pR i k true], u ||| k), ⟨⟨by dsimp only; omega, inv_yes HI hk⟩, by dsimp only; omega⟩, ?_⟩
              (focus (refine ⟨_, _, Gh.refl, [0], rfl, ?_⟩; (refine fitq ?_ ?_ ?_ <;> try exact trivial); (try any_goals (refine ⟨?_, ?_⟩)); (try any_goals (with_reducible rfl))))
              all_goals (repeat' (first | (refine And.intro ?_ ?_) | rfl))
            · (have zx1 := @hkd; have zx2 := @hw; have zx3 := @hke; have zx4 := @hku; have zx5 := @d1; have zx6 := @d3; have zx7 := @d4; have zx8 := @hor; have zx9 := @d5; have zx10 := @hsb; have zx11 := @han; all_goals (try ((first | (with_reducible refine wp_id ?_) | (with_reducible refine does_id ?_) | (with_reducible refine ops_id ?_)); refine walk ?_; (repeat' (first | exact trivial | with_reducible refine And.intro ?_ ?_)); all_goals (repeat (first | (with_reducible refine ImpB.mk fun hb => ?_) | (with_reducible refine ImpK.mk fun hK => ?_) | (with_reducible refine ImpF.mk fun hF => ?_) | (with_reducible refine ImpQ.mk fun hp => ?_) | (with_reducible refine AllE.mk fun p => ?_) | (with_reducible refine AllR.mk fun rest => ?_) | (with_reducible refine AllK.mk fun K => ?_))))); repeat' (with_reducible refine And.intro ?_ ?_))
              all_goals first | (show _ ≤ (_ : Int); omega) | (show _ < (_ : Int); omega) | skip
              refine ⟨(i + 1, L ++ [pR i k false], u), ⟨⟨by dsimp only; omega, inv_no HI hk⟩, by dsimp only; omega⟩, ?_⟩
              (focus (refine ⟨_, _, Gh.refl, [0], rfl, ?_⟩; (refine fitq ?_ ?_ ?_ <;> try exact trivial); (try any_goals (refine ⟨?_, ?_⟩)); (try any_goals (with_reducible rfl))))
              all_goals (repeat' (first | (refine And.intro ?_ ?_) | rfl))
          · have d5 : decide ((i : Int) < stop.length) = false := decide_eq_false (by omega)
            (have zx1 := @hkd; have zx2 := @hw; have zx3 := @hke; have zx4 := @hku; have zx5 := @d1; have zx6 := @d3; have zx7 := @d4; have zx8 := @hor; have zx9 := @d5; all_goals (try ((first | (with_reducible refine wp_id ?_) | (with_reducible refine does_id ?_) | (with_reducible refine ops_id ?_)); refine walk ?_; (repeat' (first | exact trivial | with_reducible refine And.intro ?_ ?_)); all_goals (repeat (first | (with_reducible refine ImpB.mk fun hb => ?_) | (with_reducible refine ImpK.mk fun hK => ?_) | (with_reducible refine ImpF.mk fun hF => ?_) | (with_reducible refine ImpQ.mk fun hp => ?_) | (with_reducible refine AllE.mk fun p => ?_) | (with_reducible refine AllR.mk fun rest => ?_) | (with_reducible refine AllK.mk fun K => ?_))))); repeat' (with_reducible refine And.intro ?_ ?_))
            all_goals first | (show _ ≤ (_ : Int); omega) | (show _ < (_ : Int); omega) | skip
            refine ⟨(i + 1, L ++ [pR i k true], u ||| k), ⟨⟨by dsimp only; omega, inv_yes HI hk⟩, by dsimp only; omega⟩, ?_⟩
            (focus (refine ⟨_, _, Gh.refl, [0], rfl, ?_⟩; (refine fitq ?_ ?_ ?_ <;> try exact trivial); (try any_goals (refine ⟨?_, ?_⟩)); (try any_goals (with_reducible rfl))))
            all_goals (repeat' (first | (refine And.intro ?_ ?_) | rfl))
        · have f2 := sr_no HI hk h
          have d1 : decide (((k &&& u : Nat) : Int) = 0) = false := decide_eq_false (by omega)
          have d3 : decide (¬ (15 : Int) = 0) = true := by decide
          have d4 : decide ((15 : Int) = 0) = false := by decide
          have d6 : decide (¬ (15 : Int) = 15) = false := by decide
          have d7 : decide (¬ (0 : Int) = 0) = false := by decide
          have g2 := hL7 false
          (have zx1 := @hkd; have zx2 := @hw; have zx3 := @hke; have zx4 := @hku; have zx5 := @d1; have zx6 := @d3; have zx7 := @d4; have zx8 := @d6; have zx9 := @d7; all_goals (try ((first | (with_reducible refine wp_id ?_) | (with_reducible refine does_id ?_) | (with_reducible refine ops_id ?_)); refine walk ?_; (repeat' (first | exact trivial | with_reducible refine And.intro ?_ ?_)); all_goals (repeat (first | (with_reducible refine ImpB.mk fun hb => ?_) | (with_reducible refine ImpK.mk fun hK => ?_) | (with_reducible refine ImpF.mk fun hF => ?_) | (with_reducible refine ImpQ.mk fun hp => ?_) | (with_reducible refine AllE.mk fun p => ?_) | (with_reducible refine AllR.mk fun rest => ?_) | (with_reducible refine AllK.mk fun K => ?_))))); repeat' (with_reducible refine And.intro ?_ ?_))
          all_goals first | (show _ ≤ (_ : Int); omega) | (show _ < (_ : Int); omega) | skip
          refine ⟨(i + 1, L ++ [pR i k false], u), ⟨⟨by dsimp only; omega, inv_no HI hk⟩, by dsimp only; omega⟩, ?_⟩
          (focus (refine ⟨_, _, Gh.refl, [0], rfl, ?_⟩; (refine fitq ?_ ?_ ?_ <;> try exact trivial); (try any_goals (refine ⟨?_, ?_⟩)); (try any_goals (with_reducible rfl))))
          all_goals (repeat' (first | (refine And.intro ?_ ?_) | rfl))
      · have hkd : decide ((i : Int) < l.length) = false := decide_eq_false (by omega)
        (have zx1 := @hkd; all_goals (try ((first | (with_reducible refine wp_id ?_) | (with_reducible refine does_id ?_) | (with_reducible refine ops_id ?_)); refine walk ?_; (repeat' (first | exact trivial | with_reducible refine And.intro ?_ ?_)); all_goals (repeat (first | (with_reducible refine ImpB.mk fun hb => ?_) | (with_reducible refine ImpK.mk fun hK => ?_) | (with_reducible refine ImpF.mk fun hF => ?_) | (with_reducible refine ImpQ.mk fun hp => ?_) | (with_reducible refine AllE.mk fun p => ?_) | (with_reducible refine AllR.mk fun rest => ?_) | (with_reducible refine AllK.mk fun K => ?_))))); repeat' (with_reducible refine And.intro ?_ ?_))
        (focus (refine ⟨_, _, Gh.refl, [], rfl, ?_⟩; (refine fitq ?_ ?_ ?_ <;> try exact trivial); (try any_goals (refine ⟨?_, ?_⟩)); (try any_goals (with_reducible rfl))))
  · have d0 : decide ((40 : Int) < l.length) = true := decide_eq_true (by omega)
    refine w_body (rs := [.tmp 4]) (tm := [.ro .int l, .ro .bool stop, .any, .any, .any, .any, .any, .any, .any, .any, .any, .any, .any, .any, .any, .any, .any, .any, .any, .any, .any, .any, .any, .any, .any, .any, .any, .any, .any, .any, .any, .any, .any, .any, .any, .any, .any, .any, .any, .any, .any, .any, .any, .any, .any, .any, .any, .any, .any, .any, .any, .any, .any, .any, .any, .any, .any, .any, .any, .any, .any, .any, .any, .any, .any, .any, .any, .any, .any, .any, .any, .any, .any, .any, .any, .any, .any, .any, .any, .any, .any, .any]) fn_4 rfl rfl rfl rfl fun R hR => ?_
    (have zx1 := @d0; all_goals (try ((first | (with_reducible refine wp_id ?_) | (with_reducible refine does_id ?_) | (with_reducible refine ops_id ?_)); refine walk ?_; (repeat' (first | exact trivial | with_reducible refine And.intro ?_ ?_)); all_goals (repeat (first | (with_reducible refine ImpB.mk fun hb => ?_) | (with_reducible refine ImpK.mk fun hK => ?_) | (with_reducible refine ImpF.mk fun hF => ?_) | (with_reducible refine ImpQ.mk fun hp => ?_) | (with_reducible refine AllE.mk fun p => ?_) | (with_reducible refine AllR.mk fun rest => ?_) | (with_reducible refine AllK.mk fun K => ?_))))); repeat' (with_reducible refine And.intro ?_ ?_))
    (focus (refine ⟨_, _, Gh.refl, [], rfl, ?_⟩; (refine fitq ?_ ?_ ?_ <;> try exact trivial); (try any_goals (refine ⟨?_, ?_⟩)); (try any_goals (with_reducible rfl))))
end Go.V

set_option maxRecDepth 100000
set_option maxHeartbeats 8000000
namespace Go.V
open Go.Proofs
attribute [-go_sem] EN PL Wr
theorem k_fLoadS {h : List Ch} {K : KT} {u t n : Nat} {now : Int} {L L' : List Prg} {id res c : Int} {l : List Stp} (H : K (.int .i64 c) ((frHs t .stp l (h.set t .gone)).set u (.pack (EN now L')))) (o : hth h t = .rows .stp l) (o1 : hth (frHs t .stp l (h.set t .gone)) u = .pack (EN now L)) (e : LdS L id res l c L') (s1 : n = l.length) (s2 : frObH t .stp l.length h) (s3 : smQ l) (s4 : L.length ≤ 1000000) : Does Try.prog 12 [.ptr u 0, .int .i64 id, .int .i64 res, .sl t .stp 0 n] h K := by
  subst s1
  refine Does.ghost (gh_frz (e := .stp) (xs := l) o ?_ s2) ?_
  · simp [frObL, frOb]
  · have e1 : frL t .stp l [.ptr u 0, .int .i64 id, .int .i64 res, .sl t .stp 0 l.length] = [.ptr u 0, .int .i64 id, .int .i64 res, .ro .stp l] := by simp [frL, frA]
    rw [e1]
    exact c_fLoad H o1 isRO_ro e s4 (litQ_of s3) s3
theorem c_fLoadS {h : List Ch} {K : KT} {u t n : Nat} {now : Int} {L L' : List Prg} {id res c : Int} {l : List Stp} (H : K (.int .i64 c) ((frHs t .stp l (h.set t .gone)).set u (.pack (EN now L')))) (o : hth h t = .rows .stp l) (o1 : hth (frHs t .stp l (h.set t .gone)) u = .pack (EN now L)) (e : LdS L id res l c L') (s1 : n = l.length) (s2 : frObH t .stp l.length h) (s3 : smQ l) (s4 : L.length ≤ 1000000) : Does Try.prog 12 [.ptr u 0, .int .i64 id, .int .i64 res, .sl t .stp 0 n] h K :=
  k_fLoadS H o o1 e s1 s2 s3 s4
abbrev i_fLoadS := Ctr.mk (i := 2) (g := 12) @c_fLoadS
attribute [instance] i_fLoadS
theorem b_bounds (n t : Int) : DoesK Try.prog 0 3 [.int .i64 n, .int .i64 t] [] (EndF 0 (.bool true) []) := by
  refine DoesK.close ?_
  by_cases hin : 1 ≤ n ∧ n ≤ 200 ∧ 1 ≤ t ∧ t ≤ 20
  · obtain ⟨N, rfl⟩ : ∃ N : Nat, n = N := ⟨n.toNat, by omega⟩
    obtain ⟨T, rfl⟩ : ∃ T : Nat, t = T := ⟨t.toNat, by omega⟩
    obtain ⟨n1, n2, t1, t2⟩ := hin
    have a1 : decide ((N : Int) < 1) = false := decide_eq_false (by omega)
    have a2 : decide ((200 : Int) < N) = false := decide_eq_false (by omega)
    have a3 : decide ((T : Int) < 1) = false := decide_eq_false (by omega)
    have a4 : decide ((20 : Int) < T) = false := decide_eq_false (by omega)
    refine w_body (rs := [.tmp 4]) (tm := [.int .i64 N, .int .i64 T, .any, .any, .any, .any, .any, .any, .any, .any, .any, .any, .any, .any, .any, .any, .any, .any, .any, .any, .any, .any, .any, .any, .any, .any, .any, .any, .any, .any, .any, .any, .any, .any, .any, .any, .any, .any, .any, .any, .any, .any, .any, .any, .any, .any, .any, .any, .any, .any, .any, .any, .any, .any, .any, .any, .any, .any, .any, .any, .any, .any, .any, .any, .any, .any, .any, .any, .any, .any, .any, .any, .any, .any, .any, .any, .any, .any, .any, .any, .any, .any, .any, .any, .any, .any, .any, .any, .any, .any, .any, .any, .any, .any, .any, .any, .any, .any, .any, .any, .any, .any, .any, .any, .any, .any, .any, .any, .any, .any]) fn_3 rfl rfl rfl rfl fun R hR => ?_
    (have zx1 := @a1; have zx2 := @a2; have zx3 := @a3; have zx4 := @a4; all_goals (try ((first | (with_reducible refine wp_id ?_) | (with_reducible refine does_id ?_) | (with_reducible refine ops_id ?_)); refine walk ?_; (repeat' (first | exact trivial | with_reducible refine And.intro ?_ ?_)); all_goals (repeat (first | (with_reducible refine ImpB.mk fun hb => ?_) | (with_reducible refine ImpK.mk fun hK => ?_) | (with_reducible refine ImpF.mk fun hF => ?_) | (with_reducible refine ImpQ.mk fun hp => ?_) | (with_reducible refine AllE.mk fun p => ?_) | (with_reducible refine AllR.mk fun rest => ?_) | (with_reducible refine AllK.mk fun K => ?_))))); repeat' (with_reducible refine And.intro ?_ ?_))
    refine Wp.ghost (gh_adopt (s := 7) .stp trivial) ?_
    simp only [go_sem, decide_true, decide_false, Int.reduceToNat, Nat.min_eq_left, Nat.min_eq_right, Int.reducePow, Nat.reducePow, Int.reduceLE, Int.reduceLT, Int.reduceMul, Int.reduceAdd, Int.reduceSub, Int.reduceNeg, Bool.not_true, Bool.not_false, Bool.not_not, ↓reduceIte, Nat.reduceAdd, Nat.reduceSub, Nat.reduceMul, Nat.reduceEqDiff, reduceCtorEq, Nat.reduceLT, Nat.reduceLeDiff, Nat.reduceGT]
    any_goals ((try (refine w_seq fun K hK => ?_)); (try (refine w_block ?_)); refine w_loop (A := Nat) (fun k => k ≤ N) (fun k => N - k) (fun k => [(8, .int .i64 k), (7, .sl 1 .stp 0 k)]) (fun k => [(1, .rows .stp (pS k))]) (0) (ws := ?ws1) (tk := ?tk1) ?hw1 ?ht1 ?hi ?h0 ?LH1; (case hw1 => simp only [go_sem, decide_true, decide_false, Int.reduceToNat, Nat.min_eq_left, Nat.min_eq_right, Int.reducePow, Nat.reducePow, Int.reduceLE, Int.reduceLT, Int.reduceMul, Int.reduceAdd, Int.reduceSub, Int.reduceNeg, Bool.not_true, Bool.not_false, Bool.not_not, ↓reduceIte, Nat.reduceAdd, Nat.reduceSub, Nat.reduceMul, Nat.reduceEqDiff, reduceCtorEq, Nat.reduceLT, Nat.reduceLeDiff, Nat.reduceGT]; exact rfl); (case ht1 => simp only [go_sem, decide_true, decide_false, Int.reduceToNat, Nat.min_eq_left, Nat.min_eq_right, Int.reducePow, Nat.reducePow, Int.reduceLE, Int.reduceLT, Int.reduceMul, Int.reduceAdd, Int.reduceSub, Int.reduceNeg, Bool.not_true, Bool.not_false, Bool.not_not, ↓reduceIte, Nat.reduceAdd, Nat.reduceSub, Nat.reduceMul, Nat.reduceEqDiff, reduceCtorEq, Nat.reduceLT, Nat.reduceLeDiff, Nat.reduceGT]; exact rfl); (case' LH1 => rintro k E t hx hE ht; simp only [go_sem] at ht; subst ht; simp only [go_sem]; try dsimp only at hx))
    case hi => exact Nat.zero_le _
    case h0 => (focus (refine ⟨_, _, Gh.refl, [0, 1], rfl, ?_⟩; (refine fitq ?_ ?_ ?_ <;> try exact trivial); (try any_goals (refine ⟨?_, ?_⟩)); (try any_goals (with_reducible rfl)))); all_goals (repeat' (first | (refine And.intro ?_ ?_) | rfl))
    case LH1 =>
      have hk0 : k ≤ N := hx
      have hpl := pS_len k
      by_cases hk : k < N
      · have hkd : decide ((k : Int) < N) = true := decide_eq_true (by omega)
        have hw : IntKind.i64.wrap ((k : Int) + 1) = ((k + 1 : Nat) : Int) := by rw [wrap_i64 _ (by omega) (by omega)]; omega
        have hsn := pS_snoc k
        have hro : RoLit := .mk
        (have zx1 := @hkd; have zx2 := @hw; have zx3 := @hsn; all_goals (try ((first | (with_reducible refine wp_id ?_) | (with_reducible refine does_id ?_) | (with_reducible refine ops_id ?_)); refine walk ?_; (repeat' (first | exact trivial | with_reducible refine And.intro ?_ ?_)); all_goals (repeat (first | (with_reducible refine ImpB.mk fun hb => ?_) | (with_reducible refine ImpK.mk fun hK => ?_) | (with_reducible refine ImpF.mk fun hF => ?_) | (with_reducible refine ImpQ.mk fun hp => ?_) | (with_reducible refine AllE.mk fun p => ?_) | (with_reducible refine AllR.mk fun rest => ?_) | (with_reducible refine AllK.mk fun K => ?_))))); repeat' (with_reducible refine And.intro ?_ ?_))
        all_goals first | (show (_ : Nat) = _; omega) | (show _ ≤ (_ : Nat); omega) | skip
        refine ⟨k + 1, ⟨by first | omega | (dsimp only; omega), by first | omega | (dsimp only; omega)⟩, ?_⟩
        (focus (refine ⟨_, _, Gh.refl, [0, 2], rfl, ?_⟩; (refine fitq ?_ ?_ ?_ <;> try exact trivial); (try any_goals (refine ⟨?_, ?_⟩)); (try any_goals (with_reducible rfl))))
        all_goals (repeat' (first | (refine And.intro ?_ ?_) | rfl | omega))
      · have hkd : decide ((k : Int) < N) = false := decide_eq_false (by omega)
        obtain rfl : k = N := by omega
        have hro : RoLit := .mk
        have f1 := ld1 (n := k) (by omega) (by omega)
        have f2 := ld2 (n := k)
        have f3 := sr1 (n := k)
        have f4 := sr2 (n := k)
        have hsm := pS_sm (n := k) (by omega)
        have hsm2 := gL_sm
        have hlit2 := litQ_of gL_sm
        (have zx1 := @hkd; all_goals (try ((first | (with_reducible refine wp_id ?_) | (with_reducible refine does_id ?_) | (with_reducible refine ops_id ?_)); refine walk ?_; (repeat' (first | exact trivial | with_reducible refine And.intro ?_ ?_)); all_goals (repeat (first | (with_reducible refine ImpB.mk fun hb => ?_) | (with_reducible refine ImpK.mk fun hK => ?_) | (with_reducible refine ImpF.mk fun hF => ?_) | (with_reducible refine ImpQ.mk fun hp => ?_) | (with_reducible refine AllE.mk fun p => ?_) | (with_reducible refine AllR.mk fun rest => ?_) | (with_reducible refine AllK.mk fun K => ?_))))); repeat' (with_reducible refine And.intro ?_ ?_))
        case' neg.refine_1 => skip
        rotate_left
        · simp only [go_sem, decide_true, decide_false, Int.reduceToNat, Nat.min_eq_left, Nat.min_eq_right, Int.reducePow, Nat.reducePow, Int.reduceLE, Int.reduceLT, Int.reduceMul, Int.reduceAdd, Int.reduceSub, Int.reduceNeg, Bool.not_true, Bool.not_false, Bool.not_not, ↓reduceIte, Nat.reduceAdd, Nat.reduceSub, Nat.reduceMul, Nat.reduceEqDiff, reduceCtorEq, Nat.reduceLT, Nat.reduceLeDiff, Nat.reduceGT]
          all_goals first | exact ⟨Nat.le_refl _, False.elim⟩ | (repeat' (first | (refine And.intro ?_ ?_) | rfl | exact False.elim))
        any_goals ((try (refine w_seq fun K hK => ?_)); (try (refine w_block ?_)); refine w_loop (A := Nat) (fun j => j ≤ T) (fun j => T - j) (fun j => [(13, .int .i64 ((j + 1 : Nat) : Int)), (12, .int .i64 ((min (16 * j) k : Nat) : Int))]) (fun j => [(2, .pack (EN (j : Int) (LB k j)))]) (0) (ws := ?ws2) (tk := ?tk2) ?hw2 ?ht2 ?hi_1 ?h0_1 ?LH2; (case hw2 => simp only [go_sem, decide_true, decide_false, Int.reduceToNat, Nat.min_eq_left, Nat.min_eq_right, Int.reducePow, Nat.reducePow, Int.reduceLE, Int.reduceLT, Int.reduceMul, Int.reduceAdd, Int.reduceSub, Int.reduceNeg, Bool.not_true, Bool.not_false, Bool.not_not, ↓reduceIte, Nat.reduceAdd, Nat.reduceSub, Nat.reduceMul, Nat.reduceEqDiff, reduceCtorEq, Nat.reduceLT, Nat.reduceLeDiff, Nat.reduceGT]; exact rfl); (case ht2 => simp only [go_sem, decide_true, decide_false, Int.reduceToNat, Nat.min_eq_left, Nat.min_eq_right, Int.reducePow, Nat.reducePow, Int.reduceLE, Int.reduceLT, Int.reduceMul, Int.reduceAdd, Int.reduceSub, Int.reduceNeg, Bool.not_true, Bool.not_false, Bool.not_not, ↓reduceIte, Nat.reduceAdd, Nat.reduceSub, Nat.reduceMul, Nat.reduceEqDiff, reduceCtorEq, Nat.reduceLT, Nat.reduceLeDiff, Nat.reduceGT]; exact rfl); (case' LH2 => rintro j E t hx hE ht; simp only [go_sem] at ht; subst ht; simp only [go_sem]; try dsimp only at hx))
        case hi_1 => exact Nat.zero_le _
        case h0_1 =>
          have e0 : LB k 0 = [p1 k true 0, p2 true] := by
            unfold LB
            rw [decide_eq_true (by omega : 16 * 0 ≤ k), show min (16 * 0) k = 0 by omega]
          have e1 : min (16 * 0) k = 0 := by omega
          rw [e0, e1]
          (focus (refine ⟨_, _, Gh.refl, [0, 1, 2], rfl, ?_⟩; (refine fitq ?_ ?_ ?_ <;> try exact trivial); (try any_goals (refine ⟨?_, ?_⟩)); (try any_goals (with_reducible rfl))))
          all_goals (repeat' (first | (refine And.intro ?_ ?_) | rfl))
        case LH2 =>
          have hj0 : j ≤ T := hx
          by_cases hj : j < T
          · have hjd : decide (((j + 1 : Nat) : Int) ≤ T) = true := decide_eq_true (by omega)
            have hw : IntKind.i64.wrap (((j + 1 : Nat) : Int) + 1) = ((j + 1 + 1 : Nat) : Int) := by rw [wrap_i64 _ (by omega) (by omega)]; omega
            obtain ⟨O, hO, hOl⟩ := tkB k j (by omega)
            have hok := LB_ok (n := k) (j := j) (by omega)
            have hwm : IntKind.i64.wrap ((k : Int) - ((min (16 * j) k : Nat) : Int)) = ((k - min (16 * j) k : Nat) : Int) := by rw [wrap_i64 _ (by omega) (by omega)]; omega
            have hme : decide (¬ (O.length : Int) = min 16 ((k - min (16 * j) k : Nat) : Int)) = false := decide_eq_false (by omega)
            have hws : IntKind.i64.wrap (((min (16 * j) k : Nat) : Int) + (O.length : Int)) = ((min (16 * (j + 1)) k : Nat) : Int) := by rw [wrap_i64 _ (by omega) (by omega)]; omega
            (have zx1 := @hjd; have zx2 := @hw; have zx3 := @hwm; have zx4 := @hme; have zx5 := @hws; all_goals (try ((first | (with_reducible refine wp_id ?_) | (with_reducible refine does_id ?_) | (with_reducible refine ops_id ?_)); refine walk ?_; (repeat' (first | exact trivial | with_reducible refine And.intro ?_ ?_)); all_goals (repeat (first | (with_reducible refine ImpB.mk fun hb => ?_) | (with_reducible refine ImpK.mk fun hK => ?_) | (with_reducible refine ImpF.mk fun hF => ?_) | (with_reducible refine ImpQ.mk fun hp => ?_) | (with_reducible refine AllE.mk fun p => ?_) | (with_reducible refine AllR.mk fun rest => ?_) | (with_reducible refine AllK.mk fun K => ?_))))); repeat' (with_reducible refine And.intro ?_ ?_))
            all_goals first | (show (_ : Nat) = _; omega) | (show _ ≤ (_ : Nat); omega) | (show _ ≤ (_ : Int); omega) | (show _ < (_ : Int); omega) | skip
            refine ⟨j + 1, ⟨by first | omega | (dsimp only; omega), by first | omega | (dsimp only; omega)⟩, ?_⟩
            (focus (refine ⟨_, _, Gh.refl, [0, 1, 2], rfl, ?_⟩; (refine fitq ?_ ?_ ?_ <;> try exact trivial); (try any_goals (refine ⟨?_, ?_⟩)); (try any_goals (with_reducible rfl))))
            all_goals (repeat' (first | (refine And.intro ?_ ?_) | rfl | omega))
          · obtain rfl : j = T := by omega
            have hjd : decide (((j + 1 : Nat) : Int) ≤ j) = false := decide_eq_false (by omega)
            have hrn := rnB k j
            have hm : IntKind.i64.wrap (16 * (j : Int)) = ((16 * j : Nat) : Int) := by rw [wrap_i64 _ (by omega) (by omega)]; omega
            have z1 : decide (([1, 2] : List Int) = [1, 2]) = true := by decide
            have z2 : decide (([2] : List Int) = [2]) = true := by decide
            by_cases c1 : k < 16 * j
            · rw [if_neg (by omega)] at hrn
              have c2 : decide ((k : Int) < ((16 * j : Nat) : Int)) = true := decide_eq_true (by omega)
              have c3 : decide ((k : Int) ≤ ((16 * j : Nat) : Int)) = true := decide_eq_true (by omega)
              (have zx1 := @hjd; have zx2 := @hm; have zx3 := @c2; have zx4 := @c3; have zx5 := @z1; have zx6 := @z2; all_goals (try ((first | (with_reducible refine wp_id ?_) | (with_reducible refine does_id ?_) | (with_reducible refine ops_id ?_)); refine walk ?_; (repeat' (first | exact trivial | with_reducible refine And.intro ?_ ?_)); all_goals (repeat (first | (with_reducible refine ImpB.mk fun hb => ?_) | (with_reducible refine ImpK.mk fun hK => ?_) | (with_reducible refine ImpF.mk fun hF => ?_) | (with_reducible refine ImpQ.mk fun hp => ?_) | (with_reducible refine AllE.mk fun p => ?_) | (with_reducible refine AllR.mk fun rest => ?_) | (with_reducible refine AllK.mk fun K => ?_))))); repeat' (with_reducible refine And.intro ?_ ?_))
              all_goals first | (exact absurd hb (by decide)) | (focus (refine ⟨_, _, Gh.refl, [], rfl, ?_⟩; (refine fitq ?_ ?_ ?_ <;> try exact trivial); (try any_goals (refine ⟨?_, ?_⟩)); (try any_goals (with_reducible rfl))))
            · rw [if_pos (by omega)] at hrn
              have c2 : decide ((k : Int) < ((16 * j : Nat) : Int)) = false := decide_eq_false (by omega)
              by_cases c4 : k = 16 * j
              · have c3 : decide ((k : Int) ≤ ((16 * j : Nat) : Int)) = true := decide_eq_true (by omega)
                have c5 : decide (¬ (k : Int).tmod 16 = 0) = false := decide_eq_false (fun q => q (by rw [c4]; exact Int.tmod_eq_zero_of_dvd ⟨(j : Int), by omega⟩))
                (have zx1 := @hjd; have zx2 := @hm; have zx3 := @c2; have zx4 := @c3; have zx5 := @c5; have zx6 := @z1; have zx7 := @z2; all_goals (try ((first | (with_reducible refine wp_id ?_) | (with_reducible refine does_id ?_) | (with_reducible refine ops_id ?_)); refine walk ?_; (repeat' (first | exact trivial | with_reducible refine And.intro ?_ ?_)); all_goals (repeat (first | (with_reducible refine ImpB.mk fun hb => ?_) | (with_reducible refine ImpK.mk fun hK => ?_) | (with_reducible refine ImpF.mk fun hF => ?_) | (with_reducible refine ImpQ.mk fun hp => ?_) | (with_reducible refine AllE.mk fun p => ?_) | (with_reducible refine AllR.mk fun rest => ?_) | (with_reducible refine AllK.mk fun K => ?_))))); repeat' (with_reducible refine And.intro ?_ ?_))
                all_goals first | (exact absurd hb (by decide)) | (focus (refine ⟨_, _, Gh.refl, [], rfl, ?_⟩; (refine fitq ?_ ?_ ?_ <;> try exact trivial); (try any_goals (refine ⟨?_, ?_⟩)); (try any_goals (with_reducible rfl))))
              · have c3 : decide ((k : Int) ≤ ((16 * j : Nat) : Int)) = false := decide_eq_false (by omega)
                (have zx1 := @hjd; have zx2 := @hm; have zx3 := @c3; have zx4 := @z1; have zx5 := @z2; all_goals (try ((first | (with_reducible refine wp_id ?_) | (with_reducible refine does_id ?_) | (with_reducible refine ops_id ?_)); refine walk ?_; (repeat' (first | exact trivial | with_reducible refine And.intro ?_ ?_)); all_goals (repeat (first | (with_reducible refine ImpB.mk fun hb => ?_) | (with_reducible refine ImpK.mk fun hK => ?_) | (with_reducible refine ImpF.mk fun hF => ?_) | (with_reducible refine ImpQ.mk fun hp => ?_) | (with_reducible refine AllE.mk fun p => ?_) | (with_reducible refine AllR.mk fun rest => ?_) | (with_reducible refine AllK.mk fun K => ?_))))); repeat' (with_reducible refine And.intro ?_ ?_))
                all_goals first | (exact absurd hb (by decide)) | (focus (refine ⟨_, _, Gh.refl, [], rfl, ?_⟩; (refine fitq ?_ ?_ ?_ <;> try exact trivial); (try any_goals (refine ⟨?_, ?_⟩)); (try any_goals (with_reducible rfl))))
  · by_cases b1 : n < 1
    · have a1 : decide (n < 1) = true := decide_eq_true b1
      refine w_body (rs := [.tmp 4]) (tm := [.int .i64 n, .int .i64 t, .any, .any, .any, .any, .any, .any, .any, .any, .any, .any, .any, .any, .any, .any, .any, .any, .any, .any, .any, .any, .any, .any, .any, .any, .any, .any, .any, .any, .any, .any, .any, .any, .any, .any, .any, .any, .any, .any, .any, .any, .any, .any, .any, .any, .any, .any, .any, .any, .any, .any, .any, .any, .any, .any, .any, .any, .any, .any, .any, .any, .any, .any, .any, .any, .any, .any, .any, .any, .any, .any, .any, .any, .any, .any, .any, .any, .any, .any, .any, .any, .any, .any, .any, .any, .any, .any, .any, .any, .any, .any, .any, .any, .any, .any, .any, .any, .any, .any, .any, .any, .any, .any, .any, .any, .any, .any, .any, .any]) fn_3 rfl rfl rfl rfl fun R hR => ?_
      (have zx1 := @a1; all_goals (try ((first | (with_reducible refine wp_id ?_) | (with_reducible refine does_id ?_) | (with_reducible refine ops_id ?_)); refine walk ?_; (repeat' (first | exact trivial | with_reducible refine And.intro ?_ ?_)); all_goals (repeat (first | (with_reducible refine ImpB.mk fun hb => ?_) | (with_reducible refine ImpK.mk fun hK => ?_) | (with_reducible refine ImpF.mk fun hF => ?_) | (with_reducible refine ImpQ.mk fun hp => ?_) | (with_reducible refine AllE.mk fun p => ?_) | (with_reducible refine AllR.mk fun rest => ?_) | (with_reducible refine AllK.mk fun K => ?_))))); repeat' (with_reducible refine And.intro ?_ ?_))
      (focus (refine ⟨_, _, Gh.refl, [], rfl, ?_⟩; (refine fitq ?_ ?_ ?_ <;> try exact trivial); (try any_goals (refine ⟨?_, ?_⟩)); (try any_goals (with_reducible rfl))))
    have a1 : decide (n < 1) = false := decide_eq_false b1
    by_cases b2 : 200 < n
    · have a2 : decide (200 < n) = true := decide_eq_true b2
      refine w_body (rs := [.tmp 4]) (tm := [.int .i64 n, .int .i64 t, .any, .any, .any, .any, .any, .any, .any, .any, .any, .any, .any, .any, .any, .any, .any, .any, .any, .any, .any, .any, .any, .any, .any, .any, .any, .any, .any, .any, .any, .any, .any, .any, .any, .any, .any, .any, .any, .any, .any, .any, .any, .any, .any, .any, .any, .any, .any, .any, .any, .any, .any, .any, .any, .any, .any, .any, .any, .any, .any, .any, .any, .any, .any, .any, .any, .any, .any, .any, .any, .any, .any, .any, .any, .any, .any, .any, .any, .any, .any, .any, .any, .any, .any, .any, .any, .any, .any, .any, .any, .any, .any, .any, .any, .any, .any, .any, .any, .any, .any, .any, .any, .any, .any, .any, .any, .any, .any, .any]) fn_3 rfl rfl rfl rfl fun R hR => ?_
      (have zx1 := @a1; have zx2 := @a2; all_goals (try ((first | (with_reducible refine wp_id ?_) | (with_reducible refine does_id ?_) | (with_reducible refine ops_id ?_)); refine walk ?_; (repeat' (first | exact trivial | with_reducible refine And.intro ?_ ?_)); all_goals (repeat (first | (with_reducible refine ImpB.mk fun hb => ?_) | (with_reducible refine ImpK.mk fun hK => ?_) | (with_reducible refine ImpF.mk fun hF => ?_) | (with_reducible refine ImpQ.mk fun hp => ?_) | (with_reducible refine AllE.mk fun p => ?_) | (with_reducible refine AllR.mk fun rest => ?_) | (with_reducible refine AllK.mk fun K => ?_))))); repeat' (with_reducible refine And.intro ?_ ?_))
      (focus (refine ⟨_, _, Gh.refl, [], rfl, ?_⟩; (refine fitq ?_ ?_ ?_ <;> try exact trivial); (try any_goals (refine ⟨?_, ?_⟩)); (try any_goals (with_reducible rfl))))
    have a2 : decide (200 < n) = false := decide_eq_false b2
    by_cases b3 : t < 1
    · have a3 : decide (t < 1) = true := decide_eq_true b3
      refine w_body (rs := [.tmp 4]) (tm := [.int .i64 n, .int .i64 t, .any, .any, .any, .any, .any, .any, .any, .any, .any, .any, .any, .any, .any, .any, .any, .any, .any, .any, .any, .any, .any, .any, .any, .any, .any, .any, .any, .any, .any, .any, .any, .any, .any, .any, .any, .any, .any, .any, .any, .any, .any, .any, .any, .any, .any, .any, .any, .any, .any, .any, .any, .any, .any, .any, .any, .any, .any, .any, .any, .any, .any, .any, .any, .any, .any, .any, .any, .any, .any, .any, .any, .any, .any, .any, .any, .any, .any, .any, .any, .any, .any, .any, .any, .any, .any, .any, .any, .any, .any, .any, .any, .any, .any, .any, .any, .any, .any, .any, .any, .any, .any, .any, .any, .any, .any, .any, .any, .any]) fn_3 rfl rfl rfl rfl fun R hR => ?_
      (have zx1 := @a1; have zx2 := @a2; have zx3 := @a3; all_goals (try ((first | (with_reducible refine wp_id ?_) | (with_reducible refine does_id ?_) | (with_reducible refine ops_id ?_)); refine walk ?_; (repeat' (first | exact trivial | with_reducible refine And.intro ?_ ?_)); all_goals (repeat (first | (with_reducible refine ImpB.mk fun hb => ?_) | (with_reducible refine ImpK.mk fun hK => ?_) | (with_reducible refine ImpF.mk fun hF => ?_) | (with_reducible refine ImpQ.mk fun hp => ?_) | (with_reducible refine AllE.mk fun p => ?_) | (with_reducible refine AllR.mk fun rest => ?_) | (with_reducible refine AllK.mk fun K => ?_))))); repeat' (with_reducible refine And.intro ?_ ?_))
      (focus (refine ⟨_, _, Gh.refl, [], rfl, ?_⟩; (refine fitq ?_ ?_ ?_ <;> try exact trivial); (try any_goals (refine ⟨?_, ?_⟩)); (try any_goals (with_reducible rfl))))
    have a3 : decide (t < 1) = false := decide_eq_false b3
    have a4 : decide (20 < t) = true := decide_eq_true (by omega)
    refine w_body (rs := [.tmp 4]) (tm := [.int .i64 n, .int .i64 t, .any, .any, .any, .any, .any, .any, .any, .any, .any, .any, .any, .any, .any, .any, .any, .any, .any, .any, .any, .any, .any, .any, .any, .any, .any, .any, .any, .any, .any, .any, .any, .any, .any, .any, .any, .any, .any, .any, .any, .any, .any, .any, .any, .any, .any, .any, .any, .any, .any, .any, .any, .any, .any, .any, .any, .any, .any, .any, .any, .any, .any, .any, .any, .any, .any, .any, .any, .any, .any, .any, .any, .any, .any, .any, .any, .any, .any, .any, .any, .any, .any, .any, .any, .any, .any, .any, .any, .any, .any, .any, .any, .any, .any, .any, .any, .any, .any, .any, .any, .any, .any, .any, .any, .any, .any, .any, .any, .any]) fn_3 rfl rfl rfl rfl fun R hR => ?_
    (have zx1 := @a1; have zx2 := @a2; have zx3 := @a3; have zx4 := @a4; all_goals (try ((first | (with_reducible refine wp_id ?_) | (with_reducible refine does_id ?_) | (with_reducible refine ops_id ?_)); refine walk ?_; (repeat' (first | exact trivial | with_reducible refine And.intro ?_ ?_)); all_goals (repeat (first | (with_reducible refine ImpB.mk fun hb => ?_) | (with_reducible refine ImpK.mk fun hK => ?_) | (with_reducible refine ImpF.mk fun hF => ?_) | (with_reducible refine ImpQ.mk fun hp => ?_) | (with_reducible refine AllE.mk fun p => ?_) | (with_reducible refine AllR.mk fun rest => ?_) | (with_reducible refine AllK.mk fun K => ?_))))); repeat' (with_reducible refine And.intro ?_ ?_))
    (focus (refine ⟨_, _, Gh.refl, [], rfl, ?_⟩; (refine fitq ?_ ?_ ?_ <;> try exact trivial); (try any_goals (refine ⟨?_, ?_⟩)); (try any_goals (with_reducible rfl))))
end Go.V

namespace Go.V
/-- all that lies in the memory at the start lies for good -/
def oldR (w : World) : RO := fun b => w.heap[b]?
theorem old_ok (w : World) : HOk (oldR w) [] [] w := ⟨trivial, by simp [ownH], fun b hb => by simp [ownH] at hb, fun _ _ h => h⟩
theorem cell_of {w : World} {a : Addr} {v : Value} (h : w.cell? a = some v) : a.spot = none ∧ ∃ arr ty fr, w.heap[a.block]? = some (.cells arr ty fr) ∧ arr[a.off]? = some v := by
  unfold World.cell? at h
  split at h
  · rename_i c ty fr hc
    split at h
    · simp at h
    · rename_i hs
      exact ⟨by simpa using hs, c, ty, fr, hc, h⟩
  · simp at h
theorem add_block (a : Addr) (i : Nat) : (a.add i).block = a.block := by
  unfold Addr.add
  split <;> rfl
theorem add_off (a : Addr) (i : Nat) : (a.add i).off = a.off + i := by
  unfold Addr.add
  split
  · simp_all
  · rfl
/-- some cells in a row -/
theorem cells_of {w : World} {base : Nat} {a : Addr} {n : Nat} {cs : List Value} (h : w.cells? base a n = some cs) (hn : 0 < n) : a.spot = none ∧ ∃ arr ty fr, w.heap[a.block]? = some (.cells arr ty fr) ∧ (arr.toList.drop a.off).take n = cs := by
  obtain ⟨_, hl, hg⟩ := World.cells?_some h
  have h0 := hg 0 hn
  rw [List.getElem?_eq_getElem (by omega)] at h0
  obtain ⟨hs, arr, ty, fr, hb, _⟩ := cell_of h0
  rw [add_block] at hb
  refine ⟨by simpa [Addr.add] using hs, arr, ty, fr, hb, ?_⟩
  apply List.ext_getElem?
  intro i
  by_cases hi : i < n
  · have h1 := hg i hi
    rw [List.getElem?_eq_getElem (show i < cs.length by omega)] at h1
    obtain ⟨_, arr', ty', fr', hb', h2⟩ := cell_of h1
    rw [add_block, hb] at hb'
    cases hb'
    rw [add_off] at h2
    rw [List.getElem?_take_of_lt hi, List.getElem?_drop, List.getElem?_eq_getElem (show i < cs.length by omega)]
    simpa using h2
  · rw [List.getElem?_eq_none (by simp; omega), List.getElem?_eq_none (by omega)]
/-- a type: what reads as data of it lies as one of these lists of abstract values -/
def Opens (P : Program) (w : World) (t : TypeId) (S : List AV → Prop) : Prop :=
  ∀ (H : Type) (enc : TypeId × Value → H) (base : Nat) (spare : Nat → Bool) (held : Bool) (fuel : Nat) (cs : List Value) (x : DataW H × List MemPlace), DataW.trod enc P w base spare held fuel t cs = some x → ∃ l, S l ∧ LRel (oldR w) [] l cs
section
variable {P : Program} {w : World}
theorem Opens.mono {t : TypeId} {S S' : List AV → Prop} (h : Opens P w t S) (hs : ∀ l, S l → S' l) : Opens P w t S' := fun H enc base spare held fuel cs x hx => by
  obtain ⟨l, h1, h2⟩ := h H enc base spare held fuel cs x hx
  exact ⟨l, hs l h1, h2⟩
theorem Opens.int {t : TypeId} {k : IntKind} (ht : P.underlying t = some (.int k)) : Opens P w t fun l => ∃ n, k.has n ∧ l = [.int k n] := fun H enc base spare held fuel cs x hx => by
  cases fuel with
  | zero => simp [DataW.trod] at hx
  | succ fuel =>
    unfold DataW.trod at hx
    simp only [ht] at hx
    split at hx
    all_goals first | (rename_i h1 _; cases h1; done) | skip
    all_goals simp_all
    rename_i k' n h1
    subst h1
    obtain ⟨⟨rfl, h2⟩, _⟩ := hx
    exact ⟨_, ⟨n, by simpa [Lit.wf, IntKind.has] using h2, rfl⟩, .cons .int .nil⟩
theorem Opens.bool {t : TypeId} (ht : P.underlying t = some .bool) : Opens P w t fun l => ∃ b, l = [.bool b] := fun H enc base spare held fuel cs x hx => by
  cases fuel with
  | zero => simp [DataW.trod] at hx
  | succ fuel =>
    unfold DataW.trod at hx
    simp only [ht] at hx
    split at hx
    all_goals simp_all
    rename_i b
    cases b
    · exact .inl (.cons .bool .nil)
    · exact .inr (.cons .bool .nil)
def OpL (P : Program) (w : World) : List Field → List (List AV → Prop) → Prop
  | [], [] => True
  | f :: fs, S :: Ss => Opens P w f.type S ∧ OpL P w fs Ss
  | _, _ => False
theorem OpL.len : ∀ {fs : List Field} {Ss : List (List AV → Prop)}, OpL P w fs Ss → fs.length = Ss.length
  | [], [], _ => rfl
  | _ :: _, _ :: _, h => by simp [OpL.len h.2]
  | [], _ :: _, h => h.elim
  | _ :: _, [], h => h.elim
theorem OpL.get : ∀ {fs : List Field} {Ss : List (List AV → Prop)} (i : Nat) {f : Field} {S : List AV → Prop}, OpL P w fs Ss → fs[i]? = some f → Ss[i]? = some S → Opens P w f.type S
  | _ :: _, _ :: _, 0, _, _, h, e1, e2 => by simp at e1 e2; subst e1; subst e2; exact h.1
  | _ :: _, _ :: _, i + 1, _, _, h, e1, e2 => OpL.get i h.2 (by simpa using e1) (by simpa using e2)
  | [], [], _, _, _, _, e1, _ => by simp at e1
  | [], _ :: _, _, _, _, h, _, _ => h.elim
  | _ :: _, [], _, _, _, h, _, _ => h.elim
/-- slices: of the kind of elements e, each as `ok` says -/
theorem Opens.slice {t te : TypeId} {e : Ety} {S : List AV → Prop} {ok : e.T → Prop} (ht : P.underlying t = some (.slice te)) (hsz : P.cellsOf te = e.sz) (he : Opens P w te S) (hok : ∀ l, S l → ∃ x : e.T, e.enc x = l ∧ ok x) :
    Opens P w t fun l => ∃ xs : List e.T, xs.length ≤ maxLen ∧ (∀ x ∈ xs, ok x) ∧ l = [.ro e xs] := fun H enc base spare held fuel cs x hx => by
  rcases DataW.trod_slice ht hx with ⟨rfl, _⟩ | ⟨a, len, cap, elems, rest, n, _, rfl, _, _, hlc, hcm, hel, hg, _⟩
  · exact ⟨[.ro e []], ⟨[], by simp, by simp, rfl⟩, .cons (.ro0 (Nat.zero_le _)) .nil⟩
  · by_cases h0 : len = 0
    · subst h0
      exact ⟨[.ro e []], ⟨[], by simp, by simp, rfl⟩, .cons (.ro0 hcm) .nil⟩
    · have hz := e.sz_pos
      have each : ∀ i, i < len → ∃ (m : e.T) (cs' : List Value), ok m ∧ LRel (oldR w) [] (e.enc m) cs' ∧ w.cells? base (a.add (i * e.sz)) e.sz = some cs' := by
        intro i hi
        have h1 := hg i hi
        rw [List.getElem?_eq_getElem (by omega), hsz] at h1
        obtain ⟨cs', h2, h3⟩ := Option.bind_eq_some_iff.1 h1
        obtain ⟨l, h4, h5⟩ := he H enc base spare held n _ _ h3
        obtain ⟨m, rfl, h6⟩ := hok l h4
        exact ⟨m, cs', h6, h5, h2⟩
      obtain ⟨_, _, _, _, hc0⟩ := each 0 (by omega)
      obtain ⟨hs, arr, ty, fr, hb, _⟩ := cells_of hc0 hz
      have hs0 : a.spot = none := by
        rw [Nat.zero_mul] at hs
        simpa [Addr.add] using hs
      rw [add_block] at hb
      have key : ∀ k, k ≤ len → ∃ xs : List e.T, xs.length = k ∧ (∀ x ∈ xs, ok x) ∧ LRel (oldR w) [] (xs.flatMap e.enc) ((arr.toList.drop a.off).take (k * e.sz)) := by
        intro k
        induction k with
        | zero => intro _; exact ⟨[], rfl, by simp, by simp; exact .nil⟩
        | succ k ih =>
          intro hk
          obtain ⟨xs, h1, h2, h3⟩ := ih (by omega)
          obtain ⟨m, cs', h4, h5, h6⟩ := each k (by omega)
          obtain ⟨_, arr', ty', fr', hb', h7⟩ := cells_of h6 hz
          rw [add_block, hb] at hb'
          cases hb'
          rw [add_off] at h7
          refine ⟨xs ++ [m], by simp [h1], fun x hx => ?_, ?_⟩
          · rcases List.mem_append.1 hx with hx | hx
            · exact h2 x hx
            · rw [List.mem_singleton] at hx
              subst hx
              exact h4
          · rw [List.flatMap_append, List.flatMap_singleton, Nat.succ_mul, List.take_add, List.drop_drop, h7]
            exact h3.app h5
      obtain ⟨xs, h1, h2, h3⟩ := key len (Nat.le_refl _)
      refine ⟨[.ro e xs], ⟨xs, by omega, h2, rfl⟩, .cons ?_ .nil⟩
      obtain ⟨ab, ao, sp⟩ := a
      simp only at hs0
      subst hs0
      rw [← h1]
      exact .ro hb (by rw [h1]; exact h3) (by omega) hcm
/-! ### Arguments -/
def OpensV (P : Program) (w : World) (t : TypeId) (S : AV → Prop) : Prop :=
  ∀ (H : Type) (enc : TypeId × Value → H) (r : Reach) (b0 : Nat) (v : Value) (d : DataW H) (p : List MemPlace), Value.okWide P w r b0 t v → DataW.Trod enc P w 0 (fun _ => true) true t v d p → ∃ a, S a ∧ Rel (oldR w) [] a v
theorem Opens.arg1 {t : TypeId} {S : List AV → Prop} (h : Opens P w t S) (ht : ∀ v r b0, Value.okWide P w r b0 t v → v.cells = #[v]) : OpensV P w t fun a => S [a] := fun H enc r b0 v d p hv hd => by
  obtain ⟨fuel, hd⟩ := hd
  obtain ⟨l, h1, h2⟩ := h H enc _ _ _ fuel _ _ hd
  rw [ht v r b0 hv] at h2
  cases h2 with
  | cons h3 h4 =>
    cases h4
    exact ⟨_, h1, h3⟩
theorem one_of {t : TypeId} {u : TypeDesc} (ht : P.underlying t = some u) (hu : (match u with | .bool | .int _ | .string | .slice _ => true | _ => false) = true) (v : Value) (r : Reach) (b0 : Nat) (hv : Value.okWide P w r b0 t v) : v.cells = #[v] := by
  unfold Value.okWide at hv
  cases u <;> simp at hu <;> simp only [ht] at hv <;> unfold Cell.okWide Cell.ok at hv <;> simp only [ht] at hv <;> cases v <;> first | rfl | (simp at hv; done)
end
/-- a call over nothing but what lies for good leaves what lay there as it is -/
theorem does_calls {P : Program} {g : FuncId} {xs : List AV} {S : AV → Prop} {vs : List Value} {w : World} (H : Does P g xs [] fun a _ => S a) (hr : LRel (oldR w) [] xs vs) : Calls P g vs.toArray w fun e w' => (∃ v a R μ, e = .returned v ∧ S a ∧ Rel R μ a v) ∧ Go.RowKit.Below w.heap.size w w' :=
  (H.run (oldR w) [] w vs hr (old_ok w)).mono fun e w' hx => by
    obtain ⟨v, R', μ', h', av, rfl, h1, h2, _, _, h3⟩ := hx
    exact ⟨⟨v, av, R', μ', rfl, h1, h2⟩, h3.os, h3.tape, h3.output, h3.size, fun k hk => h3.out k hk (by simp [ownH])⟩
theorem does_true {P : Program} {g : FuncId} {xs : List AV} {vs : List Value} {w : World} (H : Does P g xs [] fun a _ => a = .bool true) (hr : LRel (oldR w) [] xs vs) : Calls P g vs.toArray w fun e w' => e = .returned (.bool true) ∧ Go.RowKit.Below w.heap.size w w' :=
  (does_calls H hr).mono fun e w' hx => by
    obtain ⟨⟨v, a, R, μ, rfl, rfl, h2⟩, hb⟩ := hx
    cases h2
    exact ⟨rfl, hb⟩
end Go.V
