/-
  FilesPlays.
  FilesBounds.
  FilesKeep: the plain law.
-/
import Derived.Test.YtejgcmajhhebpaaPart12
import Derived.Test.YtejgcmajhhebpaaPart13
set_option linter.unusedVariables false
set_option linter.unusedSimpArgs false
set_option maxRecDepth 100000
set_option maxHeartbeats 8000000
namespace Go.V
open Go.Proofs
abbrev opAt (l : List Opn) (k : Nat) : Opn := l.getD k Opn.zero
theorem find_len {kv : List (Str × Str)} {s d : Str} {n : Int} {r : Int} (hr : 0 ≤ r ∧ r ≤ 2147483648) (hk : (sumL kv : Int) ≤ r) (e : findE kv s = (d, n)) : d.length ≤ 1099511627776 := by
  unfold findE at e
  split at e
  · split at e
    · rename_i hg
      have := sumL_get hg
      cases e
      omega
    · cases e; simp
  · cases e; simp
theorem b_plays (most room : Int) (ops : List Opn) (hl : ops.length ≤ 9223372036854775807) : DoesK Try.prog 0 5 [.int .i64 most, .int .i64 room, .ro .opn ops] [] (EndF 0 (.bool true) []) := by
  refine DoesK.close ?_
  by_cases h80 : 80 < ops.length
  · have hd : decide ((80 : Int) < ops.length) = true := decide_eq_true (by omega)
    refine w_body (rs := [.tmp 6]) (tm := [.int .i64 most, .int .i64 room, .ro .opn ops, .any, .any, .any, .any, .any, .any, .any, .any, .any, .any, .any, .any, .any, .any, .any, .any, .any, .any, .any, .any, .any, .any, .any, .any, .any, .any, .any, .any, .any, .any, .any, .any, .any, .any, .any, .any, .any, .any, .any, .any, .any, .any, .any, .any, .any, .any, .any, .any, .any, .any, .any, .any, .any, .any, .any, .any, .any, .any, .any, .any, .any, .any, .any, .any, .any, .any, .any, .any, .any, .any, .any, .any, .any, .any, .any, .any, .any, .any, .any, .any, .any, .any, .any, .any, .any, .any, .any, .any, .any, .any, .any, .any, .any, .any, .any, .any, .any, .any, .any, .any, .any, .any, .any, .any, .any, .any, .any, .any, .any, .any, .any, .any, .any, .any, .any, .any, .any, .any, .any, .any, .any, .any, .any, .any, .any, .any, .any, .any, .any, .any, .any, .any, .any, .any, .any, .any, .any, .any, .any, .any, .any, .any, .any, .any, .any]) fn_5 rfl rfl rfl rfl fun R hR => ?_
    (have zx1 := @hd; all_goals (try ((first | (with_reducible refine wp_id ?_) | (with_reducible refine does_id ?_)); refine walk ?_; (repeat' (first | exact trivial | with_reducible refine And.intro ?_ ?_)); all_goals (repeat (first | (with_reducible refine ImpB.mk fun hb => ?_) | (with_reducible refine ImpK.mk fun hK => ?_) | (with_reducible refine ImpF.mk fun hF => ?_) | (with_reducible refine ImpQ.mk fun hp => ?_) | (with_reducible refine AllE.mk fun p => ?_) | (with_reducible refine AllR.mk fun rest => ?_) | (with_reducible refine AllK.mk fun K => ?_))))); repeat' (with_reducible refine And.intro ?_ ?_))
    (focus (refine ⟨_, _, Gh.refl, [], rfl, ?_⟩; (refine ⟨?_, ?_, ?_⟩ <;> simp only [go_sem, List.range, List.range.loop, List.nodup_cons, List.nodup_nil, List.mem_cons, List.not_mem_nil, or_false, or_self, Int.reduceToNat, Nat.min_eq_left, Nat.min_eq_right, Int.reducePow, Nat.reducePow, Int.reduceLE, Int.reduceLT, Int.reduceMul, Int.reduceAdd, Int.reduceSub, Int.reduceNeg, Bool.not_true, Bool.not_false, Bool.not_not, ↓reduceIte, Nat.reduceAdd, Nat.reduceSub, Nat.reduceMul, Nat.reduceEqDiff, reduceCtorEq, Nat.reduceLT, Nat.reduceLeDiff, Nat.reduceGT]); (try any_goals (refine ⟨?_, ?_⟩)); (try any_goals (with_reducible rfl))))
  · have hd : decide ((80 : Int) < ops.length) = false := decide_eq_false (by omega)
    obtain ⟨M, hM⟩ : ∃ M, min (max most 0) 256 = M := ⟨_, rfl⟩
    obtain ⟨R', hR'⟩ : ∃ M, min (max room 0) 2147483648 = M := ⟨_, rfl⟩
    have hm : 0 ≤ M ∧ M ≤ 256 := by omega
    have hr : 0 ≤ R' ∧ R' ≤ 2147483648 := by omega
    refine w_body (rs := [.tmp 6]) (tm := [.int .i64 most, .int .i64 room, .ro .opn ops, .any, .any, .any, .any, .any, .any, .any, .any, .any, .any, .any, .any, .any, .any, .any, .any, .any, .any, .any, .any, .any, .any, .any, .any, .any, .any, .any, .any, .any, .any, .any, .any, .any, .any, .any, .any, .any, .any, .any, .any, .any, .any, .any, .any, .any, .any, .any, .any, .any, .any, .any, .any, .any, .any, .any, .any, .any, .any, .any, .any, .any, .any, .any, .any, .any, .any, .any, .any, .any, .any, .any, .any, .any, .any, .any, .any, .any, .any, .any, .any, .any, .any, .any, .any, .any, .any, .any, .any, .any, .any, .any, .any, .any, .any, .any, .any, .any, .any, .any, .any, .any, .any, .any, .any, .any, .any, .any, .any, .any, .any, .any, .any, .any, .any, .any, .any, .any, .any, .any, .any, .any, .any, .any, .any, .any, .any, .any, .any, .any, .any, .any, .any, .any, .any, .any, .any, .any, .any, .any, .any, .any, .any, .any, .any, .any]) fn_5 rfl rfl rfl rfl fun R hR => ?_
    (have zx1 := @hd; have zx2 := @hM; have zx3 := @hR'; all_goals (try ((first | (with_reducible refine wp_id ?_) | (with_reducible refine does_id ?_)); refine walk ?_; (repeat' (first | exact trivial | with_reducible refine And.intro ?_ ?_)); all_goals (repeat (first | (with_reducible refine ImpB.mk fun hb => ?_) | (with_reducible refine ImpK.mk fun hK => ?_) | (with_reducible refine ImpF.mk fun hF => ?_) | (with_reducible refine ImpQ.mk fun hp => ?_) | (with_reducible refine AllE.mk fun p => ?_) | (with_reducible refine AllR.mk fun rest => ?_) | (with_reducible refine AllK.mk fun K => ?_))))); repeat' (with_reducible refine And.intro ?_ ?_))
    any_goals (refine w_loop (A := Nat × List (Str × Str) × List File) (fun p => p.1 ≤ ops.length ∧ Inv M R' p.2.1 p.2.2) (fun p => ops.length - p.1) (fun p => [(7, .ptr 0 0), (9, .int .i64 p.1), (24, .any)]) (fun p => [(0, .pack (St M R' p.2.1)), (1, .cells [.int .i64 M, .int .i64 R', .ro .file p.2.2])]) ((0, [], [])) (ws := ?ws1) (tk := ?tk1) ?hw1 ?ht1 ?hi ?h0 ?LH1; (case hw1 => simp only [go_sem, Int.reduceToNat, Nat.min_eq_left, Nat.min_eq_right, Int.reducePow, Nat.reducePow, Int.reduceLE, Int.reduceLT, Int.reduceMul, Int.reduceAdd, Int.reduceSub, Int.reduceNeg, Bool.not_true, Bool.not_false, Bool.not_not, ↓reduceIte, Nat.reduceAdd, Nat.reduceSub, Nat.reduceMul, Nat.reduceEqDiff, reduceCtorEq, Nat.reduceLT, Nat.reduceLeDiff, Nat.reduceGT]; exact rfl); (case ht1 => simp only [go_sem, Int.reduceToNat, Nat.min_eq_left, Nat.min_eq_right, Int.reducePow, Nat.reducePow, Int.reduceLE, Int.reduceLT, Int.reduceMul, Int.reduceAdd, Int.reduceSub, Int.reduceNeg, Bool.not_true, Bool.not_false, Bool.not_not, ↓reduceIte, Nat.reduceAdd, Nat.reduceSub, Nat.reduceMul, Nat.reduceEqDiff, reduceCtorEq, Nat.reduceLT, Nat.reduceLeDiff, Nat.reduceGT]; exact rfl); (case' LH1 => rintro ⟨k, kv, l⟩ E t hx hE ht; simp only [go_sem] at ht; subst ht; simp only [go_sem]; try dsimp only at hx))
    case hi => exact ⟨Nat.zero_le _, ⟨.nil, .refl _, by simpa [sumL] using hr.1, by simpa using hm.1⟩⟩
    case h0 =>
      (focus (refine ⟨_, _, Gh.refl, [0, 1], rfl, ?_⟩; (refine ⟨?_, ?_, ?_⟩ <;> simp only [go_sem, List.range, List.range.loop, List.nodup_cons, List.nodup_nil, List.mem_cons, List.not_mem_nil, or_false, or_self, Int.reduceToNat, Nat.min_eq_left, Nat.min_eq_right, Int.reducePow, Nat.reducePow, Int.reduceLE, Int.reduceLT, Int.reduceMul, Int.reduceAdd, Int.reduceSub, Int.reduceNeg, Bool.not_true, Bool.not_false, Bool.not_not, ↓reduceIte, Nat.reduceAdd, Nat.reduceSub, Nat.reduceMul, Nat.reduceEqDiff, reduceCtorEq, Nat.reduceLT, Nat.reduceLeDiff, Nat.reduceGT]); (try any_goals (refine ⟨?_, ?_⟩)); (try any_goals (with_reducible rfl))))
      all_goals trace_state
    case LH1 =>
      obtain ⟨hk0, hI⟩ := hx
      have hI1 := hI.sum
      have hI2 := hI.len
      have hI3 := hI.nodup
      have hI4 := hI.llen
      have hI5 := hI.lsum
      have hw : IntKind.i64.wrap ((k : Int) + 1) = ((k + 1 : Nat) : Int) := by rw [wrap_i64 _ (by omega) (by omega)]; omega
      by_cases hk : k < ops.length
      · have hkd : decide ((k : Int) < ops.length) = true := decide_eq_true (by omega)
        by_cases hxd : 300 < (opAt ops k).data.length
        · have hxdd : decide ((300 : Int) < (opAt ops k).data.length) = true := decide_eq_true (by omega)
          (have zx1 := @hkd; have zx2 := @hxdd; all_goals (try ((first | (with_reducible refine wp_id ?_) | (with_reducible refine does_id ?_)); refine walk ?_; (repeat' (first | exact trivial | with_reducible refine And.intro ?_ ?_)); all_goals (repeat (first | (with_reducible refine ImpB.mk fun hb => ?_) | (with_reducible refine ImpK.mk fun hK => ?_) | (with_reducible refine ImpF.mk fun hF => ?_) | (with_reducible refine ImpQ.mk fun hp => ?_) | (with_reducible refine AllE.mk fun p => ?_) | (with_reducible refine AllR.mk fun rest => ?_) | (with_reducible refine AllK.mk fun K => ?_))))); repeat' (with_reducible refine And.intro ?_ ?_))
          all_goals first | exact Int.natCast_nonneg _ | exact Int.ofNat_lt.2 hk | skip
          (focus (refine ⟨_, _, Gh.refl, [], rfl, ?_⟩; (refine ⟨?_, ?_, ?_⟩ <;> simp only [go_sem, List.range, List.range.loop, List.nodup_cons, List.nodup_nil, List.mem_cons, List.not_mem_nil, or_false, or_self, Int.reduceToNat, Nat.min_eq_left, Nat.min_eq_right, Int.reducePow, Nat.reducePow, Int.reduceLE, Int.reduceLT, Int.reduceMul, Int.reduceAdd, Int.reduceSub, Int.reduceNeg, Bool.not_true, Bool.not_false, Bool.not_not, ↓reduceIte, Nat.reduceAdd, Nat.reduceSub, Nat.reduceMul, Nat.reduceEqDiff, reduceCtorEq, Nat.reduceLT, Nat.reduceLeDiff, Nat.reduceGT]); (try any_goals (refine ⟨?_, ?_⟩)); (try any_goals (with_reducible rfl))))
        · by_cases hxn : 300 < (opAt ops k).name.length
          · have hxdd : decide ((300 : Int) < (opAt ops k).data.length) = false := decide_eq_false (by omega)
            have hxnd : decide ((300 : Int) < (opAt ops k).name.length) = true := decide_eq_true (by omega)
            (have zx1 := @hkd; have zx2 := @hxdd; have zx3 := @hxnd; all_goals (try ((first | (with_reducible refine wp_id ?_) | (with_reducible refine does_id ?_)); refine walk ?_; (repeat' (first | exact trivial | with_reducible refine And.intro ?_ ?_)); all_goals (repeat (first | (with_reducible refine ImpB.mk fun hb => ?_) | (with_reducible refine ImpK.mk fun hK => ?_) | (with_reducible refine ImpF.mk fun hF => ?_) | (with_reducible refine ImpQ.mk fun hp => ?_) | (with_reducible refine AllE.mk fun p => ?_) | (with_reducible refine AllR.mk fun rest => ?_) | (with_reducible refine AllK.mk fun K => ?_))))); repeat' (with_reducible refine And.intro ?_ ?_))
            all_goals first | exact Int.natCast_nonneg _ | exact Int.ofNat_lt.2 hk | skip
            (focus (refine ⟨_, _, Gh.refl, [], rfl, ?_⟩; (refine ⟨?_, ?_, ?_⟩ <;> simp only [go_sem, List.range, List.range.loop, List.nodup_cons, List.nodup_nil, List.mem_cons, List.not_mem_nil, or_false, or_self, Int.reduceToNat, Nat.min_eq_left, Nat.min_eq_right, Int.reducePow, Nat.reducePow, Int.reduceLE, Int.reduceLT, Int.reduceMul, Int.reduceAdd, Int.reduceSub, Int.reduceNeg, Bool.not_true, Bool.not_false, Bool.not_not, ↓reduceIte, Nat.reduceAdd, Nat.reduceSub, Nat.reduceMul, Nat.reduceEqDiff, reduceCtorEq, Nat.reduceLT, Nat.reduceLeDiff, Nat.reduceGT]); (try any_goals (refine ⟨?_, ?_⟩)); (try any_goals (with_reducible rfl))))
          · obtain ⟨x, hx⟩ : ∃ x, opAt ops k = x := ⟨_, rfl⟩
            rw [hx] at hxd hxn
            have hxdd : decide ((300 : Int) < x.data.length) = false := decide_eq_false (by omega)
            have hxnd : decide ((300 : Int) < x.name.length) = false := decide_eq_false (by omega)
            by_cases hc1 : x.call = 1
            · have hc1d : decide (x.call = 1) = true := decide_eq_true hc1
              have hJ := hI.set x.name x.data
              have hP := hI.put x.name x.data
              obtain ⟨kv', hkv'⟩ : ∃ y, putM M R' kv x.name x.data = y := ⟨_, rfl⟩
              obtain ⟨l', hl'⟩ : ∃ y, rputL M R' l x.name x.data = y := ⟨_, rfl⟩
              rw [hkv', hl'] at hJ
              have hJ1 := hJ.sum
              have hJ2 := hJ.len
              have hJ4 := hJ.llen
              have hJ5 := hJ.lsum
              have hJ6 := hJ.names
              rcases hf : findE kv' x.name with ⟨d, n⟩
              have hfl := find_len hr hJ1 hf
              have hg : rgetE l' x.name = (d, n) := by rw [← hJ.find, hf]
              have hn6 : (namF l').length ≤ 1099511627776 := by unfold namF; rw [List.length_map]; omega
              (have zx1 := @hkd; have zx2 := @hx; have zx3 := @hxdd; have zx4 := @hxnd; have zx5 := @hc1d; have zx6 := @hP; have zx7 := @hkv'; have zx8 := @hl'; have zx9 := @hJ5; have zx10 := @hJ6; all_goals (try ((first | (with_reducible refine wp_id ?_) | (with_reducible refine does_id ?_)); refine walk ?_; (repeat' (first | exact trivial | with_reducible refine And.intro ?_ ?_)); all_goals (repeat (first | (with_reducible refine ImpB.mk fun hb => ?_) | (with_reducible refine ImpK.mk fun hK => ?_) | (with_reducible refine ImpF.mk fun hF => ?_) | (with_reducible refine ImpQ.mk fun hp => ?_) | (with_reducible refine AllE.mk fun p => ?_) | (with_reducible refine AllR.mk fun rest => ?_) | (with_reducible refine AllK.mk fun K => ?_))))); repeat' (with_reducible refine And.intro ?_ ?_))
              all_goals first | exact hn6 | exact Int.natCast_nonneg _ | exact Int.ofNat_lt.2 hk | omega | (exfalso; simp at hb; done) | skip
              refine ⟨(k + 1, kv', l'), ⟨⟨by first | omega | (dsimp only; omega), hJ⟩, by first | omega | (dsimp only; omega)⟩, ?m11⟩
              (focus (refine ⟨_, _, Gh.refl, [0, 1], rfl, ?_⟩; (refine ⟨?_, ?_, ?_⟩ <;> simp only [go_sem, List.range, List.range.loop, List.nodup_cons, List.nodup_nil, List.mem_cons, List.not_mem_nil, or_false, or_self, Int.reduceToNat, Nat.min_eq_left, Nat.min_eq_right, Int.reducePow, Nat.reducePow, Int.reduceLE, Int.reduceLT, Int.reduceMul, Int.reduceAdd, Int.reduceSub, Int.reduceNeg, Bool.not_true, Bool.not_false, Bool.not_not, ↓reduceIte, Nat.reduceAdd, Nat.reduceSub, Nat.reduceMul, Nat.reduceEqDiff, reduceCtorEq, Nat.reduceLT, Nat.reduceLeDiff, Nat.reduceGT]); (try any_goals (refine ⟨?_, ?_⟩)); (try any_goals (with_reducible rfl))))
              exact hw.symm
            
            · have hc1d : decide (x.call = 1) = false := decide_eq_false hc1
              by_cases hc3 : x.call = 3
              · have hc3d : decide (x.call = 3) = true := decide_eq_true hc3
                have hJ := hI.del x.name
                rcases hf0 : findE kv x.name with ⟨d0, n0⟩
                have hg0 : (rgetE l x.name).2 = n0 := by rw [← hI.find, hf0]
                rw [hf0] at hJ
                obtain ⟨kv', hkv'⟩ : ∃ y, (if n0 = 0 then mdelS kv x.name else kv) = y := ⟨_, rfl⟩
                obtain ⟨l', hl'⟩ : ∃ y, rdelL l x.name = y := ⟨_, rfl⟩
                simp only [hkv', hl'] at hJ
                have hJ1 := hJ.sum
                have hJ2 := hJ.len
                have hJ4 := hJ.llen
                have hJ5 := hJ.lsum
                have hJ6 := hJ.names
                rcases hf : findE kv' x.name with ⟨d, n⟩
                have hfl := find_len hr hJ1 hf
                have hg : rgetE l' x.name = (d, n) := by rw [← hJ.find, hf]
                have hn6 : (namF l').length ≤ 1099511627776 := by unfold namF; rw [List.length_map]; omega
                (have zx1 := @hkd; have zx2 := @hx; have zx3 := @hxdd; have zx4 := @hxnd; have zx5 := @hc1d; have zx6 := @hc3d; have zx7 := @hg0; have zx8 := @hkv'; have zx9 := @hl'; have zx10 := @hJ5; have zx11 := @hJ6; all_goals (try ((first | (with_reducible refine wp_id ?_) | (with_reducible refine does_id ?_)); refine walk ?_; (repeat' (first | exact trivial | with_reducible refine And.intro ?_ ?_)); all_goals (repeat (first | (with_reducible refine ImpB.mk fun hb => ?_) | (with_reducible refine ImpK.mk fun hK => ?_) | (with_reducible refine ImpF.mk fun hF => ?_) | (with_reducible refine ImpQ.mk fun hp => ?_) | (with_reducible refine AllE.mk fun p => ?_) | (with_reducible refine AllR.mk fun rest => ?_) | (with_reducible refine AllK.mk fun K => ?_))))); repeat' (with_reducible refine And.intro ?_ ?_))
                all_goals first | exact hn6 | exact Int.natCast_nonneg _ | exact Int.ofNat_lt.2 hk | omega | (exfalso; simp at hb; done) | skip
                refine ⟨(k + 1, kv', l'), ⟨⟨by first | omega | (dsimp only; omega), hJ⟩, by first | omega | (dsimp only; omega)⟩, ?m12⟩
                (focus (refine ⟨_, _, Gh.refl, [0, 1], rfl, ?_⟩; (refine ⟨?_, ?_, ?_⟩ <;> simp only [go_sem, List.range, List.range.loop, List.nodup_cons, List.nodup_nil, List.mem_cons, List.not_mem_nil, or_false, or_self, Int.reduceToNat, Nat.min_eq_left, Nat.min_eq_right, Int.reducePow, Nat.reducePow, Int.reduceLE, Int.reduceLT, Int.reduceMul, Int.reduceAdd, Int.reduceSub, Int.reduceNeg, Bool.not_true, Bool.not_false, Bool.not_not, ↓reduceIte, Nat.reduceAdd, Nat.reduceSub, Nat.reduceMul, Nat.reduceEqDiff, reduceCtorEq, Nat.reduceLT, Nat.reduceLeDiff, Nat.reduceGT]); (try any_goals (refine ⟨?_, ?_⟩)); (try any_goals (with_reducible rfl))))
                exact hw.symm
            
              · have hc3d : decide (x.call = 3) = false := decide_eq_false hc3
                by_cases hc4 : x.call = 4
                · have hc4d : decide (x.call = 4) = true := decide_eq_true hc4
                  obtain ⟨kv', hkv'⟩ : ∃ y, kv = y := ⟨_, rfl⟩
                  obtain ⟨l', hl'⟩ : ∃ y, l = y := ⟨_, rfl⟩
                  have hJ := hI
                  rw [hkv', hl'] at hJ
                  subst hkv' hl'
                  rcases hf0 : findE (putM M R' kv [99, 108, 111, 110, 101] x.data) x.name with ⟨d0, n0⟩
                  have hJ1 := hJ.sum
                  have hJ2 := hJ.len
                  have hJ4 := hJ.llen
                  have hJ5 := hJ.lsum
                  have hJ6 := hJ.names
                  rcases hf : findE kv x.name with ⟨d, n⟩
                  have hfl := find_len hr hJ1 hf
                  have hg : rgetE l x.name = (d, n) := by rw [← hJ.find, hf]
                  have hn6 : (namF l).length ≤ 1099511627776 := by unfold namF; rw [List.length_map]; omega
                  (have zx1 := @hkd; have zx2 := @hx; have zx3 := @hxdd; have zx4 := @hxnd; have zx5 := @hc1d; have zx6 := @hc3d; have zx7 := @hc4d; have zx8 := @hJ5; have zx9 := @hJ6; all_goals (try ((first | (with_reducible refine wp_id ?_) | (with_reducible refine does_id ?_)); refine walk ?_; (repeat' (first | exact trivial | with_reducible refine And.intro ?_ ?_)); all_goals (repeat (first | (with_reducible refine ImpB.mk fun hb => ?_) | (with_reducible refine ImpK.mk fun hK => ?_) | (with_reducible refine ImpF.mk fun hF => ?_) | (with_reducible refine ImpQ.mk fun hp => ?_) | (with_reducible refine AllE.mk fun p => ?_) | (with_reducible refine AllR.mk fun rest => ?_) | (with_reducible refine AllK.mk fun K => ?_))))); repeat' (with_reducible refine And.intro ?_ ?_))
                  all_goals first | exact hn6 | exact Int.natCast_nonneg _ | exact Int.ofNat_lt.2 hk | omega | (exfalso; simp at hb; done) | skip
                  refine ⟨(k + 1, kv, l), ⟨⟨by first | omega | (dsimp only; omega), hJ⟩, by first | omega | (dsimp only; omega)⟩, ?m13⟩
                  (focus (refine ⟨_, _, Gh.refl, [3, 1], rfl, ?_⟩; (refine ⟨?_, ?_, ?_⟩ <;> simp only [go_sem, List.range, List.range.loop, List.nodup_cons, List.nodup_nil, List.mem_cons, List.not_mem_nil, or_false, or_self, Int.reduceToNat, Nat.min_eq_left, Nat.min_eq_right, Int.reducePow, Nat.reducePow, Int.reduceLE, Int.reduceLT, Int.reduceMul, Int.reduceAdd, Int.reduceSub, Int.reduceNeg, Bool.not_true, Bool.not_false, Bool.not_not, ↓reduceIte, Nat.reduceAdd, Nat.reduceSub, Nat.reduceMul, Nat.reduceEqDiff, reduceCtorEq, Nat.reduceLT, Nat.reduceLeDiff, Nat.reduceGT]); (try any_goals (refine ⟨?_, ?_⟩)); (try any_goals (with_reducible rfl))))
                  exact hw.symm
            
                · have hc4d : decide (x.call = 4) = false := decide_eq_false hc4
                  have hJ := hI
                  have hJ1 := hJ.sum
                  have hJ2 := hJ.len
                  have hJ4 := hJ.llen
                  have hJ5 := hJ.lsum
                  have hJ6 := hJ.names
                  rcases hf : findE kv x.name with ⟨d, n⟩
                  have hfl := find_len hr hJ1 hf
                  have hg : rgetE l x.name = (d, n) := by rw [← hJ.find, hf]
                  have hn6 : (namF l).length ≤ 1099511627776 := by unfold namF; rw [List.length_map]; omega
                  (have zx1 := @hkd; have zx2 := @hx; have zx3 := @hxdd; have zx4 := @hxnd; have zx5 := @hc1d; have zx6 := @hc3d; have zx7 := @hc4d; have zx8 := @hJ5; have zx9 := @hJ6; all_goals (try ((first | (with_reducible refine wp_id ?_) | (with_reducible refine does_id ?_)); refine walk ?_; (repeat' (first | exact trivial | with_reducible refine And.intro ?_ ?_)); all_goals (repeat (first | (with_reducible refine ImpB.mk fun hb => ?_) | (with_reducible refine ImpK.mk fun hK => ?_) | (with_reducible refine ImpF.mk fun hF => ?_) | (with_reducible refine ImpQ.mk fun hp => ?_) | (with_reducible refine AllE.mk fun p => ?_) | (with_reducible refine AllR.mk fun rest => ?_) | (with_reducible refine AllK.mk fun K => ?_))))); repeat' (with_reducible refine And.intro ?_ ?_))
                  all_goals first | exact hn6 | exact Int.natCast_nonneg _ | exact Int.ofNat_lt.2 hk | omega | (exfalso; simp at hb; done) | skip
                  refine ⟨(k + 1, kv, l), ⟨⟨by first | omega | (dsimp only; omega), hJ⟩, by first | omega | (dsimp only; omega)⟩, ?m14⟩
                  (focus (refine ⟨_, _, Gh.refl, [0, 1], rfl, ?_⟩; (refine ⟨?_, ?_, ?_⟩ <;> simp only [go_sem, List.range, List.range.loop, List.nodup_cons, List.nodup_nil, List.mem_cons, List.not_mem_nil, or_false, or_self, Int.reduceToNat, Nat.min_eq_left, Nat.min_eq_right, Int.reducePow, Nat.reducePow, Int.reduceLE, Int.reduceLT, Int.reduceMul, Int.reduceAdd, Int.reduceSub, Int.reduceNeg, Bool.not_true, Bool.not_false, Bool.not_not, ↓reduceIte, Nat.reduceAdd, Nat.reduceSub, Nat.reduceMul, Nat.reduceEqDiff, reduceCtorEq, Nat.reduceLT, Nat.reduceLeDiff, Nat.reduceGT]); (try any_goals (refine ⟨?_, ?_⟩)); (try any_goals (with_reducible rfl))))
                  exact hw.symm
      · have hkd : decide ((k : Int) < ops.length) = false := decide_eq_false (by omega)
        (have zx1 := @hkd; all_goals (try ((first | (with_reducible refine wp_id ?_) | (with_reducible refine does_id ?_)); refine walk ?_; (repeat' (first | exact trivial | with_reducible refine And.intro ?_ ?_)); all_goals (repeat (first | (with_reducible refine ImpB.mk fun hb => ?_) | (with_reducible refine ImpK.mk fun hK => ?_) | (with_reducible refine ImpF.mk fun hF => ?_) | (with_reducible refine ImpQ.mk fun hp => ?_) | (with_reducible refine AllE.mk fun p => ?_) | (with_reducible refine AllR.mk fun rest => ?_) | (with_reducible refine AllK.mk fun K => ?_))))); repeat' (with_reducible refine And.intro ?_ ?_))
        (focus (refine ⟨_, _, Gh.refl, [], rfl, ?_⟩; (refine ⟨?_, ?_, ?_⟩ <;> simp only [go_sem, List.range, List.range.loop, List.nodup_cons, List.nodup_nil, List.mem_cons, List.not_mem_nil, or_false, or_self, Int.reduceToNat, Nat.min_eq_left, Nat.min_eq_right, Int.reducePow, Nat.reducePow, Int.reduceLE, Int.reduceLT, Int.reduceMul, Int.reduceAdd, Int.reduceSub, Int.reduceNeg, Bool.not_true, Bool.not_false, Bool.not_not, ↓reduceIte, Nat.reduceAdd, Nat.reduceSub, Nat.reduceMul, Nat.reduceEqDiff, reduceCtorEq, Nat.reduceLT, Nat.reduceLeDiff, Nat.reduceGT]); (try any_goals (refine ⟨?_, ?_⟩)); (try any_goals (with_reducible rfl))))
end Go.V

set_option maxRecDepth 100000
set_option maxHeartbeats 8000000
namespace Go.V
open Go.Proofs
/-- a name of two characters -/
def nm2 (c : UInt8) (k : Nat) : Str := [c, UInt8.ofNat (33 + k)]
theorem nm2_ok {c : UInt8} (hc : chrB c = true) {k : Nat} (hk : k ≤ 93) : nameB (nm2 c k) = true := by
  have h1 : (UInt8.ofNat (33 + k)).toNat = 33 + k := by simp; omega
  have h2 : chrB (UInt8.ofNat (33 + k)) = true := by unfold chrB; rw [h1]; simp; omega
  unfold nm2 nameB
  simp only [List.all_cons, List.all_nil, hc, h2, Bool.and_true, Bool.true_and, List.length_cons, List.length_nil]
  rfl
theorem nm2_inj {c : UInt8} {j k : Nat} (hj : j ≤ 93) (hk : k ≤ 93) (h : nm2 c j = nm2 c k) : j = k := by
  unfold nm2 at h
  simp only [List.cons.injEq, and_true, true_and] at h
  have := congrArg UInt8.toNat h
  simp at this
  omega
theorem put_fresh {m r : Int} {kv : List (Str × Str)} {s d : Str} (hn : nameB s = true) (hd : d.length ≤ 65536) (hg : mgetS kv s = none) :
    putE m r kv s d = if (kv.length : Int) = m ∨ r - sumL kv < d.length then 7 else 0 := by
  unfold putE
  rw [if_pos hn, if_neg (by omega), hg]
  simp
theorem get_none {kv : List (Str × Str)} {s : Str} (h : ∀ p ∈ kv, p.1 ≠ s) : mgetS kv s = none := by
  unfold mgetS
  induction kv with
  | nil => rfl
  | cons p kv ih => simp only [mget, if_neg (h p (by simp))]; exact ih fun q hq => h q (by simp [hq])
theorem b_bounds (most room : Int) (l : List Str) (hl : l.length ≤ 9223372036854775807) : DoesK Try.prog 0 4 [.int .i64 most, .int .i64 room, .ro .bytes l] [] (EndF 0 (.bool true) []) := by
  refine DoesK.close ?_
  by_cases h80 : 60 < l.length
  · have hd : decide ((60 : Int) < l.length) = true := decide_eq_true (by omega)
    refine w_body (rs := [.tmp 6]) (tm := [.int .i64 most, .int .i64 room, .ro .bytes l, .any, .any, .any, .any, .any, .any, .any, .any, .any, .any, .any, .any, .any, .any, .any, .any, .any, .any, .any, .any, .any, .any, .any, .any, .any, .any, .any, .any, .any, .any, .any, .any, .any, .any, .any, .any, .any, .any, .any, .any, .any, .any, .any, .any, .any, .any, .any, .any, .any, .any, .any, .any, .any, .any, .any, .any, .any, .any, .any, .any, .any, .any, .any, .any, .any, .any, .any, .any, .any, .any, .any, .any, .any, .any, .any, .any, .any, .any, .any, .any, .any, .any, .any, .any, .any, .any, .any, .any, .any, .any, .any, .any, .any, .any, .any, .any, .any, .any, .any, .any, .any, .any, .any, .any, .any, .any, .any, .any, .any, .any, .any, .any, .any, .any, .any, .any, .any, .any, .any, .any]) fn_4 rfl rfl rfl rfl fun R hR => ?_
    (have zx1 := @hd; all_goals (try ((first | (with_reducible refine wp_id ?_) | (with_reducible refine does_id ?_)); refine walk ?_; (repeat' (first | exact trivial | with_reducible refine And.intro ?_ ?_)); all_goals (repeat (first | (with_reducible refine ImpB.mk fun hb => ?_) | (with_reducible refine ImpK.mk fun hK => ?_) | (with_reducible refine ImpF.mk fun hF => ?_) | (with_reducible refine ImpQ.mk fun hp => ?_) | (with_reducible refine AllE.mk fun p => ?_) | (with_reducible refine AllR.mk fun rest => ?_) | (with_reducible refine AllK.mk fun K => ?_))))); repeat' (with_reducible refine And.intro ?_ ?_))
    (focus (refine ⟨_, _, Gh.refl, [], rfl, ?_⟩; (refine ⟨?_, ?_, ?_⟩ <;> simp only [go_sem, List.range, List.range.loop, List.nodup_cons, List.nodup_nil, List.mem_cons, List.not_mem_nil, or_false, or_self, Int.reduceToNat, Nat.min_eq_left, Nat.min_eq_right, Int.reducePow, Nat.reducePow, Int.reduceLE, Int.reduceLT, Int.reduceMul, Int.reduceAdd, Int.reduceSub, Int.reduceNeg, Bool.not_true, Bool.not_false, Bool.not_not, ↓reduceIte, Nat.reduceAdd, Nat.reduceSub, Nat.reduceMul, Nat.reduceEqDiff, reduceCtorEq, Nat.reduceLT, Nat.reduceLeDiff, Nat.reduceGT]); (try any_goals (refine ⟨?_, ?_⟩)); (try any_goals (with_reducible rfl))))
  · have hd : decide ((60 : Int) < l.length) = false := decide_eq_false (by omega)
    obtain ⟨M, hM⟩ : ∃ M, min (max most 0) 256 = M := ⟨_, rfl⟩
    obtain ⟨R', hR'⟩ : ∃ M, min (max room 0) 2147483648 = M := ⟨_, rfl⟩
    have hm : 0 ≤ M ∧ M ≤ 256 := by omega
    have hr : 0 ≤ R' ∧ R' ≤ 2147483648 := by omega
    refine w_body (rs := [.tmp 6]) (tm := [.int .i64 most, .int .i64 room, .ro .bytes l, .any, .any, .any, .any, .any, .any, .any, .any, .any, .any, .any, .any, .any, .any, .any, .any, .any, .any, .any, .any, .any, .any, .any, .any, .any, .any, .any, .any, .any, .any, .any, .any, .any, .any, .any, .any, .any, .any, .any, .any, .any, .any, .any, .any, .any, .any, .any, .any, .any, .any, .any, .any, .any, .any, .any, .any, .any, .any, .any, .any, .any, .any, .any, .any, .any, .any, .any, .any, .any, .any, .any, .any, .any, .any, .any, .any, .any, .any, .any, .any, .any, .any, .any, .any, .any, .any, .any, .any, .any, .any, .any, .any, .any, .any, .any, .any, .any, .any, .any, .any, .any, .any, .any, .any, .any, .any, .any, .any, .any, .any, .any, .any, .any, .any, .any, .any, .any, .any, .any, .any]) fn_4 rfl rfl rfl rfl fun R hR => ?_
    (have zx1 := @hd; have zx2 := @hM; have zx3 := @hR'; all_goals (try ((first | (with_reducible refine wp_id ?_) | (with_reducible refine does_id ?_)); refine walk ?_; (repeat' (first | exact trivial | with_reducible refine And.intro ?_ ?_)); all_goals (repeat (first | (with_reducible refine ImpB.mk fun hb => ?_) | (with_reducible refine ImpK.mk fun hK => ?_) | (with_reducible refine ImpF.mk fun hF => ?_) | (with_reducible refine ImpQ.mk fun hp => ?_) | (with_reducible refine AllE.mk fun p => ?_) | (with_reducible refine AllR.mk fun rest => ?_) | (with_reducible refine AllK.mk fun K => ?_))))); repeat' (with_reducible refine And.intro ?_ ?_))
    any_goals (refine w_loop (A := Nat × List (Str × Str)) (fun p => p.1 ≤ l.length ∧ (sumL p.2 : Int) ≤ R' ∧ (p.2.length : Int) ≤ M ∧ ∀ q ∈ p.2, ∃ j, j < p.1 ∧ q.1 = nm2 120 j) (fun p => l.length - p.1) (fun p => [(10, .int .i64 p.2.length), (11, .int .i64 (sumL p.2)), (12, .int .i64 p.1)]) (fun p => [(0, .pack (St M R' p.2))]) ((0, [])) (ws := ?ws1) (tk := ?tk1) ?hw1 ?ht1 ?hi ?h0 ?LH1; (case hw1 => simp only [go_sem, Int.reduceToNat, Nat.min_eq_left, Nat.min_eq_right, Int.reducePow, Nat.reducePow, Int.reduceLE, Int.reduceLT, Int.reduceMul, Int.reduceAdd, Int.reduceSub, Int.reduceNeg, Bool.not_true, Bool.not_false, Bool.not_not, ↓reduceIte, Nat.reduceAdd, Nat.reduceSub, Nat.reduceMul, Nat.reduceEqDiff, reduceCtorEq, Nat.reduceLT, Nat.reduceLeDiff, Nat.reduceGT]; exact rfl); (case ht1 => simp only [go_sem, Int.reduceToNat, Nat.min_eq_left, Nat.min_eq_right, Int.reducePow, Nat.reducePow, Int.reduceLE, Int.reduceLT, Int.reduceMul, Int.reduceAdd, Int.reduceSub, Int.reduceNeg, Bool.not_true, Bool.not_false, Bool.not_not, ↓reduceIte, Nat.reduceAdd, Nat.reduceSub, Nat.reduceMul, Nat.reduceEqDiff, reduceCtorEq, Nat.reduceLT, Nat.reduceLeDiff, Nat.reduceGT]; exact rfl); (case' LH1 => rintro ⟨k, kv⟩ E t hx hE ht; simp only [go_sem] at ht; subst ht; simp only [go_sem]; try dsimp only at hx))
    case hi => exact ⟨Nat.zero_le _, by simpa [sumL] using hr.1, by simpa using hm.1, fun q hq => by cases hq⟩
    case h0 =>
      (focus (refine ⟨_, _, Gh.refl, [0], rfl, ?_⟩; (refine ⟨?_, ?_, ?_⟩ <;> simp only [go_sem, List.range, List.range.loop, List.nodup_cons, List.nodup_nil, List.mem_cons, List.not_mem_nil, or_false, or_self, Int.reduceToNat, Nat.min_eq_left, Nat.min_eq_right, Int.reducePow, Nat.reducePow, Int.reduceLE, Int.reduceLT, Int.reduceMul, Int.reduceAdd, Int.reduceSub, Int.reduceNeg, Bool.not_true, Bool.not_false, Bool.not_not, ↓reduceIte, Nat.reduceAdd, Nat.reduceSub, Nat.reduceMul, Nat.reduceEqDiff, reduceCtorEq, Nat.reduceLT, Nat.reduceLeDiff, Nat.reduceGT]); (try any_goals (refine ⟨?_, ?_⟩)); (try any_goals (with_reducible rfl))))
      rfl
    case LH1 =>
      obtain ⟨hk0, hs, hkl, hq⟩ := hx
      have hw : IntKind.i64.wrap ((k : Int) + 1) = ((k + 1 : Nat) : Int) := by rw [wrap_i64 _ (by omega) (by omega)]; omega
      by_cases hk : k < l.length
      · have hkd : decide ((k : Int) < l.length) = true := decide_eq_true (by omega)
        by_cases hxd : 300 < (l.getD k []).length
        · have hxdd : decide ((300 : Int) < (l.getD k []).length) = true := decide_eq_true (by omega)
          (have zx1 := @hkd; have zx2 := @hxdd; all_goals (try ((first | (with_reducible refine wp_id ?_) | (with_reducible refine does_id ?_)); refine walk ?_; (repeat' (first | exact trivial | with_reducible refine And.intro ?_ ?_)); all_goals (repeat (first | (with_reducible refine ImpB.mk fun hb => ?_) | (with_reducible refine ImpK.mk fun hK => ?_) | (with_reducible refine ImpF.mk fun hF => ?_) | (with_reducible refine ImpQ.mk fun hp => ?_) | (with_reducible refine AllE.mk fun p => ?_) | (with_reducible refine AllR.mk fun rest => ?_) | (with_reducible refine AllK.mk fun K => ?_))))); repeat' (with_reducible refine And.intro ?_ ?_))
          all_goals first | exact Int.natCast_nonneg _ | exact Int.ofNat_lt.2 hk | skip
          (focus (refine ⟨_, _, Gh.refl, [], rfl, ?_⟩; (refine ⟨?_, ?_, ?_⟩ <;> simp only [go_sem, List.range, List.range.loop, List.nodup_cons, List.nodup_nil, List.mem_cons, List.not_mem_nil, or_false, or_self, Int.reduceToNat, Nat.min_eq_left, Nat.min_eq_right, Int.reducePow, Nat.reducePow, Int.reduceLE, Int.reduceLT, Int.reduceMul, Int.reduceAdd, Int.reduceSub, Int.reduceNeg, Bool.not_true, Bool.not_false, Bool.not_not, ↓reduceIte, Nat.reduceAdd, Nat.reduceSub, Nat.reduceMul, Nat.reduceEqDiff, reduceCtorEq, Nat.reduceLT, Nat.reduceLeDiff, Nat.reduceGT]); (try any_goals (refine ⟨?_, ?_⟩)); (try any_goals (with_reducible rfl))))
        · obtain ⟨x, hx⟩ : ∃ x, l.getD k [] = x := ⟨_, rfl⟩
          rw [hx] at hxd
          have hxdd : decide ((300 : Int) < x.length) = false := decide_eq_false (by omega)
          have hg : mgetS kv (nm2 120 k) = none := get_none fun p hp e => by
            obtain ⟨j, hj, e2⟩ := hq p hp
            have := nm2_inj (by omega) (by omega) (e2.symm.trans e)
            omega
          have hP := put_fresh (m := M) (r := R') (nm2_ok (c := 120) (k := k) (by decide) (by omega)) (d := x) (by omega) hg
          have hu : UInt8.ofNat (IntKind.u8.wrap (IntKind.i64.wrap (33 + (k : Int)))).toNat = UInt8.ofNat (33 + k) := by
            rw [wrap_i64 _ (by omega) (by omega), wrap_u8]
            congr 1
            omega
          have hn8 : (nm2 120 k).length ≤ 9223372036854775807 := by unfold nm2; simp
          have hu2 : IntKind.u8.wrap (IntKind.i64.wrap (33 + (k : Int))) < 256 := by rw [wrap_i64 _ (by omega) (by omega), wrap_u8]; omega
          have hnm : [(120 : UInt8), UInt8.ofNat (33 + k)] = nm2 120 k := rfl
          by_cases hfit : (kv.length : Int) < M ∧ sumL kv + x.length ≤ R'
          · rw [if_neg (by omega)] at hP
            have hM2 : putM M R' kv (nm2 120 k) x = msetS kv (nm2 120 k) x := by unfold putM; rw [if_pos hP]
            have hk2 : nm2 120 k ∉ kv.map (·.1) := fun hc => by
              obtain ⟨p, hp, e⟩ := List.mem_map.1 hc
              obtain ⟨j, hj, e2⟩ := hq p hp
              have := nm2_inj (by omega) (by omega) (e2.symm.trans e)
              omega
            rw [mset_new hk2] at hM2
            obtain ⟨kv', hkv'⟩ : ∃ y, kv ++ [(nm2 120 k, x)] = y := ⟨_, rfl⟩
            rw [hkv'] at hM2
            have hl' : kv'.length = kv.length + 1 := by rw [← hkv', List.length_append]; rfl
            have hs' : sumL kv' = sumL kv + x.length := by rw [← hkv', sumL_app]; simp [sumL]
            have hn' : (namesS kv').length = kv'.length := by unfold namesS; rw [sortS_len, List.length_map]
            have w1 : IntKind.i64.wrap ((kv.length : Int) + 1) = kv'.length := by rw [wrap_i64 _ (by omega) (by omega)]; omega
            have w2 : IntKind.i64.wrap ((sumL kv : Int) + x.length) = sumL kv' := by rw [wrap_i64 _ (by omega) (by omega)]; omega
            have w3 : IntKind.i64.wrap (R' - (sumL kv' : Int)) = R' - sumL kv' := by rw [wrap_i64 _ (by omega) (by omega)]
            have d1 : decide ((kv.length : Int) < M) = true := decide_eq_true hfit.1
            have d2 : decide ((sumL kv' : Int) ≤ R') = true := decide_eq_true (by omega)
            (have zx1 := @hkd; have zx2 := @hx; have zx3 := @hxdd; have zx4 := @hu; have zx5 := @hnm; have zx6 := @hP; have zx7 := @hM2; have zx8 := @d1; have zx9 := @w1; have zx10 := @w2; have zx11 := @w3; have zx12 := @d2; all_goals (try ((first | (with_reducible refine wp_id ?_) | (with_reducible refine does_id ?_)); refine walk ?_; (repeat' (first | exact trivial | with_reducible refine And.intro ?_ ?_)); all_goals (repeat (first | (with_reducible refine ImpB.mk fun hb => ?_) | (with_reducible refine ImpK.mk fun hK => ?_) | (with_reducible refine ImpF.mk fun hF => ?_) | (with_reducible refine ImpQ.mk fun hp => ?_) | (with_reducible refine AllE.mk fun p => ?_) | (with_reducible refine AllR.mk fun rest => ?_) | (with_reducible refine AllK.mk fun K => ?_))))); repeat' (with_reducible refine And.intro ?_ ?_))
            all_goals first | exact Int.natCast_nonneg _ | exact Int.ofNat_lt.2 hk | exact hu2 | exact hn8 | omega | (exfalso; simp at hb; done) | (exfalso; simp [hn'] at hb; done) | skip
            refine ⟨(k + 1, kv'), ⟨⟨by first | omega | (dsimp only; omega), by first | omega | (dsimp only; omega), by first | omega | (dsimp only; omega), fun p hp => ?_⟩, by first | omega | (dsimp only; omega)⟩, ?m21⟩
            · rw [← hkv'] at hp
              rcases List.mem_append.1 hp with hp | hp
              · obtain ⟨j, hj, e⟩ := hq p hp
                exact ⟨j, by first | omega | (dsimp only; omega), e⟩
              · simp only [List.mem_cons, List.not_mem_nil, or_false] at hp
                exact ⟨k, by first | omega | (dsimp only; omega), by rw [hp]⟩
            (focus (refine ⟨_, _, Gh.refl, [0], rfl, ?_⟩; (refine ⟨?_, ?_, ?_⟩ <;> simp only [go_sem, List.range, List.range.loop, List.nodup_cons, List.nodup_nil, List.mem_cons, List.not_mem_nil, or_false, or_self, Int.reduceToNat, Nat.min_eq_left, Nat.min_eq_right, Int.reducePow, Nat.reducePow, Int.reduceLE, Int.reduceLT, Int.reduceMul, Int.reduceAdd, Int.reduceSub, Int.reduceNeg, Bool.not_true, Bool.not_false, Bool.not_not, ↓reduceIte, Nat.reduceAdd, Nat.reduceSub, Nat.reduceMul, Nat.reduceEqDiff, reduceCtorEq, Nat.reduceLT, Nat.reduceLeDiff, Nat.reduceGT]); (try any_goals (refine ⟨?_, ?_⟩)); (try any_goals (with_reducible rfl))))
            exact hw.symm
          · rw [if_pos (by omega)] at hP
            have hM2 : putM M R' kv (nm2 120 k) x = kv := by unfold putM; rw [hP]; rfl
            have hn' : (namesS kv).length = kv.length := by unfold namesS; rw [sortS_len, List.length_map]
            have w2 : IntKind.i64.wrap ((sumL kv : Int) + x.length) = sumL kv + x.length := by rw [wrap_i64 _ (by omega) (by omega)]
            have w3 : IntKind.i64.wrap (R' - (sumL kv : Int)) = R' - sumL kv := by rw [wrap_i64 _ (by omega) (by omega)]
            by_cases hlt : (kv.length : Int) < M
            · have d1 : decide ((kv.length : Int) < M) = true := decide_eq_true hlt
              have d2 : decide ((sumL kv : Int) + x.length ≤ R') = false := decide_eq_false (by omega)
              (have zx1 := @hkd; have zx2 := @hx; have zx3 := @hxdd; have zx4 := @hu; have zx5 := @hnm; have zx6 := @hP; have zx7 := @hM2; have zx8 := @d1; have zx9 := @w2; have zx10 := @w3; have zx11 := @d2; have zx12 := @hn'; all_goals (try ((first | (with_reducible refine wp_id ?_) | (with_reducible refine does_id ?_)); refine walk ?_; (repeat' (first | exact trivial | with_reducible refine And.intro ?_ ?_)); all_goals (repeat (first | (with_reducible refine ImpB.mk fun hb => ?_) | (with_reducible refine ImpK.mk fun hK => ?_) | (with_reducible refine ImpF.mk fun hF => ?_) | (with_reducible refine ImpQ.mk fun hp => ?_) | (with_reducible refine AllE.mk fun p => ?_) | (with_reducible refine AllR.mk fun rest => ?_) | (with_reducible refine AllK.mk fun K => ?_))))); repeat' (with_reducible refine And.intro ?_ ?_))
              all_goals first | exact Int.natCast_nonneg _ | exact Int.ofNat_lt.2 hk | exact hu2 | exact hn8 | omega | (exfalso; simp at hb; done) | skip
              refine ⟨(k + 1, kv), ⟨⟨by first | omega | (dsimp only; omega), hs, hkl, fun p hp => ?_⟩, by first | omega | (dsimp only; omega)⟩, ?m22⟩
              · obtain ⟨j, hj, e⟩ := hq p hp
                exact ⟨j, by first | omega | (dsimp only; omega), e⟩
              (focus (refine ⟨_, _, Gh.refl, [0], rfl, ?_⟩; (refine ⟨?_, ?_, ?_⟩ <;> simp only [go_sem, List.range, List.range.loop, List.nodup_cons, List.nodup_nil, List.mem_cons, List.not_mem_nil, or_false, or_self, Int.reduceToNat, Nat.min_eq_left, Nat.min_eq_right, Int.reducePow, Nat.reducePow, Int.reduceLE, Int.reduceLT, Int.reduceMul, Int.reduceAdd, Int.reduceSub, Int.reduceNeg, Bool.not_true, Bool.not_false, Bool.not_not, ↓reduceIte, Nat.reduceAdd, Nat.reduceSub, Nat.reduceMul, Nat.reduceEqDiff, reduceCtorEq, Nat.reduceLT, Nat.reduceLeDiff, Nat.reduceGT]); (try any_goals (refine ⟨?_, ?_⟩)); (try any_goals (with_reducible rfl))))
              exact hw.symm
            · have d1 : decide ((kv.length : Int) < M) = false := decide_eq_false hlt
              (have zx1 := @hkd; have zx2 := @hx; have zx3 := @hxdd; have zx4 := @hu; have zx5 := @hnm; have zx6 := @hP; have zx7 := @hM2; have zx8 := @d1; have zx9 := @w2; have zx10 := @w3; have zx11 := @hn'; all_goals (try ((first | (with_reducible refine wp_id ?_) | (with_reducible refine does_id ?_)); refine walk ?_; (repeat' (first | exact trivial | with_reducible refine And.intro ?_ ?_)); all_goals (repeat (first | (with_reducible refine ImpB.mk fun hb => ?_) | (with_reducible refine ImpK.mk fun hK => ?_) | (with_reducible refine ImpF.mk fun hF => ?_) | (with_reducible refine ImpQ.mk fun hp => ?_) | (with_reducible refine AllE.mk fun p => ?_) | (with_reducible refine AllR.mk fun rest => ?_) | (with_reducible refine AllK.mk fun K => ?_))))); repeat' (with_reducible refine And.intro ?_ ?_))
              all_goals first | exact Int.natCast_nonneg _ | exact Int.ofNat_lt.2 hk | exact hu2 | exact hn8 | omega | (exfalso; simp at hb; done) | skip
              refine ⟨(k + 1, kv), ⟨⟨by first | omega | (dsimp only; omega), hs, hkl, fun p hp => ?_⟩, by first | omega | (dsimp only; omega)⟩, ?m23⟩
              · obtain ⟨j, hj, e⟩ := hq p hp
                exact ⟨j, by first | omega | (dsimp only; omega), e⟩
              (focus (refine ⟨_, _, Gh.refl, [0], rfl, ?_⟩; (refine ⟨?_, ?_, ?_⟩ <;> simp only [go_sem, List.range, List.range.loop, List.nodup_cons, List.nodup_nil, List.mem_cons, List.not_mem_nil, or_false, or_self, Int.reduceToNat, Nat.min_eq_left, Nat.min_eq_right, Int.reducePow, Nat.reducePow, Int.reduceLE, Int.reduceLT, Int.reduceMul, Int.reduceAdd, Int.reduceSub, Int.reduceNeg, Bool.not_true, Bool.not_false, Bool.not_not, ↓reduceIte, Nat.reduceAdd, Nat.reduceSub, Nat.reduceMul, Nat.reduceEqDiff, reduceCtorEq, Nat.reduceLT, Nat.reduceLeDiff, Nat.reduceGT]); (try any_goals (refine ⟨?_, ?_⟩)); (try any_goals (with_reducible rfl))))
              exact hw.symm
      · have hkd : decide ((k : Int) < l.length) = false := decide_eq_false (by omega)
        have p1 : putE M R' kv [97, 32, 98] [] = 1 := by unfold putE; rw [if_neg (by decide)]
        have p2 : putM M R' kv [97, 32, 98] [] = kv := by unfold putM; rw [p1]; rfl
        have p3 : putE M R' kv [121] (repN 65537 (UInt8.ofNat 0)) = 6 := by unfold putE; rw [if_pos (by decide), if_pos (by rw [repN_len]; omega)]
        have p4 : putM M R' kv [121] (repN 65537 (UInt8.ofNat 0)) = kv := by unfold putM; rw [p3]; rfl
        have hn' : (namesS kv).length = kv.length := by unfold namesS; rw [sortS_len, List.length_map]
        have hk3 : kv.length ≤ 1099511627776 := by omega
        (have zx1 := @hkd; have zx2 := @p1; have zx3 := @p2; have zx4 := @p3; have zx5 := @p4; have zx6 := @hn'; all_goals (try ((first | (with_reducible refine wp_id ?_) | (with_reducible refine does_id ?_)); refine walk ?_; (repeat' (first | exact trivial | with_reducible refine And.intro ?_ ?_)); all_goals (repeat (first | (with_reducible refine ImpB.mk fun hb => ?_) | (with_reducible refine ImpK.mk fun hK => ?_) | (with_reducible refine ImpF.mk fun hF => ?_) | (with_reducible refine ImpQ.mk fun hp => ?_) | (with_reducible refine AllE.mk fun p => ?_) | (with_reducible refine AllR.mk fun rest => ?_) | (with_reducible refine AllK.mk fun K => ?_))))); repeat' (with_reducible refine And.intro ?_ ?_))
        all_goals first | exact hk3 | (exfalso; simp at hb; done) | skip
        · (focus (refine ⟨_, _, Gh.refl, [], rfl, ?_⟩; (refine ⟨?_, ?_, ?_⟩ <;> simp only [go_sem, List.range, List.range.loop, List.nodup_cons, List.nodup_nil, List.mem_cons, List.not_mem_nil, or_false, or_self, Int.reduceToNat, Nat.min_eq_left, Nat.min_eq_right, Int.reducePow, Nat.reducePow, Int.reduceLE, Int.reduceLT, Int.reduceMul, Int.reduceAdd, Int.reduceSub, Int.reduceNeg, Bool.not_true, Bool.not_false, Bool.not_not, ↓reduceIte, Nat.reduceAdd, Nat.reduceSub, Nat.reduceMul, Nat.reduceEqDiff, reduceCtorEq, Nat.reduceLT, Nat.reduceLeDiff, Nat.reduceGT]); (try any_goals (refine ⟨?_, ?_⟩)); (try any_goals (with_reducible rfl))))
        · simp only [go_sem, Int.reduceToNat, Nat.min_eq_left, Nat.min_eq_right, Int.reducePow, Nat.reducePow, Int.reduceLE, Int.reduceLT, Int.reduceMul, Int.reduceAdd, Int.reduceSub, Int.reduceNeg, Bool.not_true, Bool.not_false, Bool.not_not, ↓reduceIte, Nat.reduceAdd, Nat.reduceSub, Nat.reduceMul, Nat.reduceEqDiff, reduceCtorEq, Nat.reduceLT, Nat.reduceLeDiff, Nat.reduceGT]
end Go.V

set_option maxRecDepth 100000
set_option maxHeartbeats 8000000
namespace Go.V
open Go.Proofs
abbrev lAt (l : List Str) (i : Nat) : Str := l.getD i []
/-- the first k files -/
def kvK (l : List Str) : Nat → List (Str × Str)
  | 0 => []
  | k + 1 => kvK l k ++ [(nm2 102 k, lAt l k)]
theorem kvK_len (l : List Str) : ∀ k, (kvK l k).length = k
  | 0 => rfl
  | k + 1 => by simp [kvK, kvK_len l k]
theorem kvK_mem {l : List Str} : ∀ {k : Nat} {p : Str × Str}, p ∈ kvK l k → ∃ j, j < k ∧ p.1 = nm2 102 j
  | 0, _, h => by cases h
  | k + 1, p, h => by
    rcases List.mem_append.1 h with h | h
    · obtain ⟨j, hj, e⟩ := kvK_mem h
      exact ⟨j, by omega, e⟩
    · simp only [List.mem_cons, List.not_mem_nil, or_false] at h
      exact ⟨k, by omega, by rw [h]⟩
/-- a sum -/
def accN (g : Nat → Nat) : Nat → Nat
  | 0 => 0
  | k + 1 => accN g k + g k
theorem accN_one {f g : Nat → Nat} {K : Nat} (h : ∀ i, i ≠ K → g i = f i) : ∀ n, accN g n + (if K < n then f K else 0) = accN f n + (if K < n then g K else 0)
  | 0 => by simp [accN]
  | n + 1 => by
    have ih := accN_one h n
    simp only [accN]
    by_cases e : n = K
    · subst e
      simp only [Nat.lt_irrefl, if_false] at ih
      simp only [Nat.lt_succ_self, if_true]
      omega
    · have := h n e
      by_cases hk : K < n
      · rw [if_pos hk, if_pos hk] at ih
        rw [if_pos (by omega), if_pos (by omega)]
        omega
      · rw [if_neg hk, if_neg hk] at ih
        rw [if_neg (by omega), if_neg (by omega)]
        omega
theorem kvK_sum (l : List Str) : ∀ k, sumL (kvK l k) = accN (fun i => (lAt l i).length) k
  | 0 => rfl
  | k + 1 => by
    show sumL (kvK l k ++ [(nm2 102 k, lAt l k)]) = _
    rw [sumL_app, kvK_sum l k]
    simp [accN, sumL]
theorem get_app {kv : List (Str × Str)} {a b : Str} {s : Str} : mgetS (kv ++ [(a, b)]) s = match mgetS kv s with | some x => some x | none => if a = s then some b else none := by
  induction kv with
  | nil => simp [mgetS, mget]
  | cons p kv ih =>
    unfold mgetS at *
    by_cases hp : p.1 = s
    · simp [mget, hp]
    · simp only [List.cons_append, mget, if_neg hp]
      exact ih
theorem kvK_get (l : List Str) {i : Nat} (hi : i ≤ 93) : ∀ {k}, k ≤ 93 → mgetS (kvK l k) (nm2 102 i) = if i < k then some (lAt l i) else none
  | 0, _ => by simp [kvK, mgetS, mget]
  | k + 1, hk => by
    show mgetS (kvK l k ++ [(nm2 102 k, lAt l k)]) _ = _
    rw [get_app, kvK_get l hi (k := k) (by omega)]
    by_cases h : i < k
    · rw [if_pos h, if_pos (show i < k + 1 by omega)]
    · rw [if_neg h]
      by_cases e : i = k
      · subst e
        simp
      · rw [if_neg (show ¬ i < k + 1 by omega)]
        exact if_neg fun q => e (nm2_inj (by omega) (by omega) q).symm
theorem get_set {kv : List (Str × Str)} {a b s : Str} : mgetS (msetS kv a b) s = if a = s then some b else mgetS kv s := by
  induction kv with
  | nil => simp [mgetS, msetS, mget, mset]
  | cons p kv ih =>
    unfold mgetS msetS at *
    by_cases hp : p.1 = a
    · by_cases hs : a = s
      · simp [mset, mget, hp, hs]
      · simp [mset, mget, hp, hs]
    · by_cases hs : p.1 = s
      · have : ¬ a = s := fun e => hp (hs.trans e.symm)
        rw [mset, if_neg hp, mget, if_pos hs, if_neg this, mget, if_pos hs]
      · simp only [mset, if_neg hp, mget, if_neg hs]
        exact ih
theorem get_del {kv : List (Str × Str)} {a s : Str} (h : a ≠ s) : mgetS (mdelS kv a) s = mgetS kv s := by
  induction kv with
  | nil => rfl
  | cons p kv ih =>
    unfold mgetS mdelS at *
    by_cases hp : p.1 = a
    · have : ¬ p.1 = s := fun e => h (hp.symm.trans e)
      rw [mdel, if_pos hp, mget, if_neg this]
    · by_cases hs : p.1 = s
      · rw [mdel, if_neg hp, mget, if_pos hs, mget, if_pos hs]
      · simp only [mdel, if_neg hp, mget, if_neg hs]
        exact ih
theorem kvK_nodup (l : List Str) : ∀ {k}, k ≤ 93 → ((kvK l k).map (·.1)).Nodup
  | 0, _ => .nil
  | k + 1, hk => by
    show ((kvK l k ++ [(nm2 102 k, lAt l k)]).map (·.1)).Nodup
    rw [List.map_append, List.nodup_append]
    refine ⟨kvK_nodup l (by omega), by simp, fun x hx y hy e => ?_⟩
    obtain ⟨p, hp, rfl⟩ := List.mem_map.1 hx
    obtain ⟨j, hj, e2⟩ := kvK_mem hp
    simp only [List.map_cons, List.map_nil, List.mem_cons, List.not_mem_nil, or_false] at hy
    have := nm2_inj (by omega) (by omega) (e2.symm.trans (e.trans hy))
    omega
theorem get_del_self {kv : List (Str × Str)} {s : Str} (h : (kv.map (·.1)).Nodup) : mgetS (mdelS kv s) s = none := by
  apply get_none
  intro p hp e
  unfold mdelS at hp
  rw [mdel_filter (k := .str) (e := .bytes) h, List.mem_filter] at hp
  simp [e] at hp
theorem set_sum {kv : List (Str × Str)} {s d x : Str} (h : mgetS kv s = some x) : sumL (msetS kv s d) + x.length = sumL kv + d.length ∧ (msetS kv s d).length = kv.length := by
  induction kv with
  | nil => cases h
  | cons p kv ih =>
    have e : sumL (p :: kv) = p.2.length + sumL kv := by simp [sumL]
    unfold mgetS msetS at *
    by_cases hp : p.1 = s
    · simp only [mget, if_pos hp, Option.some.injEq] at h
      simp only [mset, if_pos hp, List.length_cons]
      have e2 : sumL ((s, d) :: kv) = d.length + sumL kv := by simp [sumL]
      rw [e, e2, h]
      exact ⟨by omega, trivial⟩
    · simp only [mget, if_neg hp] at h
      have := ih h
      have e2 : sumL (p :: mset (k := .str) (e := .bytes) kv s d) = p.2.length + sumL (mset (k := .str) (e := .bytes) kv s d) := by simp [sumL]
      simp only [mset, if_neg hp, List.length_cons]
      rw [e, e2]
      omega
theorem set_new_sum {kv : List (Str × Str)} {s d : Str} (h : mgetS kv s = none) : sumL (msetS kv s d) = sumL kv + d.length ∧ (msetS kv s d).length = kv.length + 1 := by
  have hn : s ∉ kv.map (·.1) := fun hc => by
    obtain ⟨p, hp, e⟩ := List.mem_map.1 hc
    have := not_key h
    rw [List.filter_eq_self] at this
    have := this p hp
    simp [e] at this
  rw [mset_new hn, sumL_app, List.length_append]
  simp [sumL]
/-- what is found under the names after another file was put or deleted -/
structure Left (l : List Str) (n K : Nat) (b : Str) (e : Int) (kv : List (Str × Str)) : Prop where
  at_ : findE kv (nm2 102 K) = (b, e)
  off : ∀ i, i < n → i ≠ K → findE kv (nm2 102 i) = (lAt l i, 0)
  sum : sumL kv + (if K < n then (lAt l K).length else 0) = accN (fun i => (lAt l i).length) n + b.length
theorem chr102 : chrB 102 = true := by decide
theorem left_put {l : List Str} {n K : Nat} {d : Str} (hn : n ≤ 40) (hK : K ≤ 40) : Left l n K d 0 (msetS (kvK l n) (nm2 102 K) d) := by
  have hk := nm2_ok chr102 (k := K) (by omega)
  refine ⟨findE_1 hk (by rw [get_set, if_pos rfl]), fun i hi hne => findE_1 (nm2_ok chr102 (by omega)) ?_, ?_⟩
  · rw [get_set, if_neg (fun q => hne (nm2_inj (by omega) (by omega) q).symm), kvK_get l (by omega) (by omega), if_pos hi]
  · have hg := kvK_get l (i := K) (by omega) (k := n) (by omega)
    rw [← kvK_sum]
    by_cases h : K < n
    · rw [if_pos h] at hg ⊢
      exact (set_sum hg).1
    · rw [if_neg h] at hg ⊢
      rw [(set_new_sum hg).1]
      omega
theorem left_del {l : List Str} {n K : Nat} (hn : n ≤ 40) (hK : K ≤ 40) : Left l n K [] 8 (if (findE (kvK l n) (nm2 102 K)).2 = 0 then mdelS (kvK l n) (nm2 102 K) else kvK l n) := by
  have hk := nm2_ok chr102 (k := K) (by omega)
  have hg := kvK_get l (i := K) (by omega) (k := n) (by omega)
  by_cases h : K < n
  · rw [if_pos h] at hg
    rw [findE_1 hk hg, if_pos rfl]
    refine ⟨findE_0 hk (get_del_self (kvK_nodup l (by omega))), fun i hi hne => findE_1 (nm2_ok chr102 (by omega)) ?_, ?_⟩
    · rw [get_del (fun q => hne (nm2_inj (by omega) (by omega) q).symm), kvK_get l (by omega) (by omega), if_pos hi]
    · have := (mdel_get hg).2
      rw [← kvK_sum, if_pos h, this]
      rfl
  · rw [if_neg h] at hg
    rw [findE_0 hk hg, if_neg (by decide)]
    refine ⟨findE_0 hk hg, fun i hi hne => findE_1 (nm2_ok chr102 (by omega)) ?_, ?_⟩
    · rw [kvK_get l (by omega) (by omega), if_pos hi]
    · rw [← kvK_sum, if_neg h]
      rfl
/-- what the second loop adds -/
def lenK (l : List Str) (K : Nat) (b : Str) (i : Nat) : Nat := if i = K then b.length else (lAt l i).length
theorem Left.all {l : List Str} {n K : Nat} {b : Str} {e : Int} {kv : List (Str × Str)} (h : Left l n K b e kv) : sumL kv = accN (lenK l K b) n + (if K < n then 0 else b.length) := by
  have h1 := h.sum
  have h2 := accN_one (f := fun i => (lAt l i).length) (g := lenK l K b) (K := K) (fun i hi => by simp [lenK, hi]) n
  have h3 : lenK l K b K = b.length := by simp [lenK]
  rw [h3] at h2
  by_cases hk : K < n
  · rw [if_pos hk] at h1 h2 ⊢
    rw [if_pos hk] at h2
    omega
  · rw [if_neg hk] at h1 h2 ⊢
    rw [if_neg hk] at h2
    omega
theorem accN_le {g : Nat → Nat} {c : Nat} : ∀ {n : Nat}, (∀ i, i < n → g i ≤ c) → accN g n ≤ c * n
  | 0, _ => by simp [accN]
  | n + 1, h => by
    have := accN_le (n := n) fun i hi => h i (by omega)
    have := h n (by omega)
    rw [accN, Nat.mul_succ]
    omega
theorem accN_congr {f g : Nat → Nat} : ∀ {n : Nat}, (∀ i, i < n → f i = g i) → accN f n = accN g n
  | 0, _ => rfl
  | n + 1, h => by rw [accN, accN, accN_congr (n := n) fun i hi => h i (by omega), h n (by omega)]
end Go.V
