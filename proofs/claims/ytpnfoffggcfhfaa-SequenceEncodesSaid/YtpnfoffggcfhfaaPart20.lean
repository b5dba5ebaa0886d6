/-
  sequence: Encode.
  ref43: one, Encode.
-/
import Derived.Test.YtpnfoffggcfhfaaPart19
set_option linter.unusedVariables false
set_option linter.unusedSimpArgs false
set_option maxRecDepth 100000
set_option maxHeartbeats 8000000
namespace Go.V
open Go.Proofs
attribute [-go_sem] Wr
theorem encS_len {x : Stp} {n : Int} (hn : n ≤ 256) (h : vldS x n = true) : (encS x).length ≤ 700 := by
  obtain ⟨⟨-, ht, hk⟩, hv⟩ := vldS_iff.1 h
  unfold plS cpS nxS at hk
  unfold encS
  rw [List.length_append, be_len]
  split
  · rename_i k1
    have h1 := encC_len (hv k1)
    have h2 := encI_le (encC x.c).length (by constructor <;> omega)
    rw [List.length_append]; omega
  split
  · have h2 := encI_le x.ticks (by constructor <;> omega)
    omega
  split
  · have h1 := encI_le x.param (by constructor <;> omega)
    have h2 := encI_le x.value (by constructor <;> omega)
    have h3 := encI_le x.next (by constructor <;> omega)
    simp only [List.length_append, be_len]; omega
  split
  · have h1 := encI_le x.param (by constructor <;> omega)
    have h2 := encI_le x.value (by constructor <;> omega)
    simp only [List.length_append, be_len]; omega
  split
  · have h3 := encI_le x.next (by constructor <;> omega)
    omega
  · exact (by decide : 1 + ([] : List UInt8).length ≤ 700)
theorem encSs_len {n : Int} (hn : n ≤ 256) : ∀ {l : List Stp}, (∀ x ∈ l, vldS x n = true) → (l.flatMap encS).length ≤ 700 * l.length
  | [], _ => Nat.zero_le _
  | x :: l, h => by
    have h1 := encS_len hn (h x (List.mem_cons_self ..))
    have h2 := encSs_len hn (l := l) fun y hy => h y (List.mem_cons_of_mem _ hy)
    rw [List.flatMap_cons, List.length_append, List.length_cons]
    omega
theorem b_qencF (l : List Stp) (hl : l.length ≤ 9223372036854775807) (ha : litQ l) (hc : vldQ l = false) : DoesK Try.prog 0 20 [.ro .stp l] [] (EndF 0 (.tup [.lit (.slice none 0 0), .int .i64 1]) []) := by
  refine DoesK.close ?_
  refine w_body (rs := [.tmp 2, .tmp 3]) (tm := [.ro .stp l, .any, .any, .any, .any, .any, .any, .any, .any, .any, .any, .any, .any, .any, .any, .any, .any, .any, .any, .any, .any, .any, .any, .any, .any, .any, .any, .any, .any, .any, .any, .any, .any, .any, .any, .any, .any, .any, .any, .any, .any, .any, .any, .any, .any, .any, .any, .any, .any, .any, .any, .any, .any, .any, .any, .any, .any, .any, .any, .any, .any, .any, .any, .any, .any, .any, .any, .any, .any, .any, .any, .any, .any, .any, .any, .any, .any, .any, .any, .any, .any, .any, .any, .any, .any, .any, .any, .any]) fn_20 rfl rfl rfl rfl fun R hR => ?_
  (have zx1 := @hc; all_goals (try ((first | (with_reducible refine wp_id ?_) | (with_reducible refine does_id ?_) | (with_reducible refine ops_id ?_)); refine walk ?_; (repeat' (first | exact trivial | with_reducible refine And.intro ?_ ?_)); all_goals (repeat (first | (with_reducible refine ImpB.mk fun hb => ?_) | (with_reducible refine ImpK.mk fun hK => ?_) | (with_reducible refine ImpF.mk fun hF => ?_) | (with_reducible refine ImpQ.mk fun hp => ?_) | (with_reducible refine AllE.mk fun p => ?_) | (with_reducible refine AllR.mk fun rest => ?_) | (with_reducible refine AllK.mk fun K => ?_))))); repeat' (with_reducible refine And.intro ?_ ?_))
  (focus (refine ⟨_, _, Gh.refl, [], rfl, ?_⟩; (refine ⟨?_, ?_, ?_⟩ <;> simp only [go_sem, List.range, List.range.loop, List.nodup_cons, List.nodup_nil, List.mem_cons, List.not_mem_nil, or_false, or_self, decide_true, decide_false, Int.reduceToNat, Nat.min_eq_left, Nat.min_eq_right, Int.reducePow, Nat.reducePow, Int.reduceLE, Int.reduceLT, Int.reduceMul, Int.reduceAdd, Int.reduceSub, Int.reduceNeg, Bool.not_true, Bool.not_false, Bool.not_not, ↓reduceIte, Nat.reduceAdd, Nat.reduceSub, Nat.reduceMul, Nat.reduceEqDiff, reduceCtorEq, Nat.reduceLT, Nat.reduceLeDiff, Nat.reduceGT]); (try any_goals (refine ⟨?_, ?_⟩)); (try any_goals (with_reducible rfl))))
theorem b_qencT (l : List Stp) (ha : litQ l) (hc : vldQ l = true) : DoesK Try.prog 0 20 [.ro .stp l] [] (EndF 0 (.tup [.sl 0 .byte 0 (encQ l).length, .int .i64 0]) [.rows .byte (encQ l)]) := by
  refine DoesK.close ?_
  obtain ⟨⟨hl1, hl2⟩, hall⟩ := vldQ_iff.1 hc
  have hl : l.length ≤ 9223372036854775807 := by omega
  have hI : I64 (l.length : Int) := by constructor <;> omega
  have h9 := encI_le l.length hI
  have hlen : ∀ k, ((l.take k).flatMap encS).length ≤ 180000 := fun k => by
    have h4 := encSs_len (n := (l.length : Int)) (by omega) (l := l.take k) fun x hx => hall x (List.mem_of_mem_take hx)
    have h5 : (l.take k).length ≤ l.length := by rw [List.length_take]; omega
    omega
  refine w_body (rs := [.tmp 2, .tmp 3]) (tm := [.ro .stp l, .any, .any, .any, .any, .any, .any, .any, .any, .any, .any, .any, .any, .any, .any, .any, .any, .any, .any, .any, .any, .any, .any, .any, .any, .any, .any, .any, .any, .any, .any, .any, .any, .any, .any, .any, .any, .any, .any, .any, .any, .any, .any, .any, .any, .any, .any, .any, .any, .any, .any, .any, .any, .any, .any, .any, .any, .any, .any, .any, .any, .any, .any, .any, .any, .any, .any, .any, .any, .any, .any, .any, .any, .any, .any, .any, .any, .any, .any, .any, .any, .any, .any, .any, .any, .any, .any, .any]) fn_20 rfl rfl rfl rfl fun R hR => ?_
  (have zx1 := @hc; all_goals (try ((first | (with_reducible refine wp_id ?_) | (with_reducible refine does_id ?_) | (with_reducible refine ops_id ?_)); refine walk ?_; (repeat' (first | exact trivial | with_reducible refine And.intro ?_ ?_)); all_goals (repeat (first | (with_reducible refine ImpB.mk fun hb => ?_) | (with_reducible refine ImpK.mk fun hK => ?_) | (with_reducible refine ImpF.mk fun hF => ?_) | (with_reducible refine ImpQ.mk fun hp => ?_) | (with_reducible refine AllE.mk fun p => ?_) | (with_reducible refine AllR.mk fun rest => ?_) | (with_reducible refine AllK.mk fun K => ?_))))); repeat' (with_reducible refine And.intro ?_ ?_))
  any_goals ((try (refine w_seq fun K hK => ?_)); (try (refine w_block ?_)); refine w_loop (A := Nat) (fun k => k ≤ l.length) (fun k => l.length - k) (fun k => [(19, .int .i64 k)]) (fun k => [(0, .pack (Wr (encI l.length ++ (l.take k).flatMap encS)))]) (0) (ws := ?ws1) (tk := ?tk1) ?hw1 ?ht1 ?hi ?h0 ?LH1; (case hw1 => simp only [go_sem, decide_true, decide_false, Int.reduceToNat, Nat.min_eq_left, Nat.min_eq_right, Int.reducePow, Nat.reducePow, Int.reduceLE, Int.reduceLT, Int.reduceMul, Int.reduceAdd, Int.reduceSub, Int.reduceNeg, Bool.not_true, Bool.not_false, Bool.not_not, ↓reduceIte, Nat.reduceAdd, Nat.reduceSub, Nat.reduceMul, Nat.reduceEqDiff, reduceCtorEq, Nat.reduceLT, Nat.reduceLeDiff, Nat.reduceGT]; exact rfl); (case ht1 => simp only [go_sem, decide_true, decide_false, Int.reduceToNat, Nat.min_eq_left, Nat.min_eq_right, Int.reducePow, Nat.reducePow, Int.reduceLE, Int.reduceLT, Int.reduceMul, Int.reduceAdd, Int.reduceSub, Int.reduceNeg, Bool.not_true, Bool.not_false, Bool.not_not, ↓reduceIte, Nat.reduceAdd, Nat.reduceSub, Nat.reduceMul, Nat.reduceEqDiff, reduceCtorEq, Nat.reduceLT, Nat.reduceLeDiff, Nat.reduceGT]; exact rfl); (case' LH1 => rintro k E t hx hE ht; simp only [go_sem] at ht; subst ht; simp only [go_sem]; try dsimp only at hx))
  case hi => exact Nat.zero_le _
  case h0 => (focus (refine ⟨_, _, Gh.refl, [0], rfl, ?_⟩; (refine ⟨?_, ?_, ?_⟩ <;> simp only [go_sem, List.range, List.range.loop, List.nodup_cons, List.nodup_nil, List.mem_cons, List.not_mem_nil, or_false, or_self, decide_true, decide_false, Int.reduceToNat, Nat.min_eq_left, Nat.min_eq_right, Int.reducePow, Nat.reducePow, Int.reduceLE, Int.reduceLT, Int.reduceMul, Int.reduceAdd, Int.reduceSub, Int.reduceNeg, Bool.not_true, Bool.not_false, Bool.not_not, ↓reduceIte, Nat.reduceAdd, Nat.reduceSub, Nat.reduceMul, Nat.reduceEqDiff, reduceCtorEq, Nat.reduceLT, Nat.reduceLeDiff, Nat.reduceGT]); (try any_goals (refine ⟨?_, ?_⟩)); (try any_goals (with_reducible rfl)))); (all_goals (repeat' (first | (refine And.intro ?_ ?_) | rfl | (simp; done) | trace_state)))
  case LH1 =>
    have hk0 : k ≤ l.length := hx
    have hlk := hlen k
    have hw : IntKind.i64.wrap ((k : Int) + 1) = ((k + 1 : Nat) : Int) := by rw [wrap_i64 _ (by omega) (by omega)]; omega
    by_cases hk : k < l.length
    · have hkd : decide ((k : Int) < l.length) = true := decide_eq_true (by omega)
      have hvk := vldQ_at hc hk
      obtain ⟨P, hP⟩ : ∃ P, encI l.length ++ (l.take k).flatMap encS = P := ⟨_, rfl⟩
      have hPl : P.length ≤ 180010 := by rw [← hP, List.length_append]; omega
      have hPn : ∀ z, encI l.length ++ ((l.take k).flatMap encS ++ z) = P ++ z := fun z => by rw [← List.append_assoc, hP]
      have htk : (l.take (k + 1)).flatMap encS = (l.take k).flatMap encS ++ encS (l.getD k Stp.zero) := by rw [stp_take hk, List.flatMap_append, List.flatMap_singleton]
      rw [hP]
      obtain ⟨x, hxe⟩ : ∃ x, l.getD k Stp.zero = x := ⟨_, rfl⟩
      rw [hxe] at hvk htk
      have hel := encS_len (by omega) hvk
      obtain ⟨⟨-, ht, hkk⟩, hv⟩ := vldS_iff.1 hvk
      unfold plS cpS nxS at hkk
      have w1 : IntKind.u64.wrap x.kind = ((x.kind.toNat : Nat) : Int) := by rw [wrap_u64]; omega
      have hb1 : (be x.kind.toNat 1).length = 1 := be_len _ _
      by_cases k1 : x.kind = 1
      · have d1 : decide (x.kind = 1) = true := decide_eq_true k1
        have hvv := hv k1
        have hcl : (encC ⟨x.c.src, x.c.num, x.c.srv, x.c.args, x.c.data⟩).length ≤ 600 := encC_len hvv
        have hE : encS x = be x.kind.toNat 1 ++ (encI (encC x.c).length ++ encC x.c) := by rw [encS, if_pos k1]
        (have zx1 := @hkd; have zx2 := @hxe; have zx3 := @w1; have zx4 := @d1; have zx5 := @hvv; have zx6 := @hw; all_goals (try ((first | (with_reducible refine wp_id ?_) | (with_reducible refine does_id ?_) | (with_reducible refine ops_id ?_)); refine walk ?_; (repeat' (first | exact trivial | with_reducible refine And.intro ?_ ?_)); all_goals (repeat (first | (with_reducible refine ImpB.mk fun hb => ?_) | (with_reducible refine ImpK.mk fun hK => ?_) | (with_reducible refine ImpF.mk fun hF => ?_) | (with_reducible refine ImpQ.mk fun hp => ?_) | (with_reducible refine AllE.mk fun p => ?_) | (with_reducible refine AllR.mk fun rest => ?_) | (with_reducible refine AllK.mk fun K => ?_))))); repeat' (with_reducible refine And.intro ?_ ?_))
        all_goals first | omega | (simp only [List.length_append, be_len]; omega) | skip
        refine ⟨k + 1, ⟨by first | omega | (dsimp only; omega), by first | omega | (dsimp only; omega)⟩, ?_⟩
        dsimp only
        rw [htk, hE, hPn]
        (focus (refine ⟨_, _, Gh.refl, [0], rfl, ?_⟩; (refine ⟨?_, ?_, ?_⟩ <;> simp only [go_sem, List.range, List.range.loop, List.nodup_cons, List.nodup_nil, List.mem_cons, List.not_mem_nil, or_false, or_self, decide_true, decide_false, Int.reduceToNat, Nat.min_eq_left, Nat.min_eq_right, Int.reducePow, Nat.reducePow, Int.reduceLE, Int.reduceLT, Int.reduceMul, Int.reduceAdd, Int.reduceSub, Int.reduceNeg, Bool.not_true, Bool.not_false, Bool.not_not, ↓reduceIte, Nat.reduceAdd, Nat.reduceSub, Nat.reduceMul, Nat.reduceEqDiff, reduceCtorEq, Nat.reduceLT, Nat.reduceLeDiff, Nat.reduceGT]); (try any_goals (refine ⟨?_, ?_⟩)); (try any_goals (with_reducible rfl))))
        all_goals (repeat' (first | (refine And.intro ?_ ?_) | (with_reducible rfl) | (simp only [List.append_assoc]; done) | trace_state))
      have d1 : decide (x.kind = 1) = false := decide_eq_false k1
      by_cases k2 : x.kind = 2
      · have d2 : decide (x.kind = 2) = true := decide_eq_true k2
        have hI2 : I64 x.ticks := by constructor <;> omega
        have hE : encS x = be x.kind.toNat 1 ++ encI x.ticks := by rw [encS, if_neg k1, if_pos k2]
        (have zx1 := @hkd; have zx2 := @hxe; have zx3 := @w1; have zx4 := @d1; have zx5 := @d2; have zx6 := @hw; all_goals (try ((first | (with_reducible refine wp_id ?_) | (with_reducible refine does_id ?_) | (with_reducible refine ops_id ?_)); refine walk ?_; (repeat' (first | exact trivial | with_reducible refine And.intro ?_ ?_)); all_goals (repeat (first | (with_reducible refine ImpB.mk fun hb => ?_) | (with_reducible refine ImpK.mk fun hK => ?_) | (with_reducible refine ImpF.mk fun hF => ?_) | (with_reducible refine ImpQ.mk fun hp => ?_) | (with_reducible refine AllE.mk fun p => ?_) | (with_reducible refine AllR.mk fun rest => ?_) | (with_reducible refine AllK.mk fun K => ?_))))); repeat' (with_reducible refine And.intro ?_ ?_))
        all_goals first | omega | (simp only [List.length_append, be_len]; omega) | skip
        refine ⟨k + 1, ⟨by first | omega | (dsimp only; omega), by first | omega | (dsimp only; omega)⟩, ?_⟩
        dsimp only
        rw [htk, hE, hPn]
        (focus (refine ⟨_, _, Gh.refl, [0], rfl, ?_⟩; (refine ⟨?_, ?_, ?_⟩ <;> simp only [go_sem, List.range, List.range.loop, List.nodup_cons, List.nodup_nil, List.mem_cons, List.not_mem_nil, or_false, or_self, decide_true, decide_false, Int.reduceToNat, Nat.min_eq_left, Nat.min_eq_right, Int.reducePow, Nat.reducePow, Int.reduceLE, Int.reduceLT, Int.reduceMul, Int.reduceAdd, Int.reduceSub, Int.reduceNeg, Bool.not_true, Bool.not_false, Bool.not_not, ↓reduceIte, Nat.reduceAdd, Nat.reduceSub, Nat.reduceMul, Nat.reduceEqDiff, reduceCtorEq, Nat.reduceLT, Nat.reduceLeDiff, Nat.reduceGT]); (try any_goals (refine ⟨?_, ?_⟩)); (try any_goals (with_reducible rfl))))
        all_goals (repeat' (first | (refine And.intro ?_ ?_) | (with_reducible rfl) | (simp only [List.append_assoc]; done) | trace_state))
      have d2 : decide (x.kind = 2) = false := decide_eq_false k2
      by_cases k3 : x.kind = 3
      · have d3 : decide (x.kind = 3) = true := decide_eq_true k3
        have hI1 : I64 x.param := by constructor <;> omega
        have hI2 : I64 x.value := by constructor <;> omega
        have hI3 : I64 x.next := by constructor <;> omega
        have hl1 := encI_le _ hI1
        have hl2 := encI_le _ hI2
        have w2 : IntKind.u64.wrap x.op = ((x.op.toNat : Nat) : Int) := by rw [wrap_u64]; omega
        have hE : encS x = be x.kind.toNat 1 ++ (encI x.param ++ be x.op.toNat 1 ++ encI x.value ++ encI x.next) := by rw [encS, if_neg k1, if_neg k2, if_pos k3]
        (have zx1 := @hkd; have zx2 := @hxe; have zx3 := @w1; have zx4 := @d1; have zx5 := @d2; have zx6 := @d3; have zx7 := @w2; have zx8 := @hw; all_goals (try ((first | (with_reducible refine wp_id ?_) | (with_reducible refine does_id ?_) | (with_reducible refine ops_id ?_)); refine walk ?_; (repeat' (first | exact trivial | with_reducible refine And.intro ?_ ?_)); all_goals (repeat (first | (with_reducible refine ImpB.mk fun hb => ?_) | (with_reducible refine ImpK.mk fun hK => ?_) | (with_reducible refine ImpF.mk fun hF => ?_) | (with_reducible refine ImpQ.mk fun hp => ?_) | (with_reducible refine AllE.mk fun p => ?_) | (with_reducible refine AllR.mk fun rest => ?_) | (with_reducible refine AllK.mk fun K => ?_))))); repeat' (with_reducible refine And.intro ?_ ?_))
        all_goals first | omega | (simp only [List.length_append, be_len]; omega) | skip
        refine ⟨k + 1, ⟨by first | omega | (dsimp only; omega), by first | omega | (dsimp only; omega)⟩, ?_⟩
        dsimp only
        rw [htk, hE, hPn]
        (focus (refine ⟨_, _, Gh.refl, [0], rfl, ?_⟩; (refine ⟨?_, ?_, ?_⟩ <;> simp only [go_sem, List.range, List.range.loop, List.nodup_cons, List.nodup_nil, List.mem_cons, List.not_mem_nil, or_false, or_self, decide_true, decide_false, Int.reduceToNat, Nat.min_eq_left, Nat.min_eq_right, Int.reducePow, Nat.reducePow, Int.reduceLE, Int.reduceLT, Int.reduceMul, Int.reduceAdd, Int.reduceSub, Int.reduceNeg, Bool.not_true, Bool.not_false, Bool.not_not, ↓reduceIte, Nat.reduceAdd, Nat.reduceSub, Nat.reduceMul, Nat.reduceEqDiff, reduceCtorEq, Nat.reduceLT, Nat.reduceLeDiff, Nat.reduceGT]); (try any_goals (refine ⟨?_, ?_⟩)); (try any_goals (with_reducible rfl))))
        all_goals (repeat' (first | (refine And.intro ?_ ?_) | (with_reducible rfl) | (simp only [List.append_assoc]; done) | trace_state))
      have d3 : decide (x.kind = 3) = false := decide_eq_false k3
      by_cases k4 : x.kind = 4
      · have d4 : decide (x.kind = 4) = true := decide_eq_true k4
        have hI1 : I64 x.param := by constructor <;> omega
        have hI2 : I64 x.value := by constructor <;> omega
        have hl1 := encI_le _ hI1
        have hl2 := encI_le _ hI2
        have w2 : IntKind.u64.wrap x.op = ((x.op.toNat : Nat) : Int) := by rw [wrap_u64]; omega
        have hE : encS x = be x.kind.toNat 1 ++ (encI x.param ++ be x.op.toNat 1 ++ encI x.value) := by rw [encS, if_neg k1, if_neg k2, if_neg k3, if_pos k4]
        (have zx1 := @hkd; have zx2 := @hxe; have zx3 := @w1; have zx4 := @d1; have zx5 := @d2; have zx6 := @d3; have zx7 := @d4; have zx8 := @w2; have zx9 := @hw; all_goals (try ((first | (with_reducible refine wp_id ?_) | (with_reducible refine does_id ?_) | (with_reducible refine ops_id ?_)); refine walk ?_; (repeat' (first | exact trivial | with_reducible refine And.intro ?_ ?_)); all_goals (repeat (first | (with_reducible refine ImpB.mk fun hb => ?_) | (with_reducible refine ImpK.mk fun hK => ?_) | (with_reducible refine ImpF.mk fun hF => ?_) | (with_reducible refine ImpQ.mk fun hp => ?_) | (with_reducible refine AllE.mk fun p => ?_) | (with_reducible refine AllR.mk fun rest => ?_) | (with_reducible refine AllK.mk fun K => ?_))))); repeat' (with_reducible refine And.intro ?_ ?_))
        all_goals first | omega | (simp only [List.length_append, be_len]; omega) | skip
        refine ⟨k + 1, ⟨by first | omega | (dsimp only; omega), by first | omega | (dsimp only; omega)⟩, ?_⟩
        dsimp only
        rw [htk, hE, hPn]
        (focus (refine ⟨_, _, Gh.refl, [0], rfl, ?_⟩; (refine ⟨?_, ?_, ?_⟩ <;> simp only [go_sem, List.range, List.range.loop, List.nodup_cons, List.nodup_nil, List.mem_cons, List.not_mem_nil, or_false, or_self, decide_true, decide_false, Int.reduceToNat, Nat.min_eq_left, Nat.min_eq_right, Int.reducePow, Nat.reducePow, Int.reduceLE, Int.reduceLT, Int.reduceMul, Int.reduceAdd, Int.reduceSub, Int.reduceNeg, Bool.not_true, Bool.not_false, Bool.not_not, ↓reduceIte, Nat.reduceAdd, Nat.reduceSub, Nat.reduceMul, Nat.reduceEqDiff, reduceCtorEq, Nat.reduceLT, Nat.reduceLeDiff, Nat.reduceGT]); (try any_goals (refine ⟨?_, ?_⟩)); (try any_goals (with_reducible rfl))))
        all_goals (repeat' (first | (refine And.intro ?_ ?_) | (with_reducible rfl) | (simp only [List.append_assoc]; done) | trace_state))
      have d4 : decide (x.kind = 4) = false := decide_eq_false k4
      by_cases k5 : x.kind = 5
      · have d5 : decide (x.kind = 5) = true := decide_eq_true k5
        have hI3 : I64 x.next := by constructor <;> omega
        have hE : encS x = be x.kind.toNat 1 ++ encI x.next := by rw [encS, if_neg k1, if_neg k2, if_neg k3, if_neg k4, if_pos k5]
        (have zx1 := @hkd; have zx2 := @hxe; have zx3 := @w1; have zx4 := @d1; have zx5 := @d2; have zx6 := @d3; have zx7 := @d4; have zx8 := @d5; have zx9 := @hw; all_goals (try ((first | (with_reducible refine wp_id ?_) | (with_reducible refine does_id ?_) | (with_reducible refine ops_id ?_)); refine walk ?_; (repeat' (first | exact trivial | with_reducible refine And.intro ?_ ?_)); all_goals (repeat (first | (with_reducible refine ImpB.mk fun hb => ?_) | (with_reducible refine ImpK.mk fun hK => ?_) | (with_reducible refine ImpF.mk fun hF => ?_) | (with_reducible refine ImpQ.mk fun hp => ?_) | (with_reducible refine AllE.mk fun p => ?_) | (with_reducible refine AllR.mk fun rest => ?_) | (with_reducible refine AllK.mk fun K => ?_))))); repeat' (with_reducible refine And.intro ?_ ?_))
        all_goals first | omega | (simp only [List.length_append, be_len]; omega) | skip
        refine ⟨k + 1, ⟨by first | omega | (dsimp only; omega), by first | omega | (dsimp only; omega)⟩, ?_⟩
        dsimp only
        rw [htk, hE, hPn]
        (focus (refine ⟨_, _, Gh.refl, [0], rfl, ?_⟩; (refine ⟨?_, ?_, ?_⟩ <;> simp only [go_sem, List.range, List.range.loop, List.nodup_cons, List.nodup_nil, List.mem_cons, List.not_mem_nil, or_false, or_self, decide_true, decide_false, Int.reduceToNat, Nat.min_eq_left, Nat.min_eq_right, Int.reducePow, Nat.reducePow, Int.reduceLE, Int.reduceLT, Int.reduceMul, Int.reduceAdd, Int.reduceSub, Int.reduceNeg, Bool.not_true, Bool.not_false, Bool.not_not, ↓reduceIte, Nat.reduceAdd, Nat.reduceSub, Nat.reduceMul, Nat.reduceEqDiff, reduceCtorEq, Nat.reduceLT, Nat.reduceLeDiff, Nat.reduceGT]); (try any_goals (refine ⟨?_, ?_⟩)); (try any_goals (with_reducible rfl))))
        all_goals (repeat' (first | (refine And.intro ?_ ?_) | (with_reducible rfl) | (simp only [List.append_assoc]; done) | trace_state))
      have d5 : decide (x.kind = 5) = false := decide_eq_false k5
      have hE : encS x = be x.kind.toNat 1 ++ [] := by rw [encS, if_neg k1, if_neg k2, if_neg k3, if_neg k4, if_neg k5]
      (have zx1 := @hkd; have zx2 := @hxe; have zx3 := @w1; have zx4 := @d1; have zx5 := @d2; have zx6 := @d3; have zx7 := @d4; have zx8 := @d5; have zx9 := @hw; all_goals (try ((first | (with_reducible refine wp_id ?_) | (with_reducible refine does_id ?_) | (with_reducible refine ops_id ?_)); refine walk ?_; (repeat' (first | exact trivial | with_reducible refine And.intro ?_ ?_)); all_goals (repeat (first | (with_reducible refine ImpB.mk fun hb => ?_) | (with_reducible refine ImpK.mk fun hK => ?_) | (with_reducible refine ImpF.mk fun hF => ?_) | (with_reducible refine ImpQ.mk fun hp => ?_) | (with_reducible refine AllE.mk fun p => ?_) | (with_reducible refine AllR.mk fun rest => ?_) | (with_reducible refine AllK.mk fun K => ?_))))); repeat' (with_reducible refine And.intro ?_ ?_))
      all_goals first | omega | (simp only [List.length_append, be_len]; omega) | skip
      refine ⟨k + 1, ⟨by first | omega | (dsimp only; omega), by first | omega | (dsimp only; omega)⟩, ?_⟩
      dsimp only
      rw [htk, hE, hPn]
      (focus (refine ⟨_, _, Gh.refl, [0], rfl, ?_⟩; (refine ⟨?_, ?_, ?_⟩ <;> simp only [go_sem, List.range, List.range.loop, List.nodup_cons, List.nodup_nil, List.mem_cons, List.not_mem_nil, or_false, or_self, decide_true, decide_false, Int.reduceToNat, Nat.min_eq_left, Nat.min_eq_right, Int.reducePow, Nat.reducePow, Int.reduceLE, Int.reduceLT, Int.reduceMul, Int.reduceAdd, Int.reduceSub, Int.reduceNeg, Bool.not_true, Bool.not_false, Bool.not_not, ↓reduceIte, Nat.reduceAdd, Nat.reduceSub, Nat.reduceMul, Nat.reduceEqDiff, reduceCtorEq, Nat.reduceLT, Nat.reduceLeDiff, Nat.reduceGT]); (try any_goals (refine ⟨?_, ?_⟩)); (try any_goals (with_reducible rfl))))
      all_goals (repeat' (first | (refine And.intro ?_ ?_) | (with_reducible rfl) | (simp only [List.append_assoc, List.append_nil]; done) | trace_state))
    · have hkd : decide ((k : Int) < l.length) = false := decide_eq_false (by omega)
      have hk2 : l.take k = l := List.take_of_length_le (by omega)
      rw [hk2] at hlk ⊢
      have hQ : encI l.length ++ l.flatMap encS = encQ l := rfl
      rw [hQ]
      have hQl : (encQ l).length ≤ 180010 := by rw [← hQ, List.length_append]; omega
      (have zx1 := @hkd; all_goals (try ((first | (with_reducible refine wp_id ?_) | (with_reducible refine does_id ?_) | (with_reducible refine ops_id ?_)); refine walk ?_; (repeat' (first | exact trivial | with_reducible refine And.intro ?_ ?_)); all_goals (repeat (first | (with_reducible refine ImpB.mk fun hb => ?_) | (with_reducible refine ImpK.mk fun hK => ?_) | (with_reducible refine ImpF.mk fun hF => ?_) | (with_reducible refine ImpQ.mk fun hp => ?_) | (with_reducible refine AllE.mk fun p => ?_) | (with_reducible refine AllR.mk fun rest => ?_) | (with_reducible refine AllK.mk fun K => ?_))))); repeat' (with_reducible refine And.intro ?_ ?_))
      all_goals first | exact Int.natCast_nonneg _ | omega | skip
      (focus (refine ⟨_, _, Gh.refl, [1], rfl, ?_⟩; (refine ⟨?_, ?_, ?_⟩ <;> simp only [go_sem, List.range, List.range.loop, List.nodup_cons, List.nodup_nil, List.mem_cons, List.not_mem_nil, or_false, or_self, decide_true, decide_false, Int.reduceToNat, Nat.min_eq_left, Nat.min_eq_right, Int.reducePow, Nat.reducePow, Int.reduceLE, Int.reduceLT, Int.reduceMul, Int.reduceAdd, Int.reduceSub, Int.reduceNeg, Bool.not_true, Bool.not_false, Bool.not_not, ↓reduceIte, Nat.reduceAdd, Nat.reduceSub, Nat.reduceMul, Nat.reduceEqDiff, reduceCtorEq, Nat.reduceLT, Nat.reduceLeDiff, Nat.reduceGT]); (try any_goals (refine ⟨?_, ?_⟩)); (try any_goals (with_reducible rfl))))
      all_goals (repeat' (first | (refine And.intro ?_ ?_) | rfl | trace_state))
theorem c_qencF {h : List Ch} {K : KT} {l : List Stp} {a : AV} (H : K (.tup [.lit (.slice none 0 0), .int .i64 1]) h) (b1 : brA [] h (.ro .stp l) a) (e1 : vldQ l = false) (s1 : l.length ≤ 9223372036854775807) (s2 : litQ l) : Does Try.prog 20 [a] h K :=
  frame_pure (b_qencF l s1 s2 e1) (br_cons b1 br_nil) (.inr rfl) (fun _ => rfl) H
abbrev i_qencF := Ctr.mk (i := 0) (g := 20) @c_qencF
attribute [instance] i_qencF
theorem c_qencT {h : List Ch} {K : KT} {l : List Stp} {a : AV} (H : K (.tup [.sl h.length .byte 0 (encQ l).length, .int .i64 0]) (h ++ [.rows .byte (encQ l)])) (b1 : brA [] h (.ro .stp l) a) (e1 : vldQ l = true) (s1 : litQ l) : Does Try.prog 20 [a] h K :=
  frame_new (ret' := .tup [.sl h.length .byte 0 (encQ l).length, .int .i64 0]) (b_qencT l s1 e1) (br_cons b1 br_nil) (.inr rfl) (fun _ => rfl) rfl H
abbrev i_qencT := Ctr.mk (i := 1) (g := 20) @c_qencT
attribute [instance] i_qencT
end Go.V

set_option maxRecDepth 100000
set_option maxHeartbeats 8000000
namespace Go.V
open Go.Proofs
theorem b_one (x : Stp) (n : Int) (hn : n ≤ 256) (hvk : vldS x n = true) : DoesK Try.prog 0 43 [.agg (stpL x)] [] (EndF 0 (.sl 0 .byte 0 (encS x).length) [.rows .byte (encS x)]) := by
  refine DoesK.close ?_
  obtain ⟨⟨-, ht, hkk⟩, hv⟩ := vldS_iff.1 hvk
  unfold plS cpS nxS at hkk
  have hk0 : 0 ≤ x.kind ∧ x.kind < 256 := by omega
  have w1 : IntKind.u8.wrap x.kind = ((x.kind.toNat : Nat) : Int) := by rw [wrap_u8]; omega
  have hb1 : be x.kind.toNat 1 = [UInt8.ofNat x.kind.toNat] := by
    show [UInt8.ofNat (x.kind.toNat / 256 ^ 0 % 256)] = _
    rw [show x.kind.toNat / 256 ^ 0 % 256 = x.kind.toNat from by omega]
  by_cases k1 : x.kind = 1
  · have d1 : decide (x.kind = 1) = true := decide_eq_true k1
    have d3 : decide (x.kind = 3) = false := decide_eq_false (by omega)
    have d5 : decide (x.kind = 5) = false := decide_eq_false (by omega)
    have hvv := hv k1
    have hcl := encC_len hvv
    have hcl2 : (encC ⟨x.c.src, x.c.num, x.c.srv, x.c.args, x.c.data⟩).length ≤ 600 := hcl
    have he4 := encI_le (encC x.c).length (by constructor <;> omega)
    have htk : (encI (encC x.c).length ++ encC x.c).take ((encI (encC x.c).length).length + (encC x.c).length) = encI (encC x.c).length ++ encC x.c := List.take_of_length_le (by rw [List.length_append]; exact Nat.le_refl _)
    have hE : encS x = [UInt8.ofNat x.kind.toNat] ++ (encI (encC x.c).length ++ encC x.c) := by rw [encS, if_pos k1, hb1]
    rw [hE]
    refine w_body (rs := [.tmp 2]) (tm := [.agg (stpL x), .any, .any, .any, .any, .any, .any, .any, .any, .any, .any, .any, .any, .any, .any, .any, .any, .any, .any, .any, .any, .any, .any, .any, .any, .any, .any, .any, .any, .any, .any, .any, .any, .any, .any, .any, .any, .any, .any, .any, .any, .any, .any, .any, .any, .any, .any, .any, .any, .any, .any, .any, .any, .any, .any, .any, .any, .any]) fn_43 rfl rfl rfl rfl fun R hR => ?_
    clear hkk ht hv hvk
    (have zx1 := @w1; have zx2 := @d1; have zx3 := @d3; have zx4 := @d5; have zx5 := @hvv; have zx6 := @htk; all_goals (try ((first | (with_reducible refine wp_id ?_) | (with_reducible refine does_id ?_) | (with_reducible refine ops_id ?_)); refine walk ?_; (repeat' (first | exact trivial | with_reducible refine And.intro ?_ ?_)); all_goals (repeat (first | (with_reducible refine ImpB.mk fun hb => ?_) | (with_reducible refine ImpK.mk fun hK => ?_) | (with_reducible refine ImpF.mk fun hF => ?_) | (with_reducible refine ImpQ.mk fun hp => ?_) | (with_reducible refine AllE.mk fun p => ?_) | (with_reducible refine AllR.mk fun rest => ?_) | (with_reducible refine AllK.mk fun K => ?_))))); repeat' (with_reducible refine And.intro ?_ ?_))
    all_goals first | (with_reducible exact Nat.le_refl _) | (show _ ≤ (_ : Nat); omega) | (show _ < (_ : Int); omega) | (show _ ≤ (_ : Int); omega) | (show (_ : Nat) = _; omega) | skip
    (focus (refine ⟨_, _, Gh.refl, [4], rfl, ?_⟩; (refine ⟨?_, ?_, ?_⟩ <;> simp only [go_sem, List.range, List.range.loop, List.nodup_cons, List.nodup_nil, List.mem_cons, List.not_mem_nil, or_false, or_self, decide_true, decide_false, Int.reduceToNat, Nat.min_eq_left, Nat.min_eq_right, Int.reducePow, Nat.reducePow, Int.reduceLE, Int.reduceLT, Int.reduceMul, Int.reduceAdd, Int.reduceSub, Int.reduceNeg, Bool.not_true, Bool.not_false, Bool.not_not, ↓reduceIte, Nat.reduceAdd, Nat.reduceSub, Nat.reduceMul, Nat.reduceEqDiff, reduceCtorEq, Nat.reduceLT, Nat.reduceLeDiff, Nat.reduceGT]); (try any_goals (refine ⟨?_, ?_⟩)); (try any_goals (with_reducible rfl))))
    all_goals (repeat' (first | (refine And.intro ?_ ?_) | (with_reducible rfl) | (simp only [List.append_assoc, List.cons_append, List.nil_append]; done) | (simp only [List.length_append, List.length_cons, List.length_nil]; omega) | omega))
  have d1 : decide (x.kind = 1) = false := decide_eq_false k1
  by_cases k2 : x.kind = 2
  · have d2 : decide (x.kind = 2) = true := decide_eq_true k2
    have d3 : decide (x.kind = 3) = false := decide_eq_false (by omega)
    have d5 : decide (x.kind = 5) = false := decide_eq_false (by omega)
    have hI2 : I64 x.ticks := by constructor <;> omega
    have he4 := encI_le _ hI2
    have hE : encS x = [UInt8.ofNat x.kind.toNat] ++ encI x.ticks := by rw [encS, if_neg k1, if_pos k2, hb1]
    rw [hE]
    refine w_body (rs := [.tmp 2]) (tm := [.agg (stpL x), .any, .any, .any, .any, .any, .any, .any, .any, .any, .any, .any, .any, .any, .any, .any, .any, .any, .any, .any, .any, .any, .any, .any, .any, .any, .any, .any, .any, .any, .any, .any, .any, .any, .any, .any, .any, .any, .any, .any, .any, .any, .any, .any, .any, .any, .any, .any, .any, .any, .any, .any, .any, .any, .any, .any, .any, .any]) fn_43 rfl rfl rfl rfl fun R hR => ?_
    clear hkk ht hv hvk
    (have zx1 := @w1; have zx2 := @d1; have zx3 := @d2; have zx4 := @d3; have zx5 := @d5; all_goals (try ((first | (with_reducible refine wp_id ?_) | (with_reducible refine does_id ?_) | (with_reducible refine ops_id ?_)); refine walk ?_; (repeat' (first | exact trivial | with_reducible refine And.intro ?_ ?_)); all_goals (repeat (first | (with_reducible refine ImpB.mk fun hb => ?_) | (with_reducible refine ImpK.mk fun hK => ?_) | (with_reducible refine ImpF.mk fun hF => ?_) | (with_reducible refine ImpQ.mk fun hp => ?_) | (with_reducible refine AllE.mk fun p => ?_) | (with_reducible refine AllR.mk fun rest => ?_) | (with_reducible refine AllK.mk fun K => ?_))))); repeat' (with_reducible refine And.intro ?_ ?_))
    all_goals first | (with_reducible exact Nat.le_refl _) | (show _ ≤ (_ : Nat); omega) | (show _ < (_ : Int); omega) | (show _ ≤ (_ : Int); omega) | (show (_ : Nat) = _; omega) | skip
    (focus (refine ⟨_, _, Gh.refl, [3], rfl, ?_⟩; (refine ⟨?_, ?_, ?_⟩ <;> simp only [go_sem, List.range, List.range.loop, List.nodup_cons, List.nodup_nil, List.mem_cons, List.not_mem_nil, or_false, or_self, decide_true, decide_false, Int.reduceToNat, Nat.min_eq_left, Nat.min_eq_right, Int.reducePow, Nat.reducePow, Int.reduceLE, Int.reduceLT, Int.reduceMul, Int.reduceAdd, Int.reduceSub, Int.reduceNeg, Bool.not_true, Bool.not_false, Bool.not_not, ↓reduceIte, Nat.reduceAdd, Nat.reduceSub, Nat.reduceMul, Nat.reduceEqDiff, reduceCtorEq, Nat.reduceLT, Nat.reduceLeDiff, Nat.reduceGT]); (try any_goals (refine ⟨?_, ?_⟩)); (try any_goals (with_reducible rfl))))
    all_goals (repeat' (first | (refine And.intro ?_ ?_) | (with_reducible rfl) | (simp only [List.append_assoc, List.cons_append, List.nil_append]; done) | (simp only [List.length_append, List.length_cons, List.length_nil]; omega) | omega))
  have d2 : decide (x.kind = 2) = false := decide_eq_false k2
  have hb2 : 0 ≤ x.op → x.op < 256 → be x.op.toNat 1 = [UInt8.ofNat x.op.toNat] := fun _ _ => by
    show [UInt8.ofNat (x.op.toNat / 256 ^ 0 % 256)] = _
    rw [show x.op.toNat / 256 ^ 0 % 256 = x.op.toNat from by omega]
  by_cases k3 : x.kind = 3
  · have d3 : decide (x.kind = 3) = true := decide_eq_true k3
    have hI1 : I64 x.param := by constructor <;> omega
    have hI2 : I64 x.value := by constructor <;> omega
    have hI3 : I64 x.next := by constructor <;> omega
    have hl1 := encI_le _ hI1
    have hl2 := encI_le _ hI2
    have hl3 := encI_le _ hI3
    have hop : 0 ≤ x.op ∧ x.op < 256 := by omega
    have w2 : IntKind.u8.wrap x.op = ((x.op.toNat : Nat) : Int) := by rw [wrap_u8]; omega
    have hE : encS x = [UInt8.ofNat x.kind.toNat] ++ (encI x.param ++ [UInt8.ofNat x.op.toNat] ++ encI x.value ++ encI x.next) := by rw [encS, if_neg k1, if_neg k2, if_pos k3, hb1, hb2 (by omega) (by omega)]
    rw [hE]
    refine w_body (rs := [.tmp 2]) (tm := [.agg (stpL x), .any, .any, .any, .any, .any, .any, .any, .any, .any, .any, .any, .any, .any, .any, .any, .any, .any, .any, .any, .any, .any, .any, .any, .any, .any, .any, .any, .any, .any, .any, .any, .any, .any, .any, .any, .any, .any, .any, .any, .any, .any, .any, .any, .any, .any, .any, .any, .any, .any, .any, .any, .any, .any, .any, .any, .any, .any]) fn_43 rfl rfl rfl rfl fun R hR => ?_
    clear hkk ht hv hvk
    (have zx1 := @w1; have zx2 := @d1; have zx3 := @d2; have zx4 := @d3; have zx5 := @w2; all_goals (try ((first | (with_reducible refine wp_id ?_) | (with_reducible refine does_id ?_) | (with_reducible refine ops_id ?_)); refine walk ?_; (repeat' (first | exact trivial | with_reducible refine And.intro ?_ ?_)); all_goals (repeat (first | (with_reducible refine ImpB.mk fun hb => ?_) | (with_reducible refine ImpK.mk fun hK => ?_) | (with_reducible refine ImpF.mk fun hF => ?_) | (with_reducible refine ImpQ.mk fun hp => ?_) | (with_reducible refine AllE.mk fun p => ?_) | (with_reducible refine AllR.mk fun rest => ?_) | (with_reducible refine AllK.mk fun K => ?_))))); repeat' (with_reducible refine And.intro ?_ ?_))
    all_goals first | (with_reducible exact Nat.le_refl _) | (show _ ≤ (_ : Nat); omega) | (show _ < (_ : Int); omega) | (show _ ≤ (_ : Int); omega) | (show (_ : Nat) = _; omega) | skip
    (focus (refine ⟨_, _, Gh.refl, [9], rfl, ?_⟩; (refine ⟨?_, ?_, ?_⟩ <;> simp only [go_sem, List.range, List.range.loop, List.nodup_cons, List.nodup_nil, List.mem_cons, List.not_mem_nil, or_false, or_self, decide_true, decide_false, Int.reduceToNat, Nat.min_eq_left, Nat.min_eq_right, Int.reducePow, Nat.reducePow, Int.reduceLE, Int.reduceLT, Int.reduceMul, Int.reduceAdd, Int.reduceSub, Int.reduceNeg, Bool.not_true, Bool.not_false, Bool.not_not, ↓reduceIte, Nat.reduceAdd, Nat.reduceSub, Nat.reduceMul, Nat.reduceEqDiff, reduceCtorEq, Nat.reduceLT, Nat.reduceLeDiff, Nat.reduceGT]); (try any_goals (refine ⟨?_, ?_⟩)); (try any_goals (with_reducible rfl))))
    all_goals (repeat' (first | (refine And.intro ?_ ?_) | (with_reducible rfl) | (simp only [List.append_assoc, List.cons_append, List.nil_append]; done) | (simp only [List.length_append, List.length_cons, List.length_nil]; omega) | omega))
  have d3 : decide (x.kind = 3) = false := decide_eq_false k3
  by_cases k4 : x.kind = 4
  · have d4 : decide (x.kind = 4) = true := decide_eq_true k4
    have d5 : decide (x.kind = 5) = false := decide_eq_false (by omega)
    have hI1 : I64 x.param := by constructor <;> omega
    have hI2 : I64 x.value := by constructor <;> omega
    have hl1 := encI_le _ hI1
    have hl2 := encI_le _ hI2
    have hop : 0 ≤ x.op ∧ x.op < 256 := by omega
    have w2 : IntKind.u8.wrap x.op = ((x.op.toNat : Nat) : Int) := by rw [wrap_u8]; omega
    have hE : encS x = [UInt8.ofNat x.kind.toNat] ++ (encI x.param ++ [UInt8.ofNat x.op.toNat] ++ encI x.value) := by rw [encS, if_neg k1, if_neg k2, if_neg k3, if_pos k4, hb1, hb2 (by omega) (by omega)]
    rw [hE]
    refine w_body (rs := [.tmp 2]) (tm := [.agg (stpL x), .any, .any, .any, .any, .any, .any, .any, .any, .any, .any, .any, .any, .any, .any, .any, .any, .any, .any, .any, .any, .any, .any, .any, .any, .any, .any, .any, .any, .any, .any, .any, .any, .any, .any, .any, .any, .any, .any, .any, .any, .any, .any, .any, .any, .any, .any, .any, .any, .any, .any, .any, .any, .any, .any, .any, .any, .any]) fn_43 rfl rfl rfl rfl fun R hR => ?_
    clear hkk ht hv hvk
    (have zx1 := @w1; have zx2 := @d1; have zx3 := @d2; have zx4 := @d3; have zx5 := @d4; have zx6 := @d5; have zx7 := @w2; all_goals (try ((first | (with_reducible refine wp_id ?_) | (with_reducible refine does_id ?_) | (with_reducible refine ops_id ?_)); refine walk ?_; (repeat' (first | exact trivial | with_reducible refine And.intro ?_ ?_)); all_goals (repeat (first | (with_reducible refine ImpB.mk fun hb => ?_) | (with_reducible refine ImpK.mk fun hK => ?_) | (with_reducible refine ImpF.mk fun hF => ?_) | (with_reducible refine ImpQ.mk fun hp => ?_) | (with_reducible refine AllE.mk fun p => ?_) | (with_reducible refine AllR.mk fun rest => ?_) | (with_reducible refine AllK.mk fun K => ?_))))); repeat' (with_reducible refine And.intro ?_ ?_))
    all_goals first | (with_reducible exact Nat.le_refl _) | (show _ ≤ (_ : Nat); omega) | (show _ < (_ : Int); omega) | (show _ ≤ (_ : Int); omega) | (show (_ : Nat) = _; omega) | skip
    (focus (refine ⟨_, _, Gh.refl, [7], rfl, ?_⟩; (refine ⟨?_, ?_, ?_⟩ <;> simp only [go_sem, List.range, List.range.loop, List.nodup_cons, List.nodup_nil, List.mem_cons, List.not_mem_nil, or_false, or_self, decide_true, decide_false, Int.reduceToNat, Nat.min_eq_left, Nat.min_eq_right, Int.reducePow, Nat.reducePow, Int.reduceLE, Int.reduceLT, Int.reduceMul, Int.reduceAdd, Int.reduceSub, Int.reduceNeg, Bool.not_true, Bool.not_false, Bool.not_not, ↓reduceIte, Nat.reduceAdd, Nat.reduceSub, Nat.reduceMul, Nat.reduceEqDiff, reduceCtorEq, Nat.reduceLT, Nat.reduceLeDiff, Nat.reduceGT]); (try any_goals (refine ⟨?_, ?_⟩)); (try any_goals (with_reducible rfl))))
    all_goals (repeat' (first | (refine And.intro ?_ ?_) | (with_reducible rfl) | (simp only [List.append_assoc, List.cons_append, List.nil_append]; done) | (simp only [List.length_append, List.length_cons, List.length_nil]; omega) | omega))
  have d4 : decide (x.kind = 4) = false := decide_eq_false k4
  by_cases k5 : x.kind = 5
  · have d5 : decide (x.kind = 5) = true := decide_eq_true k5
    have hI3 : I64 x.next := by constructor <;> omega
    have hl3 := encI_le _ hI3
    have hE : encS x = [UInt8.ofNat x.kind.toNat] ++ encI x.next := by rw [encS, if_neg k1, if_neg k2, if_neg k3, if_neg k4, if_pos k5, hb1]
    rw [hE]
    refine w_body (rs := [.tmp 2]) (tm := [.agg (stpL x), .any, .any, .any, .any, .any, .any, .any, .any, .any, .any, .any, .any, .any, .any, .any, .any, .any, .any, .any, .any, .any, .any, .any, .any, .any, .any, .any, .any, .any, .any, .any, .any, .any, .any, .any, .any, .any, .any, .any, .any, .any, .any, .any, .any, .any, .any, .any, .any, .any, .any, .any, .any, .any, .any, .any, .any, .any]) fn_43 rfl rfl rfl rfl fun R hR => ?_
    clear hkk ht hv hvk
    (have zx1 := @w1; have zx2 := @d1; have zx3 := @d2; have zx4 := @d3; have zx5 := @d4; have zx6 := @d5; all_goals (try ((first | (with_reducible refine wp_id ?_) | (with_reducible refine does_id ?_) | (with_reducible refine ops_id ?_)); refine walk ?_; (repeat' (first | exact trivial | with_reducible refine And.intro ?_ ?_)); all_goals (repeat (first | (with_reducible refine ImpB.mk fun hb => ?_) | (with_reducible refine ImpK.mk fun hK => ?_) | (with_reducible refine ImpF.mk fun hF => ?_) | (with_reducible refine ImpQ.mk fun hp => ?_) | (with_reducible refine AllE.mk fun p => ?_) | (with_reducible refine AllR.mk fun rest => ?_) | (with_reducible refine AllK.mk fun K => ?_))))); repeat' (with_reducible refine And.intro ?_ ?_))
    all_goals first | (with_reducible exact Nat.le_refl _) | (show _ ≤ (_ : Nat); omega) | (show _ < (_ : Int); omega) | (show _ ≤ (_ : Int); omega) | (show (_ : Nat) = _; omega) | skip
    (focus (refine ⟨_, _, Gh.refl, [3], rfl, ?_⟩; (refine ⟨?_, ?_, ?_⟩ <;> simp only [go_sem, List.range, List.range.loop, List.nodup_cons, List.nodup_nil, List.mem_cons, List.not_mem_nil, or_false, or_self, decide_true, decide_false, Int.reduceToNat, Nat.min_eq_left, Nat.min_eq_right, Int.reducePow, Nat.reducePow, Int.reduceLE, Int.reduceLT, Int.reduceMul, Int.reduceAdd, Int.reduceSub, Int.reduceNeg, Bool.not_true, Bool.not_false, Bool.not_not, ↓reduceIte, Nat.reduceAdd, Nat.reduceSub, Nat.reduceMul, Nat.reduceEqDiff, reduceCtorEq, Nat.reduceLT, Nat.reduceLeDiff, Nat.reduceGT]); (try any_goals (refine ⟨?_, ?_⟩)); (try any_goals (with_reducible rfl))))
    all_goals (repeat' (first | (refine And.intro ?_ ?_) | (with_reducible rfl) | (simp only [List.append_assoc, List.cons_append, List.nil_append]; done) | (simp only [List.length_append, List.length_cons, List.length_nil]; omega) | omega))
  · have d5 : decide (x.kind = 5) = false := decide_eq_false k5
    have hE : encS x = [UInt8.ofNat x.kind.toNat] := by rw [encS, if_neg k1, if_neg k2, if_neg k3, if_neg k4, if_neg k5, hb1, List.append_nil]
    rw [hE]
    refine w_body (rs := [.tmp 2]) (tm := [.agg (stpL x), .any, .any, .any, .any, .any, .any, .any, .any, .any, .any, .any, .any, .any, .any, .any, .any, .any, .any, .any, .any, .any, .any, .any, .any, .any, .any, .any, .any, .any, .any, .any, .any, .any, .any, .any, .any, .any, .any, .any, .any, .any, .any, .any, .any, .any, .any, .any, .any, .any, .any, .any, .any, .any, .any, .any, .any, .any]) fn_43 rfl rfl rfl rfl fun R hR => ?_
    clear hkk ht hv hvk
    (have zx1 := @w1; have zx2 := @d1; have zx3 := @d2; have zx4 := @d3; have zx5 := @d4; have zx6 := @d5; all_goals (try ((first | (with_reducible refine wp_id ?_) | (with_reducible refine does_id ?_) | (with_reducible refine ops_id ?_)); refine walk ?_; (repeat' (first | exact trivial | with_reducible refine And.intro ?_ ?_)); all_goals (repeat (first | (with_reducible refine ImpB.mk fun hb => ?_) | (with_reducible refine ImpK.mk fun hK => ?_) | (with_reducible refine ImpF.mk fun hF => ?_) | (with_reducible refine ImpQ.mk fun hp => ?_) | (with_reducible refine AllE.mk fun p => ?_) | (with_reducible refine AllR.mk fun rest => ?_) | (with_reducible refine AllK.mk fun K => ?_))))); repeat' (with_reducible refine And.intro ?_ ?_))
    all_goals first | (with_reducible exact Nat.le_refl _) | (show _ ≤ (_ : Nat); omega) | (show _ < (_ : Int); omega) | (show _ ≤ (_ : Int); omega) | (show (_ : Nat) = _; omega) | skip
    (focus (refine ⟨_, _, Gh.refl, [1], rfl, ?_⟩; (refine ⟨?_, ?_, ?_⟩ <;> simp only [go_sem, List.range, List.range.loop, List.nodup_cons, List.nodup_nil, List.mem_cons, List.not_mem_nil, or_false, or_self, decide_true, decide_false, Int.reduceToNat, Nat.min_eq_left, Nat.min_eq_right, Int.reducePow, Nat.reducePow, Int.reduceLE, Int.reduceLT, Int.reduceMul, Int.reduceAdd, Int.reduceSub, Int.reduceNeg, Bool.not_true, Bool.not_false, Bool.not_not, ↓reduceIte, Nat.reduceAdd, Nat.reduceSub, Nat.reduceMul, Nat.reduceEqDiff, reduceCtorEq, Nat.reduceLT, Nat.reduceLeDiff, Nat.reduceGT]); (try any_goals (refine ⟨?_, ?_⟩)); (try any_goals (with_reducible rfl))))
    all_goals (repeat' (first | (refine And.intro ?_ ?_) | (with_reducible rfl) | (simp only [List.append_assoc, List.cons_append, List.nil_append]; done) | (simp only [List.length_append, List.length_cons, List.length_nil]; omega) | omega))
theorem c_one {h : List Ch} {K : KT} {x : Stp} {n : Int} (H : K (.sl h.length .byte 0 (encS x).length) (h ++ [.rows .byte (encS x)])) (e1 : vldS x n = true) (s1 : n ≤ 256) : Does Try.prog 43 [.agg [.int .i64 x.kind, .int .i64 x.param, .int .i64 x.op, .int .i64 x.value, .int .i64 x.next, .int .i64 x.ticks, .int .i64 x.c.src, .int .i64 x.c.num, .int .i64 x.c.srv, .ro .int x.c.args, .ro .byte x.c.data]] h K :=
  frame_new (ret' := .sl h.length .byte 0 (encS x).length) (b_one x n s1 e1) (br_cons (br_stp x) br_nil) (.inr rfl) (fun _ => rfl) rfl H
abbrev i_one := Ctr.mk (i := 0) (g := 43) @c_one
attribute [instance] i_one
theorem b_rencF (l : List Stp) (hl : l.length ≤ 9223372036854775807) (ha : litQ l) (hc : vldQ l = false) : DoesK Try.prog 0 21 [.ro .stp l] [] (EndF 0 (.tup [.lit (.slice none 0 0), .int .i64 1]) []) := by
  refine DoesK.close ?_
  refine w_body (rs := [.tmp 2, .tmp 3]) (tm := [.ro .stp l, .any, .any, .any, .any, .any, .any, .any, .any, .any, .any, .any, .any, .any, .any, .any, .any, .any, .any, .any, .any, .any, .any, .any, .any, .any]) fn_21 rfl rfl rfl rfl fun R hR => ?_
  (have zx1 := @hc; all_goals (try ((first | (with_reducible refine wp_id ?_) | (with_reducible refine does_id ?_) | (with_reducible refine ops_id ?_)); refine walk ?_; (repeat' (first | exact trivial | with_reducible refine And.intro ?_ ?_)); all_goals (repeat (first | (with_reducible refine ImpB.mk fun hb => ?_) | (with_reducible refine ImpK.mk fun hK => ?_) | (with_reducible refine ImpF.mk fun hF => ?_) | (with_reducible refine ImpQ.mk fun hp => ?_) | (with_reducible refine AllE.mk fun p => ?_) | (with_reducible refine AllR.mk fun rest => ?_) | (with_reducible refine AllK.mk fun K => ?_))))); repeat' (with_reducible refine And.intro ?_ ?_))
  (focus (refine ⟨_, _, Gh.refl, [], rfl, ?_⟩; (refine ⟨?_, ?_, ?_⟩ <;> simp only [go_sem, List.range, List.range.loop, List.nodup_cons, List.nodup_nil, List.mem_cons, List.not_mem_nil, or_false, or_self, decide_true, decide_false, Int.reduceToNat, Nat.min_eq_left, Nat.min_eq_right, Int.reducePow, Nat.reducePow, Int.reduceLE, Int.reduceLT, Int.reduceMul, Int.reduceAdd, Int.reduceSub, Int.reduceNeg, Bool.not_true, Bool.not_false, Bool.not_not, ↓reduceIte, Nat.reduceAdd, Nat.reduceSub, Nat.reduceMul, Nat.reduceEqDiff, reduceCtorEq, Nat.reduceLT, Nat.reduceLeDiff, Nat.reduceGT]); (try any_goals (refine ⟨?_, ?_⟩)); (try any_goals (with_reducible rfl))))
theorem b_rencT (l : List Stp) (ha : litQ l) (hc : vldQ l = true) : DoesK Try.prog 0 21 [.ro .stp l] [] (EndF 0 (.tup [.sl 0 .byte 0 (encQ l).length, .int .i64 0]) [.rows .byte (encQ l)]) := by
  refine DoesK.close ?_
  obtain ⟨⟨hl1, hl2⟩, hall⟩ := vldQ_iff.1 hc
  have hl : l.length ≤ 9223372036854775807 := by omega
  have hI : I64 (l.length : Int) := by constructor <;> omega
  have h9 := encI_le l.length hI
  have hlen : ∀ k, ((l.take k).flatMap encS).length ≤ 180000 := fun k => by
    have h4 := encSs_len (n := (l.length : Int)) (by omega) (l := l.take k) fun x hx => hall x (List.mem_of_mem_take hx)
    have h5 : (l.take k).length ≤ l.length := by rw [List.length_take]; omega
    omega
  refine w_body (rs := [.tmp 2, .tmp 3]) (tm := [.ro .stp l, .any, .any, .any, .any, .any, .any, .any, .any, .any, .any, .any, .any, .any, .any, .any, .any, .any, .any, .any, .any, .any, .any, .any, .any, .any]) fn_21 rfl rfl rfl rfl fun R hR => ?_
  (have zx1 := @hc; all_goals (try ((first | (with_reducible refine wp_id ?_) | (with_reducible refine does_id ?_) | (with_reducible refine ops_id ?_)); refine walk ?_; (repeat' (first | exact trivial | with_reducible refine And.intro ?_ ?_)); all_goals (repeat (first | (with_reducible refine ImpB.mk fun hb => ?_) | (with_reducible refine ImpK.mk fun hK => ?_) | (with_reducible refine ImpF.mk fun hF => ?_) | (with_reducible refine ImpQ.mk fun hp => ?_) | (with_reducible refine AllE.mk fun p => ?_) | (with_reducible refine AllR.mk fun rest => ?_) | (with_reducible refine AllK.mk fun K => ?_))))); repeat' (with_reducible refine And.intro ?_ ?_))
  any_goals ((try (refine w_seq fun K hK => ?_)); (try (refine w_block ?_)); refine w_loop (A := Nat) (fun k => k ≤ l.length) (fun k => l.length - k) (fun k => [(5, .int .i64 k), (11, .any), (4, .sl 0 .byte 0 (encI l.length ++ (l.take k).flatMap encS).length)]) (fun k => [(0, .rows .byte (encI l.length ++ (l.take k).flatMap encS))]) (0) (ws := ?ws1) (tk := ?tk1) ?hw1 ?ht1 ?hi ?h0 ?LH1; (case hw1 => simp only [go_sem, decide_true, decide_false, Int.reduceToNat, Nat.min_eq_left, Nat.min_eq_right, Int.reducePow, Nat.reducePow, Int.reduceLE, Int.reduceLT, Int.reduceMul, Int.reduceAdd, Int.reduceSub, Int.reduceNeg, Bool.not_true, Bool.not_false, Bool.not_not, ↓reduceIte, Nat.reduceAdd, Nat.reduceSub, Nat.reduceMul, Nat.reduceEqDiff, reduceCtorEq, Nat.reduceLT, Nat.reduceLeDiff, Nat.reduceGT]; exact rfl); (case ht1 => simp only [go_sem, decide_true, decide_false, Int.reduceToNat, Nat.min_eq_left, Nat.min_eq_right, Int.reducePow, Nat.reducePow, Int.reduceLE, Int.reduceLT, Int.reduceMul, Int.reduceAdd, Int.reduceSub, Int.reduceNeg, Bool.not_true, Bool.not_false, Bool.not_not, ↓reduceIte, Nat.reduceAdd, Nat.reduceSub, Nat.reduceMul, Nat.reduceEqDiff, reduceCtorEq, Nat.reduceLT, Nat.reduceLeDiff, Nat.reduceGT]; exact rfl); (case' LH1 => rintro k E t hx hE ht; simp only [go_sem] at ht; subst ht; simp only [go_sem]; try dsimp only at hx))
  case hi => exact Nat.zero_le _
  case h0 => (focus (refine ⟨_, _, Gh.refl, [0], rfl, ?_⟩; (refine ⟨?_, ?_, ?_⟩ <;> simp only [go_sem, List.range, List.range.loop, List.nodup_cons, List.nodup_nil, List.mem_cons, List.not_mem_nil, or_false, or_self, decide_true, decide_false, Int.reduceToNat, Nat.min_eq_left, Nat.min_eq_right, Int.reducePow, Nat.reducePow, Int.reduceLE, Int.reduceLT, Int.reduceMul, Int.reduceAdd, Int.reduceSub, Int.reduceNeg, Bool.not_true, Bool.not_false, Bool.not_not, ↓reduceIte, Nat.reduceAdd, Nat.reduceSub, Nat.reduceMul, Nat.reduceEqDiff, reduceCtorEq, Nat.reduceLT, Nat.reduceLeDiff, Nat.reduceGT]); (try any_goals (refine ⟨?_, ?_⟩)); (try any_goals (with_reducible rfl)))); (all_goals (repeat' (first | (refine And.intro ?_ ?_) | rfl | (simp; done))))
  case LH1 =>
    have hk0 : k ≤ l.length := hx
    have hlk := hlen k
    have hw : IntKind.i64.wrap ((k : Int) + 1) = ((k + 1 : Nat) : Int) := by rw [wrap_i64 _ (by omega) (by omega)]; omega
    by_cases hk : k < l.length
    · have hkd : decide ((k : Int) < l.length) = true := decide_eq_true (by omega)
      have hvk := vldQ_at hc hk
      have htk : encI l.length ++ (l.take (k + 1)).flatMap encS = (encI l.length ++ (l.take k).flatMap encS) ++ encS (l.getD k Stp.zero) := by rw [stp_take hk, List.flatMap_append, List.flatMap_singleton, List.append_assoc]
      obtain ⟨P, hP⟩ : ∃ P, encI l.length ++ (l.take k).flatMap encS = P := ⟨_, rfl⟩
      have hPq : (encI l.length).length + ((l.take k).flatMap encS).length = P.length := by rw [← hP, List.length_append]
      have hPl : P.length ≤ 180010 := by rw [← hP, List.length_append]; omega
      rw [hP] at htk ⊢
      obtain ⟨x, hxe⟩ : ∃ x, l.getD k Stp.zero = x := ⟨_, rfl⟩
      rw [hxe] at hvk htk
      have hn2 : (l.length : Int) ≤ 256 := by omega
      have hel := encS_len hn2 hvk
      (have zx1 := @hkd; have zx2 := @hxe; have zx3 := @hw; all_goals (try ((first | (with_reducible refine wp_id ?_) | (with_reducible refine does_id ?_) | (with_reducible refine ops_id ?_)); refine walk ?_; (repeat' (first | exact trivial | with_reducible refine And.intro ?_ ?_)); all_goals (repeat (first | (with_reducible refine ImpB.mk fun hb => ?_) | (with_reducible refine ImpK.mk fun hK => ?_) | (with_reducible refine ImpF.mk fun hF => ?_) | (with_reducible refine ImpQ.mk fun hp => ?_) | (with_reducible refine AllE.mk fun p => ?_) | (with_reducible refine AllR.mk fun rest => ?_) | (with_reducible refine AllK.mk fun K => ?_))))); repeat' (with_reducible refine And.intro ?_ ?_))
      all_goals first | (with_reducible exact Nat.le_refl _) | (show _ ≤ (_ : Nat); omega) | (show _ < (_ : Int); omega) | (show _ ≤ (_ : Int); omega) | (show (_ : Nat) = _; omega) | skip
      refine ⟨k + 1, ⟨by first | omega | (dsimp only; omega), by first | omega | (dsimp only; omega)⟩, ?_⟩
      dsimp only
      rw [htk]
      (focus (refine ⟨_, _, Gh.refl, [2], rfl, ?_⟩; (refine ⟨?_, ?_, ?_⟩ <;> simp only [go_sem, List.range, List.range.loop, List.nodup_cons, List.nodup_nil, List.mem_cons, List.not_mem_nil, or_false, or_self, decide_true, decide_false, Int.reduceToNat, Nat.min_eq_left, Nat.min_eq_right, Int.reducePow, Nat.reducePow, Int.reduceLE, Int.reduceLT, Int.reduceMul, Int.reduceAdd, Int.reduceSub, Int.reduceNeg, Bool.not_true, Bool.not_false, Bool.not_not, ↓reduceIte, Nat.reduceAdd, Nat.reduceSub, Nat.reduceMul, Nat.reduceEqDiff, reduceCtorEq, Nat.reduceLT, Nat.reduceLeDiff, Nat.reduceGT]); (try any_goals (refine ⟨?_, ?_⟩)); (try any_goals (with_reducible rfl))))
      all_goals (repeat' (first | (refine And.intro ?_ ?_) | (with_reducible rfl) | (simp only [List.length_append]; done)))
    · have hkd : decide ((k : Int) < l.length) = false := decide_eq_false (by omega)
      have hk2 : l.take k = l := List.take_of_length_le (by omega)
      rw [hk2] at hlk ⊢
      have hQ : encI l.length ++ l.flatMap encS = encQ l := rfl
      have hQl : (encI l.length).length + (l.flatMap encS).length = (encQ l).length := by rw [← hQ, List.length_append]
      rw [hQ]
      (have zx1 := @hkd; all_goals (try ((first | (with_reducible refine wp_id ?_) | (with_reducible refine does_id ?_) | (with_reducible refine ops_id ?_)); refine walk ?_; (repeat' (first | exact trivial | with_reducible refine And.intro ?_ ?_)); all_goals (repeat (first | (with_reducible refine ImpB.mk fun hb => ?_) | (with_reducible refine ImpK.mk fun hK => ?_) | (with_reducible refine ImpF.mk fun hF => ?_) | (with_reducible refine ImpQ.mk fun hp => ?_) | (with_reducible refine AllE.mk fun p => ?_) | (with_reducible refine AllR.mk fun rest => ?_) | (with_reducible refine AllK.mk fun K => ?_))))); repeat' (with_reducible refine And.intro ?_ ?_))
      all_goals first | (with_reducible exact Nat.le_refl _) | (show _ ≤ (_ : Nat); omega) | (show _ < (_ : Int); omega) | (show _ ≤ (_ : Int); omega) | (show (_ : Nat) = _; omega) | skip
      (focus (refine ⟨_, _, Gh.refl, [0], rfl, ?_⟩; (refine ⟨?_, ?_, ?_⟩ <;> simp only [go_sem, List.range, List.range.loop, List.nodup_cons, List.nodup_nil, List.mem_cons, List.not_mem_nil, or_false, or_self, decide_true, decide_false, Int.reduceToNat, Nat.min_eq_left, Nat.min_eq_right, Int.reducePow, Nat.reducePow, Int.reduceLE, Int.reduceLT, Int.reduceMul, Int.reduceAdd, Int.reduceSub, Int.reduceNeg, Bool.not_true, Bool.not_false, Bool.not_not, ↓reduceIte, Nat.reduceAdd, Nat.reduceSub, Nat.reduceMul, Nat.reduceEqDiff, reduceCtorEq, Nat.reduceLT, Nat.reduceLeDiff, Nat.reduceGT]); (try any_goals (refine ⟨?_, ?_⟩)); (try any_goals (with_reducible rfl))))
      all_goals (repeat' (first | (refine And.intro ?_ ?_) | (with_reducible rfl) | (simp only [List.append_assoc, List.cons_append, List.nil_append]; done) | (simp only [List.length_append, List.length_cons, List.length_nil]; omega) | omega))
theorem c_rencF {h : List Ch} {K : KT} {l : List Stp} {a : AV} (H : K (.tup [.lit (.slice none 0 0), .int .i64 1]) h) (b1 : brA [] h (.ro .stp l) a) (e1 : vldQ l = false) (s1 : l.length ≤ 9223372036854775807) (s2 : litQ l) : Does Try.prog 21 [a] h K :=
  frame_pure (b_rencF l s1 s2 e1) (br_cons b1 br_nil) (.inr rfl) (fun _ => rfl) H
abbrev i_rencF := Ctr.mk (i := 0) (g := 21) @c_rencF
attribute [instance] i_rencF
theorem c_rencT {h : List Ch} {K : KT} {l : List Stp} {a : AV} (H : K (.tup [.sl h.length .byte 0 (encQ l).length, .int .i64 0]) (h ++ [.rows .byte (encQ l)])) (b1 : brA [] h (.ro .stp l) a) (e1 : vldQ l = true) (s1 : litQ l) : Does Try.prog 21 [a] h K :=
  frame_new (ret' := .tup [.sl h.length .byte 0 (encQ l).length, .int .i64 0]) (b_rencT l s1 e1) (br_cons b1 br_nil) (.inr rfl) (fun _ => rfl) rfl H
abbrev i_rencT := Ctr.mk (i := 1) (g := 21) @c_rencT
attribute [instance] i_rencT
end Go.V
