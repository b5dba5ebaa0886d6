/-
  sequence: Encode.
  sequence: read, Decode.
  ref43: take, Decode.
  ints, small, Same, same.
  The pool of three parameters; ping.
  The engine, folded; what holds of the examples.
  Sequences that run never share a resource: plain.
-/
import Derived.Test.YtpnfoffggcfhfaaPart16
set_option linter.unusedVariables false
set_option linter.unusedSimpArgs false
set_option maxRecDepth 100000
set_option maxHeartbeats 8000000
namespace Go.V
open Go.Proofs
attribute [-go_sem] Wr
theorem encS_len {x : Stp} {n : Int} (hn : n ≤ 256) (h : vldS x n = true) : (encS x).length ≤ 700 := by
  obtain ⟨⟨-, ht, hk⟩, hv⟩ := vldS_iff.1 h
  unfold plS cpS nxS at hk
  unfold encS
  rw [List.length_append, be_len]
  split
  · rename_i k1
    have h1 := encC_len (hv k1)
    have h2 := encI_le (encC x.c).length (by constructor <;> omega)
    rw [List.length_append]; omega
  split
  · have h2 := encI_le x.ticks (by constructor <;> omega)
    omega
  split
  · have h1 := encI_le x.param (by constructor <;> omega)
    have h2 := encI_le x.value (by constructor <;> omega)
    have h3 := encI_le x.next (by constructor <;> omega)
    simp only [List.length_append, be_len]; omega
  split
  · have h1 := encI_le x.param (by constructor <;> omega)
    have h2 := encI_le x.value (by constructor <;> omega)
    simp only [List.length_append, be_len]; omega
  split
  · have h3 := encI_le x.next (by constructor <;> omega)
    omega
  · exact (by decide : 1 + ([] : List UInt8).length ≤ 700)
theorem encSs_len {n : Int} (hn : n ≤ 256) : ∀ {l : List Stp}, (∀ x ∈ l, vldS x n = true) → (l.flatMap encS).length ≤ 700 * l.length
  | [], _ => Nat.zero_le _
  | x :: l, h => by
    have h1 := encS_len hn (h x (List.mem_cons_self ..))
    have h2 := encSs_len hn (l := l) fun y hy => h y (List.mem_cons_of_mem _ hy)
    rw [List.flatMap_cons, List.length_append, List.length_cons]
    omega
theorem b_qencT (l : List Stp) (ha : litQ l) (hc : vldQ l = true) : DoesK Try.prog 0 20 [.ro .stp l] [] (EndF 0 (.tup [.sl 0 .byte 0 (encQ l).length, .int .i64 0]) [.rows .byte (encQ l)]) := by
  refine DoesK.close ?_
  obtain ⟨⟨hl1, hl2⟩, hall⟩ := vldQ_iff.1 hc
  have hl : l.length ≤ 9223372036854775807 := by omega
  have hI : I64 (l.length : Int) := by constructor <;> omega
  have h9 := encI_le l.length hI
  have hlen : ∀ k, ((l.take k).flatMap encS).length ≤ 180000 := fun k => by
    have h4 := encSs_len (n := (l.length : Int)) (by omega) (l := l.take k) fun x hx => hall x (List.mem_of_mem_take hx)
    have h5 : (l.take k).length ≤ l.length := by rw [List.length_take]; omega
    omega
  refine w_body (rs := [.tmp 2, .tmp 3]) (tm := [.ro .stp l, .any, .any, .any, .any, .any, .any, .any, .any, .any, .any, .any, .any, .any, .any, .any, .any, .any, .any, .any, .any, .any, .any, .any, .any, .any, .any, .any, .any, .any, .any, .any, .any, .any, .any, .any, .any, .any, .any, .any, .any, .any, .any, .any, .any, .any, .any, .any, .any, .any, .any, .any, .any, .any, .any, .any, .any, .any, .any, .any, .any, .any, .any, .any, .any, .any, .any, .any, .any, .any, .any, .any, .any, .any, .any, .any, .any, .any, .any, .any, .any, .any, .any, .any, .any, .any, .any, .any]) fn_20 rfl rfl rfl rfl fun R hR => ?_
  (have zx1 := @hc; all_goals (try ((first | (with_reducible refine wp_id ?_) | (with_reducible refine does_id ?_) | (with_reducible refine ops_id ?_)); refine walk ?_; (repeat' (first | exact trivial | with_reducible refine And.intro ?_ ?_)); all_goals (repeat (first | (with_reducible refine ImpB.mk fun hb => ?_) | (with_reducible refine ImpK.mk fun hK => ?_) | (with_reducible refine ImpF.mk fun hF => ?_) | (with_reducible refine ImpQ.mk fun hp => ?_) | (with_reducible refine AllE.mk fun p => ?_) | (with_reducible refine AllR.mk fun rest => ?_) | (with_reducible refine AllK.mk fun K => ?_))))); repeat' (with_reducible refine And.intro ?_ ?_))
  any_goals ((try (refine w_seq fun K hK => ?_)); (try (refine w_block ?_)); refine w_loop (A := Nat) (fun k => k ≤ l.length) (fun k => l.length - k) (fun k => [(19, .int .i64 k)]) (fun k => [(0, .pack (Wr (encI l.length ++ (l.take k).flatMap encS)))]) (0) (ws := ?ws1) (tk := ?tk1) ?hw1 ?ht1 ?hi ?h0 ?LH1; (case hw1 => simp only [go_sem, decide_true, decide_false, Int.reduceToNat, Nat.min_eq_left, Nat.min_eq_right, Int.reducePow, Nat.reducePow, Int.reduceLE, Int.reduceLT, Int.reduceMul, Int.reduceAdd, Int.reduceSub, Int.reduceNeg, Bool.not_true, Bool.not_false, Bool.not_not, ↓reduceIte, Nat.reduceAdd, Nat.reduceSub, Nat.reduceMul, Nat.reduceEqDiff, reduceCtorEq, Nat.reduceLT, Nat.reduceLeDiff, Nat.reduceGT]; exact rfl); (case ht1 => simp only [go_sem, decide_true, decide_false, Int.reduceToNat, Nat.min_eq_left, Nat.min_eq_right, Int.reducePow, Nat.reducePow, Int.reduceLE, Int.reduceLT, Int.reduceMul, Int.reduceAdd, Int.reduceSub, Int.reduceNeg, Bool.not_true, Bool.not_false, Bool.not_not, ↓reduceIte, Nat.reduceAdd, Nat.reduceSub, Nat.reduceMul, Nat.reduceEqDiff, reduceCtorEq, Nat.reduceLT, Nat.reduceLeDiff, Nat.reduceGT]; exact rfl); (case' LH1 => rintro k E t hx hE ht; simp only [go_sem] at ht; subst ht; simp only [go_sem]; try dsimp only at hx))
  case hi => exact Nat.zero_le _
  case h0 => (focus (refine ⟨_, _, Gh.refl, [0], rfl, ?_⟩; (refine fitq ?_ ?_ ?_ <;> try exact trivial); (try any_goals (refine ⟨?_, ?_⟩)); (try any_goals (with_reducible rfl)))); (all_goals (repeat' (first | (refine And.intro ?_ ?_) | rfl | (simp; done) | trace_state)))
  case LH1 =>
    have hk0 : k ≤ l.length := hx
    have hlk := hlen k
    have hw : IntKind.i64.wrap ((k : Int) + 1) = ((k + 1 : Nat) : Int) := by rw [wrap_i64 _ (by omega) (by omega)]; omega
    by_cases hk : k < l.length
    · have hkd : decide ((k : Int) < l.length) = true := decide_eq_true (by omega)
      have hvk := vldQ_at hc hk
      obtain ⟨P, hP⟩ : ∃ P, encI l.length ++ (l.take k).flatMap encS = P := ⟨_, rfl⟩
      have hPl : P.length ≤ 180010 := by rw [← hP, List.length_append]; omega
      have hPn : ∀ z, encI l.length ++ ((l.take k).flatMap encS ++ z) = P ++ z := fun z => by rw [← List.append_assoc, hP]
      have htk : (l.take (k + 1)).flatMap encS = (l.take k).flatMap encS ++ encS (l.getD k Stp.zero) := by rw [stp_take hk, List.flatMap_append, List.flatMap_singleton]
      rw [hP]
      obtain ⟨x, hxe⟩ : ∃ x, l.getD k Stp.zero = x := ⟨_, rfl⟩
      rw [hxe] at hvk htk
      have hel := encS_len (by omega) hvk
      obtain ⟨⟨-, ht, hkk⟩, hv⟩ := vldS_iff.1 hvk
      unfold plS cpS nxS at hkk
      have w1 : IntKind.u64.wrap x.kind = ((x.kind.toNat : Nat) : Int) := by rw [wrap_u64]; omega
      have hb1 : (be x.kind.toNat 1).length = 1 := be_len _ _
      by_cases k1 : x.kind = 1
      · have d1 : decide (x.kind = 1) = true := decide_eq_true k1
        have hvv := hv k1
        have hcl : (encC ⟨x.c.src, x.c.num, x.c.srv, x.c.args, x.c.data⟩).length ≤ 600 := encC_len hvv
        have hE : encS x = be x.kind.toNat 1 ++ (encI (encC x.c).length ++ encC x.c) := by rw [encS, if_pos k1]
        (have zx1 := @hkd; have zx2 := @hxe; have zx3 := @w1; have zx4 := @d1; have zx5 := @hvv; have zx6 := @hw; all_goals (try ((first | (with_reducible refine wp_id ?_) | (with_reducible refine does_id ?_) | (with_reducible refine ops_id ?_)); refine walk ?_; (repeat' (first | exact trivial | with_reducible refine And.intro ?_ ?_)); all_goals (repeat (first | (with_reducible refine ImpB.mk fun hb => ?_) | (with_reducible refine ImpK.mk fun hK => ?_) | (with_reducible refine ImpF.mk fun hF => ?_) | (with_reducible refine ImpQ.mk fun hp => ?_) | (with_reducible refine AllE.mk fun p => ?_) | (with_reducible refine AllR.mk fun rest => ?_) | (with_reducible refine AllK.mk fun K => ?_))))); repeat' (with_reducible refine And.intro ?_ ?_))
        all_goals first | omega | (simp only [List.length_append, be_len]; omega) | skip
        refine ⟨k + 1, ⟨by first | omega | (dsimp only; omega), by first | omega | (dsimp only; omega)⟩, ?_⟩
        dsimp only
        rw [htk, hE, hPn]
        (focus (refine ⟨_, _, Gh.refl, [0], rfl, ?_⟩; (refine fitq ?_ ?_ ?_ <;> try exact trivial); (try any_goals (refine ⟨?_, ?_⟩)); (try any_goals (with_reducible rfl))))
        all_goals (repeat' (first | (refine And.intro ?_ ?_) | (with_reducible rfl) | (simp only [List.append_assoc]; done) | trace_state))
      have d1 : decide (x.kind = 1) = false := decide_eq_false k1
      by_cases k2 : x.kind = 2
      · have d2 : decide (x.kind = 2) = true := decide_eq_true k2
        have hI2 : I64 x.ticks := by constructor <;> omega
        have hE : encS x = be x.kind.toNat 1 ++ encI x.ticks := by rw [encS, if_neg k1, if_pos k2]
        (have zx1 := @hkd; have zx2 := @hxe; have zx3 := @w1; have zx4 := @d1; have zx5 := @d2; have zx6 := @hw; all_goals (try ((first | (with_reducible refine wp_id ?_) | (with_reducible refine does_id ?_) | (with_reducible refine ops_id ?_)); refine walk ?_; (repeat' (first | exact trivial | with_reducible refine And.intro ?_ ?_)); all_goals (repeat (first | (with_reducible refine ImpB.mk fun hb => ?_) | (with_reducible refine ImpK.mk fun hK => ?_) | (with_reducible refine ImpF.mk fun hF => ?_) | (with_reducible refine ImpQ.mk fun hp => ?_) | (with_reducible refine AllE.mk fun p => ?_) | (with_reducible refine AllR.mk fun rest => ?_) | (with_reducible refine AllK.mk fun K => ?_))))); repeat' (with_reducible refine And.intro ?_ ?_))
        all_goals first | omega | (simp only [List.length_append, be_len]; omega) | skip
        refine ⟨k + 1, ⟨by first | omega | (dsimp only; omega), by first | omega | (dsimp only; omega)⟩, ?_⟩
        dsimp only
        rw [htk, hE, hPn]
        (focus (refine ⟨_, _, Gh.refl, [0], rfl, ?_⟩; (refine fitq ?_ ?_ ?_ <;> try exact trivial); (try any_goals (refine ⟨?_, ?_⟩)); (try any_goals (with_reducible rfl))))
        all_goals (repeat' (first | (refine And.intro ?_ ?_) | (with_reducible rfl) | (simp only [List.append_assoc]; done) | trace_state))
      have d2 : decide (x.kind = 2) = false := decide_eq_false k2
      by_cases k3 : x.kind = 3
      · have d3 : decide (x.kind = 3) = true := decide_eq_true k3
        have hI1 : I64 x.param := by constructor <;> omega
        have hI2 : I64 x.value := by constructor <;> omega
        have hI3 : I64 x.next := by constructor <;> omega
        have hl1 := encI_le _ hI1
        have hl2 := encI_le _ hI2
        have w2 : IntKind.u64.wrap x.op = ((x.op.toNat : Nat) : Int) := by rw [wrap_u64]; omega
        have hE : encS x = be x.kind.toNat 1 ++ (encI x.param ++ be x.op.toNat 1 ++ encI x.value ++ encI x.next) := by rw [encS, if_neg k1, if_neg k2, if_pos k3]
        (have zx1 := @hkd; have zx2 := @hxe; have zx3 := @w1; have zx4 := @d1; have zx5 := @d2; have zx6 := @d3; have zx7 := @w2; have zx8 := @hw; all_goals (try ((first | (with_reducible refine wp_id ?_) | (with_reducible refine does_id ?_) | (with_reducible refine ops_id ?_)); refine walk ?_; (repeat' (first | exact trivial | with_reducible refine And.intro ?_ ?_)); all_goals (repeat (first | (with_reducible refine ImpB.mk fun hb => ?_) | (with_reducible refine ImpK.mk fun hK => ?_) | (with_reducible refine ImpF.mk fun hF => ?_) | (with_reducible refine ImpQ.mk fun hp => ?_) | (with_reducible refine AllE.mk fun p => ?_) | (with_reducible refine AllR.mk fun rest => ?_) | (with_reducible refine AllK.mk fun K => ?_))))); repeat' (with_reducible refine And.intro ?_ ?_))
        all_goals first | omega | (simp only [List.length_append, be_len]; omega) | skip
        refine ⟨k + 1, ⟨by first | omega | (dsimp only; omega), by first | omega | (dsimp only; omega)⟩, ?_⟩
        dsimp only
        rw [htk, hE, hPn]
        (focus (refine ⟨_, _, Gh.refl, [0], rfl, ?_⟩; (refine fitq ?_ ?_ ?_ <;> try exact trivial); (try any_goals (refine ⟨?_, ?_⟩)); (try any_goals (with_reducible rfl))))
        all_goals (repeat' (first | (refine And.intro ?_ ?_) | (with_reducible rfl) | (simp only [List.append_assoc]; done) | trace_state))
      have d3 : decide (x.kind = 3) = false := decide_eq_false k3
      by_cases k4 : x.kind = 4
      · have d4 : decide (x.kind = 4) = true := decide_eq_true k4
        have hI1 : I64 x.param := by constructor <;> omega
        have hI2 : I64 x.value := by constructor <;> omega
        have hl1 := encI_le _ hI1
        have hl2 := encI_le _ hI2
        have w2 : IntKind.u64.wrap x.op = ((x.op.toNat : Nat) : Int) := by rw [wrap_u64]; omega
        have hE : encS x = be x.kind.toNat 1 ++ (encI x.param ++ be x.op.toNat 1 ++ encI x.value) := by rw [encS, if_neg k1, if_neg k2, if_neg k3, if_pos k4]
        (have zx1 := @hkd; have zx2 := @hxe; have zx3 := @w1; have zx4 := @d1; have zx5 := @d2; have zx6 := @d3; have zx7 := @d4; have zx8 := @w2; have zx9 := @hw; all_goals (try ((first | (with_reducible refine wp_id ?_) | (with_reducible refine does_id ?_) | (with_reducible refine ops_id ?_)); refine walk ?_; (repeat' (first | exact trivial | with_reducible refine And.intro ?_ ?_)); all_goals (repeat (first | (with_reducible refine ImpB.mk fun hb => ?_) | (with_reducible refine ImpK.mk fun hK => ?_) | (with_reducible refine ImpF.mk fun hF => ?_) | (with_reducible refine ImpQ.mk fun hp => ?_) | (with_reducible refine AllE.mk fun p => ?_) | (with_reducible refine AllR.mk fun rest => ?_) | (with_reducible refine AllK.mk fun K => ?_))))); repeat' (with_reducible refine And.intro ?_ ?_))
        all_goals first | omega | (simp only [List.length_append, be_len]; omega) | skip
        refine ⟨k + 1, ⟨by first | omega | (dsimp only; omega), by first | omega | (dsimp only; omega)⟩, ?_⟩
        dsimp only
        rw [htk, hE, hPn]
        (focus (refine ⟨_, _, Gh.refl, [0], rfl, ?_⟩; (refine fitq ?_ ?_ ?_ <;> try exact trivial); (try any_goals (refine ⟨?_, ?_⟩)); (try any_goals (with_reducible rfl))))
        all_goals (repeat' (first | (refine And.intro ?_ ?_) | (with_reducible rfl) | (simp only [List.append_assoc]; done) | trace_state))
      have d4 : decide (x.kind = 4) = false := decide_eq_false k4
      by_cases k5 : x.kind = 5
      · have d5 : decide (x.kind = 5) = true := decide_eq_true k5
        have hI3 : I64 x.next := by constructor <;> omega
        have hE : encS x = be x.kind.toNat 1 ++ encI x.next := by rw [encS, if_neg k1, if_neg k2, if_neg k3, if_neg k4, if_pos k5]
        (have zx1 := @hkd; have zx2 := @hxe; have zx3 := @w1; have zx4 := @d1; have zx5 := @d2; have zx6 := @d3; have zx7 := @d4; have zx8 := @d5; have zx9 := @hw; all_goals (try ((first | (with_reducible refine wp_id ?_) | (with_reducible refine does_id ?_) | (with_reducible refine ops_id ?_)); refine walk ?_; (repeat' (first | exact trivial | with_reducible refine And.intro ?_ ?_)); all_goals (repeat (first | (with_reducible refine ImpB.mk fun hb => ?_) | (with_reducible refine ImpK.mk fun hK => ?_) | (with_reducible refine ImpF.mk fun hF => ?_) | (with_reducible refine ImpQ.mk fun hp => ?_) | (with_reducible refine AllE.mk fun p => ?_) | (with_reducible refine AllR.mk fun rest => ?_) | (with_reducible refine AllK.mk fun K => ?_))))); repeat' (with_reducible refine And.intro ?_ ?_))
        all_goals first | omega | (simp only [List.length_append, be_len]; omega) | skip
        refine ⟨k + 1, ⟨by first | omega | (dsimp only; omega), by first | omega | (dsimp only; omega)⟩, ?_⟩
        dsimp only
        rw [htk, hE, hPn]
        (focus (refine ⟨_, _, Gh.refl, [0], rfl, ?_⟩; (refine fitq ?_ ?_ ?_ <;> try exact trivial); (try any_goals (refine ⟨?_, ?_⟩)); (try any_goals (with_reducible rfl))))
        all_goals (repeat' (first | (refine And.intro ?_ ?_) | (with_reducible rfl) | (simp only [List.append_assoc]; done) | trace_state))
      have d5 : decide (x.kind = 5) = false := decide_eq_false k5
      have hE : encS x = be x.kind.toNat 1 ++ [] := by rw [encS, if_neg k1, if_neg k2, if_neg k3, if_neg k4, if_neg k5]
      (have zx1 := @hkd; have zx2 := @hxe; have zx3 := @w1; have zx4 := @d1; have zx5 := @d2; have zx6 := @d3; have zx7 := @d4; have zx8 := @d5; have zx9 := @hw; all_goals (try ((first | (with_reducible refine wp_id ?_) | (with_reducible refine does_id ?_) | (with_reducible refine ops_id ?_)); refine walk ?_; (repeat' (first | exact trivial | with_reducible refine And.intro ?_ ?_)); all_goals (repeat (first | (with_reducible refine ImpB.mk fun hb => ?_) | (with_reducible refine ImpK.mk fun hK => ?_) | (with_reducible refine ImpF.mk fun hF => ?_) | (with_reducible refine ImpQ.mk fun hp => ?_) | (with_reducible refine AllE.mk fun p => ?_) | (with_reducible refine AllR.mk fun rest => ?_) | (with_reducible refine AllK.mk fun K => ?_))))); repeat' (with_reducible refine And.intro ?_ ?_))
      all_goals first | omega | (simp only [List.length_append, be_len]; omega) | skip
      refine ⟨k + 1, ⟨by first | omega | (dsimp only; omega), by first | omega | (dsimp only; omega)⟩, ?_⟩
      dsimp only
      rw [htk, hE, hPn]
      (focus (refine ⟨_, _, Gh.refl, [0], rfl, ?_⟩; (refine fitq ?_ ?_ ?_ <;> try exact trivial); (try any_goals (refine ⟨?_, ?_⟩)); (try any_goals (with_reducible rfl))))
      all_goals (repeat' (first | (refine And.intro ?_ ?_) | (with_reducible rfl) | (simp only [List.append_assoc, List.append_nil]; done) | trace_state))
    · have hkd : decide ((k : Int) < l.length) = false := decide_eq_false (by omega)
      have hk2 : l.take k = l := List.take_of_length_le (by omega)
      rw [hk2] at hlk ⊢
      have hQ : encI l.length ++ l.flatMap encS = encQ l := rfl
      rw [hQ]
      have hQl : (encQ l).length ≤ 180010 := by rw [← hQ, List.length_append]; omega
      (have zx1 := @hkd; all_goals (try ((first | (with_reducible refine wp_id ?_) | (with_reducible refine does_id ?_) | (with_reducible refine ops_id ?_)); refine walk ?_; (repeat' (first | exact trivial | with_reducible refine And.intro ?_ ?_)); all_goals (repeat (first | (with_reducible refine ImpB.mk fun hb => ?_) | (with_reducible refine ImpK.mk fun hK => ?_) | (with_reducible refine ImpF.mk fun hF => ?_) | (with_reducible refine ImpQ.mk fun hp => ?_) | (with_reducible refine AllE.mk fun p => ?_) | (with_reducible refine AllR.mk fun rest => ?_) | (with_reducible refine AllK.mk fun K => ?_))))); repeat' (with_reducible refine And.intro ?_ ?_))
      all_goals first | exact Int.natCast_nonneg _ | omega | skip
      (focus (refine ⟨_, _, Gh.refl, [1], rfl, ?_⟩; (refine fitq ?_ ?_ ?_ <;> try exact trivial); (try any_goals (refine ⟨?_, ?_⟩)); (try any_goals (with_reducible rfl))))
      all_goals (repeat' (first | (refine And.intro ?_ ?_) | rfl | trace_state))
theorem c_qencT {h : List Ch} {K : KT} {l : List Stp} {a : AV} (H : K (.tup [.sl h.length .byte 0 (encQ l).length, .int .i64 0]) (h ++ [.rows .byte (encQ l)])) (b1 : brA [] h (.ro .stp l) a) (e1 : vldQ l = true) (s1 : litQ l) : Does Try.prog 20 [a] h K :=
  frame_new (ret' := .tup [.sl h.length .byte 0 (encQ l).length, .int .i64 0]) (b_qencT l s1 e1) (br_cons b1 br_nil) (.inr rfl) (fun _ => rfl) rfl H
abbrev i_qencT := Ctr.mk (i := 1) (g := 20) @c_qencT
attribute [instance] i_qencT
end Go.V

set_option maxRecDepth 100000
set_option maxHeartbeats 8000000
namespace Go.V
open Go.Proofs
attribute [-go_sem] Wr
attribute [local go_sem] decA rdecA
end Go.V

set_option maxRecDepth 100000
set_option maxHeartbeats 8000000
namespace Go.V
open Go.Proofs
attribute [-go_sem] Wr
attribute [local go_sem] decA rdecA
end Go.V

set_option maxRecDepth 100000
set_option maxHeartbeats 8000000
namespace Go.V
open Go.Proofs
theorem int_ext {a b : List Int} (hl : a.length = b.length) (h : ∀ j, j < a.length → a.getD j 0 = b.getD j 0) : a = b := by
  apply List.ext_getElem hl
  intro j h1 h2
  have := h j h1
  rw [List.getD_eq_getElem?_getD, List.getD_eq_getElem?_getD, List.getElem?_eq_getElem h1, List.getElem?_eq_getElem h2] at this
  exact this
theorem b_ints (a b : List Int) (ha : a.length ≤ 9223372036854775807) (hb : b.length ≤ 9223372036854775807) : DoesK Try.prog 0 15 [.ro .int a, .ro .int b] [] (EndF 0 (.bool (decide (a = b))) []) := by
  refine DoesK.close ?_
  by_cases hl : a.length = b.length
  · have d0 : decide ((a.length : Int) = b.length) = true := decide_eq_true (by omega)
    have d1 : decide (¬ (a.length : Int) = b.length) = false := decide_eq_false (by omega)
    refine w_body (rs := [.tmp 4]) (tm := [.ro .int a, .ro .int b, .any, .any, .any, .any, .any, .any, .any, .any, .any, .any, .any, .any, .any, .any, .any, .any, .any, .any, .any, .any, .any, .any, .any, .any]) fn_15 rfl rfl rfl rfl fun R hR => ?_
    (have zx1 := @d0; have zx2 := @d1; all_goals (try ((first | (with_reducible refine wp_id ?_) | (with_reducible refine does_id ?_) | (with_reducible refine ops_id ?_)); refine walk ?_; (repeat' (first | exact trivial | with_reducible refine And.intro ?_ ?_)); all_goals (repeat (first | (with_reducible refine ImpB.mk fun hb => ?_) | (with_reducible refine ImpK.mk fun hK => ?_) | (with_reducible refine ImpF.mk fun hF => ?_) | (with_reducible refine ImpQ.mk fun hp => ?_) | (with_reducible refine AllE.mk fun p => ?_) | (with_reducible refine AllR.mk fun rest => ?_) | (with_reducible refine AllK.mk fun K => ?_))))); repeat' (with_reducible refine And.intro ?_ ?_))
    any_goals ((try (refine w_seq fun K hK => ?_)); (try (refine w_block ?_)); refine w_loop (A := Nat) (fun k => k ≤ a.length ∧ (∀ j, j < k → a.getD j 0 = b.getD j 0)) (fun k => a.length - k) (fun k => [(5, .int .i64 k)]) (fun _ => []) (0) (ws := ?ws1) (tk := ?tk1) ?hw1 ?ht1 ?hi ?h0 ?LH1; (case hw1 => simp only [go_sem, decide_true, decide_false, Int.reduceToNat, Nat.min_eq_left, Nat.min_eq_right, Int.reducePow, Nat.reducePow, Int.reduceLE, Int.reduceLT, Int.reduceMul, Int.reduceAdd, Int.reduceSub, Int.reduceNeg, Bool.not_true, Bool.not_false, Bool.not_not, ↓reduceIte, Nat.reduceAdd, Nat.reduceSub, Nat.reduceMul, Nat.reduceEqDiff, reduceCtorEq, Nat.reduceLT, Nat.reduceLeDiff, Nat.reduceGT]; exact rfl); (case ht1 => simp only [go_sem, decide_true, decide_false, Int.reduceToNat, Nat.min_eq_left, Nat.min_eq_right, Int.reducePow, Nat.reducePow, Int.reduceLE, Int.reduceLT, Int.reduceMul, Int.reduceAdd, Int.reduceSub, Int.reduceNeg, Bool.not_true, Bool.not_false, Bool.not_not, ↓reduceIte, Nat.reduceAdd, Nat.reduceSub, Nat.reduceMul, Nat.reduceEqDiff, reduceCtorEq, Nat.reduceLT, Nat.reduceLeDiff, Nat.reduceGT]; exact rfl); (case' LH1 => rintro k E t hx hE ht; simp only [go_sem] at ht; subst ht; simp only [go_sem]; try dsimp only at hx))
    case hi => exact ⟨Nat.zero_le _, fun j hj => by omega⟩
    case h0 => (focus (refine ⟨_, _, Gh.refl, [], rfl, ?_⟩; (refine fitq ?_ ?_ ?_ <;> try exact trivial); (try any_goals (refine ⟨?_, ?_⟩)); (try any_goals (with_reducible rfl))))
    case LH1 =>
      obtain ⟨hk0, hal⟩ := hx
      by_cases hk : k < a.length
      · have hkd : decide ((k : Int) < a.length) = true := decide_eq_true (by omega)
        have hw : IntKind.i64.wrap ((k : Int) + 1) = ((k + 1 : Nat) : Int) := by rw [wrap_i64 _ (by omega) (by omega)]; omega
        have hkb : (k : Int) < b.length := by omega
        by_cases he : a.getD k 0 = b.getD k 0
        · have hed : decide (¬ a.getD k 0 = b.getD k 0) = false := decide_eq_false (fun q => q he)
          (have zx1 := @hkd; have zx2 := @hw; have zx3 := @hed; all_goals (try ((first | (with_reducible refine wp_id ?_) | (with_reducible refine does_id ?_) | (with_reducible refine ops_id ?_)); refine walk ?_; (repeat' (first | exact trivial | with_reducible refine And.intro ?_ ?_)); all_goals (repeat (first | (with_reducible refine ImpB.mk fun hb => ?_) | (with_reducible refine ImpK.mk fun hK => ?_) | (with_reducible refine ImpF.mk fun hF => ?_) | (with_reducible refine ImpQ.mk fun hp => ?_) | (with_reducible refine AllE.mk fun p => ?_) | (with_reducible refine AllR.mk fun rest => ?_) | (with_reducible refine AllK.mk fun K => ?_))))); repeat' (with_reducible refine And.intro ?_ ?_))
          all_goals first | (show _ ≤ (_ : Int); omega) | (show _ < (_ : Int); omega) | skip
          refine ⟨k + 1, ⟨⟨by first | omega | (dsimp only; omega), fun j hj => ?_⟩, by first | omega | (dsimp only; omega)⟩, ?_⟩
          · by_cases hjk : j < k
            · exact hal j hjk
            · obtain rfl : j = k := by omega
              exact he
          (focus (refine ⟨_, _, Gh.refl, [], rfl, ?_⟩; (refine fitq ?_ ?_ ?_ <;> try exact trivial); (try any_goals (refine ⟨?_, ?_⟩)); (try any_goals (with_reducible rfl))))
          all_goals (repeat' (first | (refine And.intro ?_ ?_) | rfl))
        · have hed : decide (¬ a.getD k 0 = b.getD k 0) = true := decide_eq_true he
          (have zx1 := @hkd; have zx2 := @hw; have zx3 := @hed; all_goals (try ((first | (with_reducible refine wp_id ?_) | (with_reducible refine does_id ?_) | (with_reducible refine ops_id ?_)); refine walk ?_; (repeat' (first | exact trivial | with_reducible refine And.intro ?_ ?_)); all_goals (repeat (first | (with_reducible refine ImpB.mk fun hb => ?_) | (with_reducible refine ImpK.mk fun hK => ?_) | (with_reducible refine ImpF.mk fun hF => ?_) | (with_reducible refine ImpQ.mk fun hp => ?_) | (with_reducible refine AllE.mk fun p => ?_) | (with_reducible refine AllR.mk fun rest => ?_) | (with_reducible refine AllK.mk fun K => ?_))))); repeat' (with_reducible refine And.intro ?_ ?_))
          all_goals first | (show _ ≤ (_ : Int); omega) | (show _ < (_ : Int); omega) | skip
          rw [decide_eq_false (p := a = b) (fun q => he (by rw [q]))]
          (focus (refine ⟨_, _, Gh.refl, [], rfl, ?_⟩; (refine fitq ?_ ?_ ?_ <;> try exact trivial); (try any_goals (refine ⟨?_, ?_⟩)); (try any_goals (with_reducible rfl))))
      · have hkd : decide ((k : Int) < a.length) = false := decide_eq_false (by omega)
        (have zx1 := @hkd; all_goals (try ((first | (with_reducible refine wp_id ?_) | (with_reducible refine does_id ?_) | (with_reducible refine ops_id ?_)); refine walk ?_; (repeat' (first | exact trivial | with_reducible refine And.intro ?_ ?_)); all_goals (repeat (first | (with_reducible refine ImpB.mk fun hb => ?_) | (with_reducible refine ImpK.mk fun hK => ?_) | (with_reducible refine ImpF.mk fun hF => ?_) | (with_reducible refine ImpQ.mk fun hp => ?_) | (with_reducible refine AllE.mk fun p => ?_) | (with_reducible refine AllR.mk fun rest => ?_) | (with_reducible refine AllK.mk fun K => ?_))))); repeat' (with_reducible refine And.intro ?_ ?_))
        rw [decide_eq_true (int_ext hl fun j hj => hal j (by omega))]
        (focus (refine ⟨_, _, Gh.refl, [], rfl, ?_⟩; (refine fitq ?_ ?_ ?_ <;> try exact trivial); (try any_goals (refine ⟨?_, ?_⟩)); (try any_goals (with_reducible rfl))))
  · have d0 : decide ((a.length : Int) = b.length) = false := decide_eq_false (by omega)
    have d1 : decide (¬ (a.length : Int) = b.length) = true := decide_eq_true (by omega)
    refine w_body (rs := [.tmp 4]) (tm := [.ro .int a, .ro .int b, .any, .any, .any, .any, .any, .any, .any, .any, .any, .any, .any, .any, .any, .any, .any, .any, .any, .any, .any, .any, .any, .any, .any, .any]) fn_15 rfl rfl rfl rfl fun R hR => ?_
    (have zx1 := @d0; have zx2 := @d1; all_goals (try ((first | (with_reducible refine wp_id ?_) | (with_reducible refine does_id ?_) | (with_reducible refine ops_id ?_)); refine walk ?_; (repeat' (first | exact trivial | with_reducible refine And.intro ?_ ?_)); all_goals (repeat (first | (with_reducible refine ImpB.mk fun hb => ?_) | (with_reducible refine ImpK.mk fun hK => ?_) | (with_reducible refine ImpF.mk fun hF => ?_) | (with_reducible refine ImpQ.mk fun hp => ?_) | (with_reducible refine AllE.mk fun p => ?_) | (with_reducible refine AllR.mk fun rest => ?_) | (with_reducible refine AllK.mk fun K => ?_))))); repeat' (with_reducible refine And.intro ?_ ?_))
    rw [decide_eq_false (p := a = b) (fun q => hl (by rw [q]))]
    (focus (refine ⟨_, _, Gh.refl, [], rfl, ?_⟩; (refine fitq ?_ ?_ ?_ <;> try exact trivial); (try any_goals (refine ⟨?_, ?_⟩)); (try any_goals (with_reducible rfl))))
theorem c_ints {h : List Ch} {K : KT} {a b : List Int} {x y : AV} (H : K (.bool (decide (a = b))) h) (b1 : brA [] h (.ro .int a) x) (b2 : brA [] h (.ro .int b) y) (s1 : a.length ≤ 9223372036854775807) (s2 : b.length ≤ 9223372036854775807) : Does Try.prog 15 [x, y] h K :=
  frame_pure (b_ints a b s1 s2) (br_cons b1 (br_cons b2 br_nil)) (.inr rfl) (fun _ => rfl) H
abbrev i_ints := Ctr.mk (i := 0) (g := 15) @c_ints
attribute [instance] i_ints
end Go.V

set_option maxRecDepth 100000
set_option maxHeartbeats 8000000
namespace Go.V
open Go.Proofs
/-- a pool as it lies -/
def PL (ids : List Int) (vs : List Pdf) : List Ch := [.cells [.bool true, .sl 1 .int 0 ids.length, .sl 2 .pdf 0 vs.length], .rows .int ids, .rows .pdf vs]
attribute [go_sem] PL
abbrev pdL (x : Pdf) : List AV := [.int .i64 x.id, .int .i64 x.width, .bool x.signed, .int .i64 x.value]
theorem b_inr (i : Int) : DoesK Try.prog 0 52 [.agg [.int .i64 i, .int .i64 8, .bool false, .int .i64 0], .int .i64 0] [] (EndF 0 (.bool true) []) := by
  refine DoesK.close ?_
  refine w_body (rs := [.tmp 4]) (tm := [.agg [.int .i64 i, .int .i64 8, .bool false, .int .i64 0], .int .i64 0, .any, .any, .any, .any, .any, .any, .any, .any, .any, .any, .any, .any, .any, .any, .any, .any, .any, .any, .any, .any, .any, .any, .any, .any, .any, .any, .any, .any]) fn_52 rfl rfl rfl rfl fun R hR => ?_
  have hw : decide ((0 : Int) < IntKind.i64.wrap 256) = true := by decide
  (have zx1 := @hw; all_goals (try ((first | (with_reducible refine wp_id ?_) | (with_reducible refine does_id ?_) | (with_reducible refine ops_id ?_)); refine walk ?_; (repeat' (first | exact trivial | with_reducible refine And.intro ?_ ?_)); all_goals (repeat (first | (with_reducible refine ImpB.mk fun hb => ?_) | (with_reducible refine ImpK.mk fun hK => ?_) | (with_reducible refine ImpF.mk fun hF => ?_) | (with_reducible refine ImpQ.mk fun hp => ?_) | (with_reducible refine AllE.mk fun p => ?_) | (with_reducible refine AllR.mk fun rest => ?_) | (with_reducible refine AllK.mk fun K => ?_))))); repeat' (with_reducible refine And.intro ?_ ?_))
  (focus (refine ⟨_, _, Gh.refl, [], rfl, ?_⟩; (refine fitq ?_ ?_ ?_ <;> try exact trivial); (try any_goals (refine ⟨?_, ?_⟩)); (try any_goals (with_reducible rfl))))
theorem c_inr {h : List Ch} {K : KT} {i : Int} (H : K (.bool true) h) : Does Try.prog 52 [.agg [.int .i64 i, .int .i64 8, .bool false, .int .i64 0], .int .i64 0] h K :=
  frame_pure (b_inr i) (br_cons (br_agg (br_cons br_int (br_cons br_int (br_cons br_bool (br_cons br_int br_nil))))) (br_cons br_int br_nil)) (.inr rfl) (fun _ => rfl) H
abbrev i_inr := Ctr.mk (i := 0) (g := 52) @c_inr
attribute [instance] i_inr
theorem b_tapp (ids : List Int) (vs : List Pdf) (i : Int) (v : Pdf) (h1 : ids.length ≤ 1000) (h2 : vs.length ≤ 1000) : DoesK Try.prog 1 53 [.ptr 0 1, .int .i64 i, .agg (pdL v)] [.pack (PL ids vs)] (EndF 1 (.tup []) ([.pack (PL (ids ++ [i]) (vs ++ [v]))] ++ [])) := by
  refine DoesK.close ?_
  have hro : RoLit := .mk
  refine w_body (rs := []) (tm := [.ptr 0 1, .int .i64 i, .agg (pdL v), .any, .any, .any, .any, .any, .any, .any, .any, .any, .any, .any, .any, .any, .any, .any, .any, .any, .any, .any, .any, .any, .any, .any]) fn_53 rfl rfl rfl rfl fun R hR => ?_
  refine w_seq fun K2 hk2 => ?_; have hq2 := Slot.mk hk2; clear hk2
  (all_goals (try ((first | (with_reducible refine wp_id ?_) | (with_reducible refine does_id ?_) | (with_reducible refine ops_id ?_)); refine walk ?_; (repeat' (first | exact trivial | with_reducible refine And.intro ?_ ?_)); all_goals (repeat (first | (with_reducible refine ImpB.mk fun hb => ?_) | (with_reducible refine ImpK.mk fun hK => ?_) | (with_reducible refine ImpF.mk fun hF => ?_) | (with_reducible refine ImpQ.mk fun hp => ?_) | (with_reducible refine AllE.mk fun p => ?_) | (with_reducible refine AllR.mk fun rest => ?_) | (with_reducible refine AllK.mk fun K => ?_))))); repeat' (with_reducible refine And.intro ?_ ?_))
  refine hq2.un _ _ ?_
  refine w_open 0 rfl rfl ?_
  simp only [go_sem, decide_true, decide_false, Int.reduceToNat, Nat.min_eq_left, Nat.min_eq_right, Int.reducePow, Nat.reducePow, Int.reduceLE, Int.reduceLT, Int.reduceMul, Int.reduceAdd, Int.reduceSub, Int.reduceNeg, Bool.not_true, Bool.not_false, Bool.not_not, ↓reduceIte, Nat.reduceAdd, Nat.reduceSub, Nat.reduceMul, Nat.reduceEqDiff, reduceCtorEq, Nat.reduceLT, Nat.reduceLeDiff, Nat.reduceGT]
  (all_goals (try ((first | (with_reducible refine wp_id ?_) | (with_reducible refine does_id ?_) | (with_reducible refine ops_id ?_)); refine walk ?_; (repeat' (first | exact trivial | with_reducible refine And.intro ?_ ?_)); all_goals (repeat (first | (with_reducible refine ImpB.mk fun hb => ?_) | (with_reducible refine ImpK.mk fun hK => ?_) | (with_reducible refine ImpF.mk fun hF => ?_) | (with_reducible refine ImpQ.mk fun hp => ?_) | (with_reducible refine AllE.mk fun p => ?_) | (with_reducible refine AllR.mk fun rest => ?_) | (with_reducible refine AllK.mk fun K => ?_))))); repeat' (with_reducible refine And.intro ?_ ?_))
  all_goals first | (show _ ≤ (_ : Nat); omega) | skip
  (focus (refine ⟨_, _, gh_close (t := 0) (ts := [5, 6]) (l := PL (ids ++ [i]) (vs ++ [v])) ⟨⟨_, _, rfl⟩, ?_, by simp⟩, [0], rfl, ?_⟩; all_goals (refine fitq ?_ ?_ ?_ <;> try exact trivial); (try any_goals (refine ⟨?_, ?_⟩)); (try any_goals (with_reducible rfl))))
  all_goals (repeat' (first | (refine And.intro ?_ ?_) | rfl | (simp only [List.length_append, List.length_cons, List.length_nil]; done)))
theorem k_tapp {h : List Ch} {K : KT} {u : Nat} {ids : List Int} {vs : List Pdf} {i : Int} {x1 x2 x4 : Int} {x3 : Bool} (H : K (.tup []) (h.set u (.pack (PL (ids ++ [i]) (vs ++ [⟨x1, x2, x3, x4⟩]))))) (o : hth h u = .pack (PL ids vs)) (s1 : ids.length ≤ 1000) (s2 : vs.length ≤ 1000) : Does Try.prog 53 [.ptr u 1, .int .i64 i, .agg [.int .i64 x1, .int .i64 x2, .bool x3, .int .i64 x4]] h K :=
  frame_obj0 (b_tapp ids vs i ⟨x1, x2, x3, x4⟩ s1 s2) o (by simp) (fitC_pack _) (br_cons (br_ptr rfl) (br_cons br_int (br_cons (br_agg (br_cons br_int (br_cons br_int (br_cons br_bool (br_cons br_int br_nil))))) br_nil))) (.inl rfl) (fun _ => rfl) rfl H
/-- the three parameters -/
def dsQ : List Pdf := [⟨1, 8, false, 0⟩, ⟨2, 8, false, 0⟩, ⟨3, 8, false, 0⟩]
def idQ : List Int := [1, 2, 3]
theorem dsQ_at {k : Nat} (h : k < 3) : dsQ.getD k Pdf.zero = ⟨(k : Int) + 1, 8, false, 0⟩ := by
  match k, h with
  | 0, _ => rfl
  | 1, _ => rfl
  | 2, _ => rfl
theorem dsQ_take {k : Nat} (h : k < 3) : dsQ.take k ++ [⟨(k : Int) + 1, 8, false, 0⟩] = dsQ.take (k + 1) := by
  match k, h with
  | 0, _ => rfl
  | 1, _ => rfl
  | 2, _ => rfl
theorem idQ_take {k : Nat} (h : k < 3) : idQ.take k ++ [(k : Int) + 1] = idQ.take (k + 1) := by
  match k, h with
  | 0, _ => rfl
  | 1, _ => rfl
  | 2, _ => rfl
/-- the pool after k parameters -/
def PLF (k : Nat) : List Ch := PL (idQ.take k) (dsQ.take k)
theorem c_tappF {h : List Ch} {K : KT} {u k : Nat} (H : K (.tup []) (h.set u (.pack (PLF (k + 1))))) (o : hth h u = .pack (PLF k)) (s1 : k < 3) : Does Try.prog 53 [.ptr u 1, .int .i64 ((k : Int) + 1), .agg [.int .i64 ((k : Int) + 1), .int .i64 8, .bool false, .int .i64 0]] h K := by
  have hl1 : (idQ.take k).length ≤ 1000 := by rw [List.length_take]; exact Nat.le_trans (Nat.min_le_left _ _) (by omega)
  have hl2 : (dsQ.take k).length ≤ 1000 := by rw [List.length_take]; exact Nat.le_trans (Nat.min_le_left _ _) (by omega)
  refine k_tapp (ids := idQ.take k) (vs := dsQ.take k) ?_ o hl1 hl2
  rw [idQ_take s1, dsQ_take s1]
  exact H
abbrev i_tappF := Ctr.mk (i := 0) (g := 53) @c_tappF
attribute [instance] i_tappF
theorem b_pnew : DoesK Try.prog 0 26 [.ro .pdf dsQ] [] (EndF 0 (.tup [.ptr 0 0, .int .i64 0]) [.pack (PL idQ dsQ)]) := by
  refine DoesK.close ?_
  have hl : ((dsQ.length : Nat) : Int) = 3 := rfl
  refine w_body (rs := [.tmp 2, .tmp 3]) (tm := [.ro .pdf dsQ, .any, .any, .any, .any, .any, .any, .any, .any, .any, .any, .any, .any, .any, .any, .any, .any, .any, .any, .any, .any, .any, .any, .any, .any, .any, .any, .any, .any, .any, .any, .any, .any, .any, .any, .any, .any, .any, .any, .any, .any, .any, .any, .any, .any, .any, .any, .any, .any, .any, .any, .any, .any, .any, .any, .any, .any, .any, .any, .any, .any, .any, .any, .any, .any, .any, .any, .any]) fn_26 rfl rfl rfl rfl fun R hR => ?_
  (have zx1 := @hl; all_goals (try ((first | (with_reducible refine wp_id ?_) | (with_reducible refine does_id ?_) | (with_reducible refine ops_id ?_)); refine walk ?_; (repeat' (first | exact trivial | with_reducible refine And.intro ?_ ?_)); all_goals (repeat (first | (with_reducible refine ImpB.mk fun hb => ?_) | (with_reducible refine ImpK.mk fun hK => ?_) | (with_reducible refine ImpF.mk fun hF => ?_) | (with_reducible refine ImpQ.mk fun hp => ?_) | (with_reducible refine AllE.mk fun p => ?_) | (with_reducible refine AllR.mk fun rest => ?_) | (with_reducible refine AllK.mk fun K => ?_))))); repeat' (with_reducible refine And.intro ?_ ?_))
  any_goals ((try (refine w_seq fun K hK => ?_)); (try (refine w_block ?_)); refine w_loop (A := Nat) (fun k => k ≤ 3) (fun k => 3 - k) (fun k => [(14, .int .i64 k), (4, .ptr 0 0)]) (fun k => [(0, .pack (PLF k))]) (0) (ws := ?ws1) (tk := ?tk1) ?hw1 ?ht1 ?hi ?h0 ?LH1; (case hw1 => simp only [go_sem, decide_true, decide_false, Int.reduceToNat, Nat.min_eq_left, Nat.min_eq_right, Int.reducePow, Nat.reducePow, Int.reduceLE, Int.reduceLT, Int.reduceMul, Int.reduceAdd, Int.reduceSub, Int.reduceNeg, Bool.not_true, Bool.not_false, Bool.not_not, ↓reduceIte, Nat.reduceAdd, Nat.reduceSub, Nat.reduceMul, Nat.reduceEqDiff, reduceCtorEq, Nat.reduceLT, Nat.reduceLeDiff, Nat.reduceGT]; exact rfl); (case ht1 => simp only [go_sem, decide_true, decide_false, Int.reduceToNat, Nat.min_eq_left, Nat.min_eq_right, Int.reducePow, Nat.reducePow, Int.reduceLE, Int.reduceLT, Int.reduceMul, Int.reduceAdd, Int.reduceSub, Int.reduceNeg, Bool.not_true, Bool.not_false, Bool.not_not, ↓reduceIte, Nat.reduceAdd, Nat.reduceSub, Nat.reduceMul, Nat.reduceEqDiff, reduceCtorEq, Nat.reduceLT, Nat.reduceLeDiff, Nat.reduceGT]; exact rfl); (case' LH1 => rintro k E t hx hE ht; simp only [go_sem] at ht; subst ht; simp only [go_sem]; try dsimp only at hx))
  case hi => exact Nat.zero_le _
  case h0 =>
    simp only [go_sem]
    refine ⟨_, _, Gh.trans (gh_adoptC (t := 0) (i := 1) .int rfl trivial) (Gh.trans (gh_adoptC (t := 0) (i := 2) .pdf rfl trivial) (gh_close (t := 0) (ts := [1, 2]) (l := PL [] []) ⟨⟨_, _, rfl⟩, ?fc, by simp⟩)), [0], rfl, ?ft⟩
    case' ft => (refine fitq ?_ ?_ ?_ <;> try exact trivial)
    case' fc => simp only [go_sem, decide_true, decide_false, Int.reduceToNat, Nat.min_eq_left, Nat.min_eq_right, Int.reducePow, Nat.reducePow, Int.reduceLE, Int.reduceLT, Int.reduceMul, Int.reduceAdd, Int.reduceSub, Int.reduceNeg, Bool.not_true, Bool.not_false, Bool.not_not, ↓reduceIte, Nat.reduceAdd, Nat.reduceSub, Nat.reduceMul, Nat.reduceEqDiff, reduceCtorEq, Nat.reduceLT, Nat.reduceLeDiff, Nat.reduceGT]
    all_goals (repeat' (first | (refine And.intro ?_ ?_) | rfl))
  case LH1 =>
    have hk0 : k ≤ 3 := hx
    by_cases hk : k < 3
    · have hkd : decide ((k : Int) < 3) = true := decide_eq_true (by omega)
      have hw : IntKind.i64.wrap ((k : Int) + 1) = ((k + 1 : Nat) : Int) := by rw [wrap_i64 _ (by omega) (by omega)]; omega
      have hxe := dsQ_at hk
      have d1 : decide (((k : Int) + 1) < 0) = false := decide_eq_false (by omega)
      have d2 : decide (65535 < ((k : Int) + 1)) = false := decide_eq_false (by omega)
      by_cases hz : k = 0
      · have d3 : decide ((0 : Int) < k) = false := decide_eq_false (by omega)
        (have zx1 := @hl; have zx2 := @hkd; have zx3 := @hw; have zx4 := @hxe; have zx5 := @d1; have zx6 := @d2; have zx7 := @d3; all_goals (try ((first | (with_reducible refine wp_id ?_) | (with_reducible refine does_id ?_) | (with_reducible refine ops_id ?_)); refine walk ?_; (repeat' (first | exact trivial | with_reducible refine And.intro ?_ ?_)); all_goals (repeat (first | (with_reducible refine ImpB.mk fun hb => ?_) | (with_reducible refine ImpK.mk fun hK => ?_) | (with_reducible refine ImpF.mk fun hF => ?_) | (with_reducible refine ImpQ.mk fun hp => ?_) | (with_reducible refine AllE.mk fun p => ?_) | (with_reducible refine AllR.mk fun rest => ?_) | (with_reducible refine AllK.mk fun K => ?_))))); repeat' (with_reducible refine And.intro ?_ ?_))
        all_goals first | (show _ ≤ (_ : Nat); omega) | (show _ < (_ : Int); omega) | (show _ ≤ (_ : Int); omega) | skip
        refine ⟨k + 1, ⟨by first | omega | (dsimp only; omega), by first | omega | (dsimp only; omega)⟩, ?_⟩
        dsimp only
        (focus (refine ⟨_, _, Gh.refl, [0], rfl, ?_⟩; (refine fitq ?_ ?_ ?_ <;> try exact trivial); (try any_goals (refine ⟨?_, ?_⟩)); (try any_goals (with_reducible rfl))))
        all_goals (repeat' (first | (refine And.intro ?_ ?_) | rfl))
      · have d3 : decide ((0 : Int) < k) = true := decide_eq_true (by omega)
        have hw1 : IntKind.i64.wrap ((k : Int) - 1) = ((k - 1 : Nat) : Int) := by rw [wrap_i64 _ (by omega) (by omega)]; omega
        have hxp : dsQ.getD (k - 1) Pdf.zero = ⟨(k : Int), 8, false, 0⟩ := by
          have := dsQ_at (k := k - 1) (by omega)
          rw [this]
          congr 1
          omega
        have d4 : decide ((k : Int) + 1 ≤ (k : Int)) = false := decide_eq_false (by omega)
        (have zx1 := @hl; have zx2 := @hkd; have zx3 := @hw; have zx4 := @hxe; have zx5 := @d1; have zx6 := @d2; have zx7 := @d3; have zx8 := @hw1; have zx9 := @hxp; have zx10 := @d4; all_goals (try ((first | (with_reducible refine wp_id ?_) | (with_reducible refine does_id ?_) | (with_reducible refine ops_id ?_)); refine walk ?_; (repeat' (first | exact trivial | with_reducible refine And.intro ?_ ?_)); all_goals (repeat (first | (with_reducible refine ImpB.mk fun hb => ?_) | (with_reducible refine ImpK.mk fun hK => ?_) | (with_reducible refine ImpF.mk fun hF => ?_) | (with_reducible refine ImpQ.mk fun hp => ?_) | (with_reducible refine AllE.mk fun p => ?_) | (with_reducible refine AllR.mk fun rest => ?_) | (with_reducible refine AllK.mk fun K => ?_))))); repeat' (with_reducible refine And.intro ?_ ?_))
        all_goals first | (show _ ≤ (_ : Nat); omega) | (show _ < (_ : Int); omega) | (show _ ≤ (_ : Int); omega) | skip
        refine ⟨k + 1, ⟨by first | omega | (dsimp only; omega), by first | omega | (dsimp only; omega)⟩, ?_⟩
        dsimp only
        (focus (refine ⟨_, _, Gh.refl, [0], rfl, ?_⟩; (refine fitq ?_ ?_ ?_ <;> try exact trivial); (try any_goals (refine ⟨?_, ?_⟩)); (try any_goals (with_reducible rfl))))
        all_goals (repeat' (first | (refine And.intro ?_ ?_) | rfl))
    · obtain rfl : k = 3 := by omega
      have hkd : decide (((3 : Nat) : Int) < 3) = false := by decide
      have h1 : PLF 3 = PL idQ dsQ := rfl
      rw [h1]
      (have zx1 := @hkd; all_goals (try ((first | (with_reducible refine wp_id ?_) | (with_reducible refine does_id ?_) | (with_reducible refine ops_id ?_)); refine walk ?_; (repeat' (first | exact trivial | with_reducible refine And.intro ?_ ?_)); all_goals (repeat (first | (with_reducible refine ImpB.mk fun hb => ?_) | (with_reducible refine ImpK.mk fun hK => ?_) | (with_reducible refine ImpF.mk fun hF => ?_) | (with_reducible refine ImpQ.mk fun hp => ?_) | (with_reducible refine AllE.mk fun p => ?_) | (with_reducible refine AllR.mk fun rest => ?_) | (with_reducible refine AllK.mk fun K => ?_))))); repeat' (with_reducible refine And.intro ?_ ?_))
      (focus (refine ⟨_, _, Gh.refl, [0], rfl, ?_⟩; (refine fitq ?_ ?_ ?_ <;> try exact trivial); (try any_goals (refine ⟨?_, ?_⟩)); (try any_goals (with_reducible rfl))))
      all_goals (repeat' (first | (refine And.intro ?_ ?_) | rfl))
theorem c_pnew {h : List Ch} {K : KT} {a : AV} (H : K (.tup [.ptr h.length 0, .int .i64 0]) (h ++ [.pack (PL idQ dsQ)])) (q1 : isRO .pdf dsQ a) : Does Try.prog 26 [a] h K :=
  frame_new b_pnew (br_cons q1.br br_nil) (.inl (by rw [brTL, q1.brT]; rfl)) (fun _ => rfl) (by simp [renA, renL, rhoC]) H
abbrev i_pnew := Ctr.mk (i := 0) (g := 26) @c_pnew
attribute [instance] i_pnew
theorem b_pool : DoesK Try.prog 0 9 [] [] (EndF 0 (.tup [.ptr 0 0, .int .i64 0]) [.pack (PL idQ dsQ)]) := by
  refine DoesK.close ?_
  have hro : RoLit := .mk
  refine w_body (rs := [.tmp 0, .tmp 1]) (tm := [.any, .any, .any, .any, .any, .any, .any, .any, .any]) fn_9 rfl rfl rfl rfl fun R hR => ?_
  (all_goals (try ((first | (with_reducible refine wp_id ?_) | (with_reducible refine does_id ?_) | (with_reducible refine ops_id ?_)); refine walk ?_; (repeat' (first | exact trivial | with_reducible refine And.intro ?_ ?_)); all_goals (repeat (first | (with_reducible refine ImpB.mk fun hb => ?_) | (with_reducible refine ImpK.mk fun hK => ?_) | (with_reducible refine ImpF.mk fun hF => ?_) | (with_reducible refine ImpQ.mk fun hp => ?_) | (with_reducible refine AllE.mk fun p => ?_) | (with_reducible refine AllR.mk fun rest => ?_) | (with_reducible refine AllK.mk fun K => ?_))))); repeat' (with_reducible refine And.intro ?_ ?_))
  (focus (refine ⟨_, _, Gh.refl, [0], rfl, ?_⟩; (refine fitq ?_ ?_ ?_ <;> try exact trivial); (try any_goals (refine ⟨?_, ?_⟩)); (try any_goals (with_reducible rfl))))
  all_goals (repeat' (first | (refine And.intro ?_ ?_) | rfl))
theorem c_pool {h : List Ch} {K : KT} (H : K (.tup [.ptr h.length 0, .int .i64 0]) (h ++ [.pack (PL idQ dsQ)])) : Does Try.prog 9 [] h K :=
  frame_new b_pool br_nil (.inl rfl) (fun _ => rfl) (by simp [renA, renL, rhoC]) H
abbrev i_pool := Ctr.mk (i := 0) (g := 9) @c_pool
attribute [instance] i_pool
theorem b_ping (n : Int) : DoesK Try.prog 0 10 [.int .i64 n] [] (EndF 0 (.agg [.int .i64 1, .int .i64 n, .int .i64 1, .ro .int [], .ro .byte []]) []) := by
  refine DoesK.close ?_
  refine w_body (rs := [.cell 2 31]) (tm := [.int .i64 n, .any, .any, .any, .any]) fn_10 rfl rfl rfl rfl fun R hR => ?_
  (all_goals (try ((first | (with_reducible refine wp_id ?_) | (with_reducible refine does_id ?_) | (with_reducible refine ops_id ?_)); refine walk ?_; (repeat' (first | exact trivial | with_reducible refine And.intro ?_ ?_)); all_goals (repeat (first | (with_reducible refine ImpB.mk fun hb => ?_) | (with_reducible refine ImpK.mk fun hK => ?_) | (with_reducible refine ImpF.mk fun hF => ?_) | (with_reducible refine ImpQ.mk fun hp => ?_) | (with_reducible refine AllE.mk fun p => ?_) | (with_reducible refine AllR.mk fun rest => ?_) | (with_reducible refine AllK.mk fun K => ?_))))); repeat' (with_reducible refine And.intro ?_ ?_))
  (focus (refine ⟨_, _, Gh.refl, [], rfl, ?_⟩; (refine fitq ?_ ?_ ?_ <;> try exact trivial); (try any_goals (refine ⟨?_, ?_⟩)); (try any_goals (with_reducible rfl))))
  all_goals (repeat' (first | (refine And.intro ?_ ?_) | rfl))
theorem c_ping {h : List Ch} {K : KT} {n : Int} (H : K (.agg [.int .i64 1, .int .i64 n, .int .i64 1, .ro .int [], .ro .byte []]) h) : Does Try.prog 10 [.int .i64 n] h K :=
  frame_pure (b_ping n) (br_cons br_int br_nil) (.inl rfl) (fun _ => rfl) H
abbrev i_ping := Ctr.mk (i := 0) (g := 10) @c_ping
attribute [instance] i_ping
end Go.V

set_option maxRecDepth 100000
set_option maxHeartbeats 8000000
namespace Go.V
open Go.Proofs
attribute [-go_sem] EN PL Wr
theorem c_fNew {h : List Ch} {K : KT} (H : K (.ptr h.length 0) (h ++ [.pack (EN 0 [])])) : Does Try.prog 11 [] h K :=
  c_eNew H
abbrev i_fNew := Ctr.mk (i := 0) (g := 11) @c_fNew
attribute [instance] i_fNew
structure LdS (L : List Prg) (id res : Int) (l : List Stp) (c : Int) (L' : List Prg) : Prop where
  un : ldQ L id res l = (c, L')
structure SrS (now : Int) (L : List Prg) (id n c now' : Int) (L' : List Prg) : Prop where
  un : srQ L id = (c, L')
  at1 : atQ now n = now'
structure SpS (L : List Prg) (id c : Int) (L' : List Prg) : Prop where
  un : spQ L id = (c, L')
structure TkS (now0 n : Int) (L : List Prg) (now : Int) (L' : List Prg) (O : List Cmd) : Prop where
  at1 : atQ now0 n = now
  un : tkL now L = L'
  out : tkO now L = O
structure RnS (L : List Prg) (O : List Int) : Prop where
  un : rnQ L = O
theorem c_fLoad {h : List Ch} {K : KT} {u : Nat} {now : Int} {L L' : List Prg} {id res c : Int} {l : List Stp} {a : AV} (H : K (.int .i64 c) (h.set u (.pack (EN now L')))) (o : hth h u = .pack (EN now L)) (q1 : isRO .stp l a) (e : LdS L id res l c L') (s1 : L.length ≤ 1000000) (s2 : litQ l) (s3 : smQ l) : Does Try.prog 12 [.ptr u 0, .int .i64 id, .int .i64 res, a] h K :=
  c_eLoad (by rw [e.un]; exact H) o q1 s1 s2 s3
abbrev i_fLoad := Ctr.mk (i := 0) (g := 12) @c_fLoad
attribute [instance] i_fLoad
theorem c_fStart {h : List Ch} {K : KT} {u : Nat} {now now' : Int} {L L' : List Prg} {id n c : Int} (H : K (.int .i64 c) (h.set u (.pack (EN now' L')))) (o : hth h u = .pack (EN now L)) (e : SrS now L id n c now' L') (s1 : L.length ≤ 1000000) : Does Try.prog 13 [.ptr u 0, .int .i64 id, .int .i64 n] h K :=
  c_eStart (by rw [e.un, e.at1]; exact H) o s1
abbrev i_fStart := Ctr.mk (i := 0) (g := 13) @c_fStart
attribute [instance] i_fStart
theorem c_fStop {h : List Ch} {K : KT} {u : Nat} {now : Int} {L L' : List Prg} {id c : Int} (H : K (.int .i64 c) (h.set u (.pack (EN now L')))) (o : hth h u = .pack (EN now L)) (e : SpS L id c L') (s1 : L.length ≤ 1000000) : Does Try.prog 17 [.ptr u 0, .int .i64 id] h K :=
  c_eStop (by rw [e.un]; exact H) o s1
abbrev i_fStop := Ctr.mk (i := 0) (g := 17) @c_fStop
attribute [instance] i_fStop
theorem c_fTick {h : List Ch} {K : KT} {u : Nat} {now0 n now : Int} {L L' : List Prg} {O : List Cmd} {a : AV} (H : K (.ro .cmd O) (h.set u (.pack (EN now L')))) (o : hth h u = .pack (EN now0 L)) (e : TkS now0 n L now L' O) (s1 : L.length ≤ 1000000) (s2 : ∀ x ∈ L, okR x) (s3 : 0 ≤ now0 ∧ now0 ≤ 1099511627776) : Does Try.prog 14 [.ptr u 0, .int .i64 n, a] h K :=
  c_eTick (by rw [e.at1, e.un, e.out]; exact H) o s1 s2 s3
abbrev i_fTick := Ctr.mk (i := 0) (g := 14) @c_fTick
attribute [instance] i_fTick
theorem c_fRun {h : List Ch} {K : KT} {u : Nat} {now : Int} {L : List Prg} {O : List Int} (H : K (.ro .int O) h) (o : hth h u = .pack (EN now L)) (e : RnS L O) (s1 : L.length ≤ 1000000) : Does Try.prog 16 [.ptr u 0] h K :=
  c_eRun (by rw [e.un]; exact H) o s1
abbrev i_fRun := Ctr.mk (i := 0) (g := 16) @c_fRun
attribute [instance] i_fRun
def aL : List Stp := [⟨2, 0, 0, 0, 0, 5, ⟨0, 0, 0, [], []⟩⟩, ⟨1, 0, 0, 0, 0, 0, ⟨1, 4, 1, [], []⟩⟩]
def bL : List Stp := [⟨2, 0, 0, 0, 0, 5, ⟨0, 0, 0, [], []⟩⟩, ⟨6, 0, 0, 0, 0, 0, ⟨0, 0, 0, [], []⟩⟩]
theorem smQ_of {l : List Stp} (h1 : l.length ≤ 1000000) (h : l.all (fun x => decide (x.c.args.length ≤ 1000000) && decide (x.c.data.length ≤ 1000000)) = true) : smQ l :=
  ⟨h1, fun x hx => by
    rw [List.all_eq_true] at h
    have := h x hx
    rw [Bool.and_eq_true, decide_eq_true_eq, decide_eq_true_eq] at this
    exact this⟩
theorem litQ_of {l : List Stp} (h : smQ l) : litQ l := fun x hx => by have := (h.2 x hx).1; omega
theorem aL_sm : smQ aL := smQ_of (by decide) (by decide)
theorem bL_sm : smQ bL := smQ_of (by decide) (by decide)
theorem okR_of {x : Prg} (h : (decide (x.steps.length ≤ 1000000) && x.steps.all (fun s => (decide (s.kind = 1) || decide (s.kind = 2) || decide (s.kind = 5) || decide (s.kind = 6)) && decide (0 ≤ s.next) && decide (s.next ≤ x.steps.length) && decide (0 ≤ s.ticks) && decide (s.ticks ≤ 1099511627776) && decide (s.c.args.length ≤ 1000000) && decide (s.c.data.length ≤ 1000000)) && decide (0 ≤ x.pos) && decide (x.pos ≤ x.steps.length)) = true) : okR x := by
  simp only [Bool.and_eq_true, decide_eq_true_eq, List.all_eq_true, Bool.or_eq_true] at h
  obtain ⟨⟨⟨h1, h2⟩, h3⟩, h4⟩ := h
  refine ⟨⟨h1, fun s hs => ?_⟩, h3, h4⟩
  obtain ⟨⟨⟨⟨⟨⟨k, n0⟩, n1⟩, t0⟩, t1⟩, c1⟩, c2⟩ := h2 s hs
  exact ⟨by omega, fun _ => ⟨n0, n1⟩, ⟨t0, t1⟩, c1, c2⟩
abbrev aQ (r : Bool) (p : Int) (w : Bool) (u : Int) : List Prg := [⟨9, 1, aL, r, p, w, u⟩]
theorem aQ_ok (r : Bool) (p : Int) (w : Bool) (u : Int) (h : 0 ≤ p ∧ p ≤ 2) : ∀ x ∈ aQ r p w u, okR x := by
  intro x hx
  rw [List.mem_singleton] at hx
  subst hx
  refine ⟨(okR_of (x := ⟨9, 1, aL, true, 0, true, 0⟩) (by decide +kernel)).1, h.1, h.2⟩
theorem b_alive : DoesK Try.prog 0 8 [] [] (EndF 0 (.bool true) []) := by
  refine DoesK.close ?_
  have hro : RoLit := .mk
  have f1 : LdS [] 9 1 aL 0 (aQ false 0 false 0) := ⟨by decide +kernel⟩
  have f2 : SrS 0 (aQ false 0 false 0) 9 10 0 10 (aQ true 0 false 0) := ⟨by decide +kernel, by decide⟩
  have g1 : TkS 10 11 (aQ true 0 false 0) 11 (aQ true 0 true 16) [] := ⟨by decide, by decide +kernel, by decide +kernel⟩
  have i1 : TkS 11 15 (aQ true 0 true 16) 15 (aQ true 0 true 16) [] := ⟨by decide, by decide +kernel, by decide +kernel⟩
  have j1 : TkS 15 16 (aQ true 0 true 16) 16 (aQ false 2 false 16) [⟨1, 4, 1, [], []⟩] := ⟨by decide, by decide +kernel, by decide +kernel⟩
  have r1 : RnS (aQ true 0 true 16) [9] := ⟨by decide +kernel⟩
  have r2 : RnS (aQ false 2 false 16) [] := ⟨by decide +kernel⟩
  have v1 : vldQ bL = true := by decide +kernel
  have v2 : encQ bL = [4, 2, 10, 6] := by decide +kernel
  refine w_body (rs := [.tmp 0]) (tm := [.any, .any, .any, .any, .any, .any, .any, .any, .any, .any, .any, .any, .any, .any, .any, .any, .any, .any, .any, .any, .any, .any, .any, .any, .any, .any, .any, .any, .any, .any, .any, .any, .any, .any, .any, .any, .any, .any, .any, .any, .any, .any, .any, .any, .any, .any, .any, .any, .any, .any, .any, .any, .any, .any, .any, .any, .any, .any, .any, .any, .any, .any, .any, .any, .any, .any, .any, .any, .any, .any, .any, .any, .any, .any, .any, .any, .any, .any, .any, .any, .any, .any, .any, .any, .any, .any, .any, .any, .any, .any, .any, .any, .any, .any, .any]) fn_8 rfl rfl rfl rfl fun R hR => ?_
  (all_goals (try ((first | (with_reducible refine wp_id ?_) | (with_reducible refine does_id ?_) | (with_reducible refine ops_id ?_)); refine walk ?_; (repeat' (first | exact trivial | with_reducible refine And.intro ?_ ?_)); all_goals (repeat (first | (with_reducible refine ImpB.mk fun hb => ?_) | (with_reducible refine ImpK.mk fun hK => ?_) | (with_reducible refine ImpF.mk fun hF => ?_) | (with_reducible refine ImpQ.mk fun hp => ?_) | (with_reducible refine AllE.mk fun p => ?_) | (with_reducible refine AllR.mk fun rest => ?_) | (with_reducible refine AllK.mk fun K => ?_))))); repeat' (with_reducible refine And.intro ?_ ?_))
  · (focus (refine ⟨_, _, Gh.refl, [], rfl, ?_⟩; (refine fitq ?_ ?_ ?_ <;> try exact trivial); (try any_goals (refine ⟨?_, ?_⟩)); (try any_goals (with_reducible rfl))))
  · exact absurd (hb.symm.trans (decide_eq_true v2)) (by decide)
  · exact Nat.le_refl _
  · exact absurd hb (by decide +kernel)
  · exact litQ_of bL_sm
  · exact aQ_ok true 0 true 16 (by decide)
  · exact aQ_ok true 0 false 0 (by decide)
  · exact litQ_of aL_sm
  · exact aL_sm
theorem c_alive {h : List Ch} {K : KT} (H : K (.bool true) h) : Does Try.prog 8 [] h K :=
  frame_pure b_alive br_nil (.inl rfl) (fun _ => rfl) H
abbrev i_alive := Ctr.mk (i := 0) (g := 8) @c_alive
attribute [instance] i_alive
end Go.V

set_option maxRecDepth 100000
namespace Go.V
open Go Go.Proofs
attribute [-go_sem] EN PL Wr
theorem ofI64 (a : Nat) (ha : a < 18446744073709551616) : (BitVec.ofInt 64 (a : Int)).toNat = a := by
  rw [BitVec.ofInt_natCast, BitVec.toNat_ofNat]; exact Nat.mod_eq_of_lt (by omega)
theorem i64_and_nat (a b : Nat) (ha : a < 65536) (hb : b < 65536) : bitsI .and .i64 (a : Int) (b : Int) = ((a &&& b : Nat) : Int) := by
  have hx : a &&& b ≤ a := Nat.and_le_left
  show IntKind.i64.wrap ((BitVec.ofInt 64 (a : Int) &&& BitVec.ofInt 64 (b : Int)).toNat : Int) = _
  rw [BitVec.toNat_and, ofI64 a (by omega), ofI64 b (by omega), wrap_i64 _ (by omega) (by omega)]
theorem i64_or_nat (a b : Nat) (ha : a < 65536) (hb : b < 65536) : bitsI .or .i64 (a : Int) (b : Int) = ((a ||| b : Nat) : Int) := by
  have hx : a ||| b < 2 ^ 16 := Nat.or_lt_two_pow (by omega) (by omega)
  show IntKind.i64.wrap ((BitVec.ofInt 64 (a : Int) ||| BitVec.ofInt 64 (b : Int)).toNat : Int) = _
  rw [BitVec.toNat_or, ofI64 a (by omega), ofI64 b (by omega), wrap_i64 _ (by omega) (by omega)]
theorem i64_andNot_nat (u k : Nat) (hu : u < 65536) (hk : k < 65536) (h : k &&& u = 0) : bitsI .andNot .i64 ((u ||| k : Nat) : Int) (k : Int) = (u : Int) := by
  have hx : u ||| k < 2 ^ 16 := Nat.or_lt_two_pow (by omega) (by omega)
  show IntKind.i64.wrap ((BitVec.ofInt 64 ((u ||| k : Nat) : Int) &&& ~~~BitVec.ofInt 64 (k : Int)).toNat : Int) = _
  rw [BitVec.toNat_and, BitVec.toNat_not, ofI64 _ (by omega), ofI64 k (by omega)]
  have e : (u ||| k) &&& (2 ^ 64 - 1 - k) = u := by
    apply Nat.eq_of_testBit_eq
    intro i
    have e1 : 2 ^ 64 - 1 - k = 2 ^ 64 - (k + 1) := by omega
    have hb : (k &&& u).testBit i = false := by rw [h]; exact Nat.zero_testBit i
    rw [Nat.testBit_and] at hb
    rw [e1, Nat.testBit_and, Nat.testBit_or, Nat.testBit_two_pow_sub_succ (by omega)]
    by_cases hi : i < 64
    · rw [decide_eq_true hi]
      revert hb
      cases u.testBit i <;> cases k.testBit i <;> simp
    · have : u.testBit i = false := Nat.testBit_lt_two_pow (Nat.lt_of_lt_of_le hu (Nat.le_trans (by decide : 65536 ≤ 2 ^ 64) (Nat.pow_le_pow_right (n := 2) (by decide) (show 64 ≤ i by omega))))
      rw [decide_eq_false hi, this]; simp
  rw [e, wrap_i64 _ (by omega) (by omega)]
theorem and_16 (x : Int) : ∃ n : Nat, n < 65536 ∧ bitsI .and .i64 x 65535 = (n : Int) := by
  have hy : (BitVec.ofInt 64 (65535 : Int)).toNat = 65535 := by decide
  have hx : (BitVec.ofInt 64 x &&& BitVec.ofInt 64 (65535 : Int)).toNat ≤ 65535 := by
    rw [BitVec.toNat_and, hy]
    exact Nat.and_le_right
  refine ⟨_, Nat.lt_succ_of_le hx, ?_⟩
  show IntKind.i64.wrap ((BitVec.ofInt 64 x &&& BitVec.ofInt 64 (65535 : Int)).toNat : Int) = _
  exact wrap_i64 _ (by omega) (by omega)
def orL : List Prg → Nat
  | [] => 0
  | x :: L => if x.run then x.res.toNat ||| orL L else orL L
theorem orL_snoc (x : Prg) : ∀ L, orL (L ++ [x]) = if x.run then orL L ||| x.res.toNat else orL L
  | [] => by
    show (if x.run then x.res.toNat ||| 0 else 0) = if x.run then 0 ||| x.res.toNat else 0
    rw [Nat.or_zero, Nat.zero_or]
  | y :: L => by
    have ih := orL_snoc x L
    show (if y.run then y.res.toNat ||| orL (L ++ [x]) else orL (L ++ [x])) = if x.run then (if y.run then y.res.toNat ||| orL L else orL L) ||| x.res.toNat else (if y.run then y.res.toNat ||| orL L else orL L)
    rw [ih]
    cases y.run <;> cases x.run <;> simp [Nat.or_assoc]
structure InvR (i : Nat) (L : List Prg) (u : Nat) : Prop where
  len : L.length = i
  ids : ∀ x ∈ L, x.id < (i : Int)
  res : ∀ x ∈ L, ∃ n : Nat, n < 65536 ∧ x.res = (n : Int)
  or : orL L = u
theorem orL_lt : ∀ {L : List Prg}, (∀ x ∈ L, ∃ n : Nat, n < 65536 ∧ x.res = (n : Int)) → orL L < 65536
  | [], _ => by decide
  | x :: L, h => by
    have ih := orL_lt (L := L) fun y hy => h y (List.mem_cons_of_mem _ hy)
    obtain ⟨n, hn, e⟩ := h x (List.mem_cons_self ..)
    show (if x.run then x.res.toNat ||| orL L else orL L) < 65536
    split
    · exact Nat.or_lt_two_pow (n := 16) (by rw [e]; simpa using hn) ih
    · exact ih
theorem or_zero_iff (a b : Nat) : a ||| b = 0 ↔ a = 0 ∧ b = 0 := by
  constructor
  · intro h
    have h1 : a ≤ a ||| b := Nat.left_le_or
    have h2 : b ≤ a ||| b := Nat.right_le_or
    omega
  · rintro ⟨rfl, rfl⟩; rfl
theorem bz_iff (k : Nat) (hk : k < 65536) : ∀ {L : List Prg}, (∀ x ∈ L, ∃ n : Nat, n < 65536 ∧ x.res = (n : Int)) → (bzQ L (k : Int) = false ↔ orL L &&& k = 0)
  | [], _ => by simp [bzQ, orL]
  | x :: L, h => by
    have ih := bz_iff k hk (L := L) fun y hy => h y (List.mem_cons_of_mem _ hy)
    obtain ⟨n, hn, e⟩ := h x (List.mem_cons_self ..)
    have e2 : bitsI .and .i64 x.res (k : Int) = ((n &&& k : Nat) : Int) := by rw [e]; exact i64_and_nat n k hn hk
    have e3 : x.res.toNat = n := by rw [e]; rfl
    have eb : bzQ (x :: L) (k : Int) = ((x.run && decide (¬ bitsI .and .i64 x.res (k : Int) = 0)) || bzQ L (k : Int)) := rfl
    have eo : orL (x :: L) = if x.run then x.res.toNat ||| orL L else orL L := rfl
    rw [eb, eo, e2, e3, Bool.or_eq_false_iff, ih]
    by_cases h1 : x.run = true
    · rw [h1, if_pos rfl, Nat.and_or_distrib_right, or_zero_iff, Bool.true_and, decide_eq_false_iff_not]
      constructor
      · rintro ⟨p, q⟩; exact ⟨by omega, q⟩
      · rintro ⟨p, q⟩; exact ⟨by omega, q⟩
    · rw [if_neg h1]
      have : x.run = false := by simpa using h1
      rw [this, Bool.false_and]
      exact ⟨fun q => q.2, fun q => ⟨rfl, q⟩⟩
theorem fn_end {L : List Prg} {i : Int} (h : ∀ x ∈ L, x.id < i) : fnI L i = L.length ∧ fnB L i = false := by
  have e : fnI L i = L.length := tw_at (z := Prg.zero) (Nat.le_refl _) (fun j hj => decide_eq_true (h _ (getM hj))) fun q => absurd q (Nat.lt_irrefl _)
  refine ⟨e, ?_⟩
  unfold fnB
  rw [e, decide_eq_false (Nat.lt_irrefl _), Bool.false_and]
theorem getL {α : Type} {L : List α} {x z : α} : (L ++ [x]).getD L.length z = x := by
  rw [List.getD_eq_getElem?_getD, List.getElem?_append_right (Nat.le_refl _), Nat.sub_self]; rfl
theorem getA {α : Type} {L : List α} {x z : α} {j : Nat} (h : j < L.length) : (L ++ [x]).getD j z = L.getD j z := by
  rw [List.getD_eq_getElem?_getD, List.getElem?_append_left h, List.getD_eq_getElem?_getD]
theorem setL {α : Type} {L : List α} {x y : α} : (L ++ [x]).set L.length y = L ++ [y] := by
  rw [List.set_append_right _ _ (Nat.le_refl _), Nat.sub_self]; rfl
theorem fn_last {L : List Prg} {i : Int} {P : Prg} (h : ∀ x ∈ L, x.id < i) (hp : P.id = i) : fnI (L ++ [P]) i = L.length ∧ fnB (L ++ [P]) i = true ∧ atP (L ++ [P]) i = P := by
  have e : fnI (L ++ [P]) i = L.length := tw_at (z := Prg.zero) (by rw [List.length_append]; exact Nat.le_add_right _ _) (fun j hj => by rw [getA hj]; exact decide_eq_true (h _ (getM hj))) fun _ => by rw [getL]; exact decide_eq_false (by omega)
  refine ⟨e, ?_, ?_⟩
  · unfold fnB
    rw [e, getL, decide_eq_true hp, Bool.and_true]
    exact decide_eq_true (by rw [List.length_append, List.length_cons, List.length_nil]; exact Nat.lt_succ_self _)
  · rw [atP, e, getL]
def wL : List Stp := [⟨2, 0, 0, 0, 0, 1000, ⟨0, 0, 0, [], []⟩⟩]
theorem wL_ok : vldQ wL = true := by decide
theorem wL_sm : smQ wL := smQ_of (by decide) (by decide)
abbrev pR (i : Nat) (k : Nat) (r : Bool) : Prg := ⟨i, k, wL, r, 0, false, 0⟩
theorem ld_ok {i : Nat} {L : List Prg} {u k : Nat} (H : InvR i L u) (hi : i < 256) (hk : k < 65536) : LdS L (i : Int) (k : Int) wL 0 (L ++ [pR i k false]) := by
  obtain ⟨h1, h2⟩ := fn_end H.ids
  have hl := H.len
  refine ⟨?_⟩
  unfold ldQ
  rw [if_neg (by omega), wL_ok, if_neg (by decide), h2, if_neg (by decide), if_neg (by omega), h1, List.take_length, List.drop_length]
theorem bz_snoc {L : List Prg} {P : Prg} {r : Int} (h : P.run = false) : bzQ (L ++ [P]) r = bzQ L r := by
  unfold bzQ
  rw [List.any_append, List.any_cons, List.any_nil, h, Bool.false_and, Bool.or_false, Bool.or_false]
theorem sr_yes {i : Nat} {L : List Prg} {u k : Nat} (H : InvR i L u) (hk : k < 65536) (h : k &&& u = 0) : SrS 0 (L ++ [pR i k false]) (i : Int) 0 0 0 (L ++ [pR i k true]) := by
  obtain ⟨h1, h2, h3⟩ := fn_last (P := pR i k false) H.ids rfl
  have hb : bzQ (L ++ [pR i k false]) (k : Int) = false := by
    rw [bz_snoc rfl, bz_iff k hk H.res, H.or, Nat.and_comm]; exact h
  refine ⟨?_, by decide⟩
  unfold srQ
  rw [h2, if_pos rfl, h3, if_neg Bool.false_ne_true, hb, if_neg (by decide), h1, setL]
theorem sr_no {i : Nat} {L : List Prg} {u k : Nat} (H : InvR i L u) (hk : k < 65536) (h : ¬ k &&& u = 0) : SrS 0 (L ++ [pR i k false]) (i : Int) 0 15 0 (L ++ [pR i k false]) := by
  obtain ⟨h1, h2, h3⟩ := fn_last (P := pR i k false) H.ids rfl
  have hb : bzQ (L ++ [pR i k false]) (k : Int) = true := by
    rw [bz_snoc rfl, ← Bool.not_eq_false, bz_iff k hk H.res, H.or, Nat.and_comm]; exact h
  refine ⟨?_, by decide⟩
  unfold srQ
  rw [h2, if_pos rfl, h3, if_neg Bool.false_ne_true, hb, if_pos rfl]
theorem sp_ok {i : Nat} {L : List Prg} {u k : Nat} (H : InvR i L u) : SpS (L ++ [pR i k true]) (i : Int) 0 (L ++ [pR i k false]) := by
  obtain ⟨h1, h2, h3⟩ := fn_last (P := pR i k true) H.ids rfl
  refine ⟨?_⟩
  unfold spQ
  rw [h2, if_pos rfl, h3, if_pos rfl, h1, setL]
theorem inv_no {i : Nat} {L : List Prg} {u k : Nat} (H : InvR i L u) (hk : k < 65536) : InvR (i + 1) (L ++ [pR i k false]) u := by
  refine ⟨by rw [List.length_append, H.len]; rfl, fun x hx => ?_, fun x hx => ?_, ?_⟩
  · rcases List.mem_append.1 hx with hx | hx
    · have := H.ids x hx; omega
    · rw [List.mem_singleton] at hx; subst hx; show (i : Int) < ((i + 1 : Nat) : Int); omega
  · rcases List.mem_append.1 hx with hx | hx
    · exact H.res x hx
    · rw [List.mem_singleton] at hx; subst hx; exact ⟨k, hk, rfl⟩
  · rw [orL_snoc, if_neg Bool.false_ne_true, H.or]
theorem inv_yes {i : Nat} {L : List Prg} {u k : Nat} (H : InvR i L u) (hk : k < 65536) : InvR (i + 1) (L ++ [pR i k true]) (u ||| k) := by
  refine ⟨by rw [List.length_append, H.len]; rfl, fun x hx => ?_, fun x hx => ?_, ?_⟩
  · rcases List.mem_append.1 hx with hx | hx
    · have := H.ids x hx; omega
    · rw [List.mem_singleton] at hx; subst hx; show (i : Int) < ((i + 1 : Nat) : Int); omega
  · rcases List.mem_append.1 hx with hx | hx
    · exact H.res x hx
    · rw [List.mem_singleton] at hx; subst hx; exact ⟨k, hk, rfl⟩
  · rw [orL_snoc, if_pos rfl, H.or]; rfl
end Go.V
