/-
  ref43: one, Encode.
  sequence: read, Decode.
-/
import Derived.Test.YtpnfoffggcfhfaaPart21
set_option linter.unusedVariables false
set_option linter.unusedSimpArgs false
set_option maxRecDepth 100000
set_option maxHeartbeats 8000000
namespace Go.V
open Go.Proofs
theorem b_one (x : Stp) (n : Int) (hn : n ≤ 256) (hvk : vldS x n = true) : DoesK Try.prog 0 43 [.agg (stpL x)] [] (EndF 0 (.sl 0 .byte 0 (encS x).length) [.rows .byte (encS x)]) := by
  refine DoesK.close ?_
  obtain ⟨⟨-, ht, hkk⟩, hv⟩ := vldS_iff.1 hvk
  unfold plS cpS nxS at hkk
  have hk0 : 0 ≤ x.kind ∧ x.kind < 256 := by omega
  have w1 : IntKind.u8.wrap x.kind = ((x.kind.toNat : Nat) : Int) := by rw [wrap_u8]; omega
  have hb1 : be x.kind.toNat 1 = [UInt8.ofNat x.kind.toNat] := by
    show [UInt8.ofNat (x.kind.toNat / 256 ^ 0 % 256)] = _
    rw [show x.kind.toNat / 256 ^ 0 % 256 = x.kind.toNat from by omega]
  by_cases k1 : x.kind = 1
  · have d1 : decide (x.kind = 1) = true := decide_eq_true k1
    have d3 : decide (x.kind = 3) = false := decide_eq_false (by omega)
    have d5 : decide (x.kind = 5) = false := decide_eq_false (by omega)
    have hvv := hv k1
    have hcl := encC_len hvv
    have hcl2 : (encC ⟨x.c.src, x.c.num, x.c.srv, x.c.args, x.c.data⟩).length ≤ 600 := hcl
    have he4 := encI_le (encC x.c).length (by constructor <;> omega)
    have htk : (encI (encC x.c).length ++ encC x.c).take ((encI (encC x.c).length).length + (encC x.c).length) = encI (encC x.c).length ++ encC x.c := List.take_of_length_le (by rw [List.length_append]; exact Nat.le_refl _)
    have hE : encS x = [UInt8.ofNat x.kind.toNat] ++ (encI (encC x.c).length ++ encC x.c) := by rw [encS, if_pos k1, hb1]
    rw [hE]
    refine w_body (rs := [.tmp 2]) (tm := [.agg (stpL x), .any, .any, .any, .any, .any, .any, .any, .any, .any, .any, .any, .any, .any, .any, .any, .any, .any, .any, .any, .any, .any, .any, .any, .any, .any, .any, .any, .any, .any, .any, .any, .any, .any, .any, .any, .any, .any, .any, .any, .any, .any, .any, .any, .any, .any, .any, .any, .any, .any, .any, .any, .any, .any, .any, .any, .any, .any]) fn_43 rfl rfl rfl rfl fun R hR => ?_
    clear hkk ht hv hvk
    (have zx1 := @w1; have zx2 := @d1; have zx3 := @d3; have zx4 := @d5; have zx5 := @hvv; have zx6 := @htk; all_goals (try ((first | (with_reducible refine wp_id ?_) | (with_reducible refine does_id ?_) | (with_reducible refine ops_id ?_)); refine walk ?_; (repeat' (first | exact trivial | with_reducible refine And.intro ?_ ?_)); all_goals (repeat (first | (with_reducible refine ImpB.mk fun hb => ?_) | (with_reducible refine ImpK.mk fun hK => ?_) | (with_reducible refine ImpF.mk fun hF => ?_) | (with_reducible refine ImpQ.mk fun hp => ?_) | (with_reducible refine AllE.mk fun p => ?_) | (with_reducible refine AllR.mk fun rest => ?_) | (with_reducible refine AllK.mk fun K => ?_))))); repeat' (with_reducible refine And.intro ?_ ?_))
    all_goals first | (with_reducible exact Nat.le_refl _) | (show _ ≤ (_ : Nat); omega) | (show _ < (_ : Int); omega) | (show _ ≤ (_ : Int); omega) | (show (_ : Nat) = _; omega) | skip
    (focus (refine ⟨_, _, Gh.refl, [4], rfl, ?_⟩; (refine fitq ?_ ?_ ?_ <;> try exact trivial); (try any_goals (refine ⟨?_, ?_⟩)); (try any_goals (with_reducible rfl))))
    all_goals (repeat' (first | (refine And.intro ?_ ?_) | (with_reducible rfl) | (simp only [List.append_assoc, List.cons_append, List.nil_append]; done) | (simp only [List.length_append, List.length_cons, List.length_nil]; omega) | omega))
  have d1 : decide (x.kind = 1) = false := decide_eq_false k1
  by_cases k2 : x.kind = 2
  · have d2 : decide (x.kind = 2) = true := decide_eq_true k2
    have d3 : decide (x.kind = 3) = false := decide_eq_false (by omega)
    have d5 : decide (x.kind = 5) = false := decide_eq_false (by omega)
    have hI2 : I64 x.ticks := by constructor <;> omega
    have he4 := encI_le _ hI2
    have hE : encS x = [UInt8.ofNat x.kind.toNat] ++ encI x.ticks := by rw [encS, if_neg k1, if_pos k2, hb1]
    rw [hE]
    refine w_body (rs := [.tmp 2]) (tm := [.agg (stpL x), .any, .any, .any, .any, .any, .any, .any, .any, .any, .any, .any, .any, .any, .any, .any, .any, .any, .any, .any, .any, .any, .any, .any, .any, .any, .any, .any, .any, .any, .any, .any, .any, .any, .any, .any, .any, .any, .any, .any, .any, .any, .any, .any, .any, .any, .any, .any, .any, .any, .any, .any, .any, .any, .any, .any, .any, .any]) fn_43 rfl rfl rfl rfl fun R hR => ?_
    clear hkk ht hv hvk
    (have zx1 := @w1; have zx2 := @d1; have zx3 := @d2; have zx4 := @d3; have zx5 := @d5; all_goals (try ((first | (with_reducible refine wp_id ?_) | (with_reducible refine does_id ?_) | (with_reducible refine ops_id ?_)); refine walk ?_; (repeat' (first | exact trivial | with_reducible refine And.intro ?_ ?_)); all_goals (repeat (first | (with_reducible refine ImpB.mk fun hb => ?_) | (with_reducible refine ImpK.mk fun hK => ?_) | (with_reducible refine ImpF.mk fun hF => ?_) | (with_reducible refine ImpQ.mk fun hp => ?_) | (with_reducible refine AllE.mk fun p => ?_) | (with_reducible refine AllR.mk fun rest => ?_) | (with_reducible refine AllK.mk fun K => ?_))))); repeat' (with_reducible refine And.intro ?_ ?_))
    all_goals first | (with_reducible exact Nat.le_refl _) | (show _ ≤ (_ : Nat); omega) | (show _ < (_ : Int); omega) | (show _ ≤ (_ : Int); omega) | (show (_ : Nat) = _; omega) | skip
    (focus (refine ⟨_, _, Gh.refl, [3], rfl, ?_⟩; (refine fitq ?_ ?_ ?_ <;> try exact trivial); (try any_goals (refine ⟨?_, ?_⟩)); (try any_goals (with_reducible rfl))))
    all_goals (repeat' (first | (refine And.intro ?_ ?_) | (with_reducible rfl) | (simp only [List.append_assoc, List.cons_append, List.nil_append]; done) | (simp only [List.length_append, List.length_cons, List.length_nil]; omega) | omega))
  have d2 : decide (x.kind = 2) = false := decide_eq_false k2
  have hb2 : 0 ≤ x.op → x.op < 256 → be x.op.toNat 1 = [UInt8.ofNat x.op.toNat] := fun _ _ => by
    show [UInt8.ofNat (x.op.toNat / 256 ^ 0 % 256)] = _
    rw [show x.op.toNat / 256 ^ 0 % 256 = x.op.toNat from by omega]
  by_cases k3 : x.kind = 3
  · have d3 : decide (x.kind = 3) = true := decide_eq_true k3
    have hI1 : I64 x.param := by constructor <;> omega
    have hI2 : I64 x.value := by constructor <;> omega
    have hI3 : I64 x.next := by constructor <;> omega
    have hl1 := encI_le _ hI1
    have hl2 := encI_le _ hI2
    have hl3 := encI_le _ hI3
    have hop : 0 ≤ x.op ∧ x.op < 256 := by omega
    have w2 : IntKind.u8.wrap x.op = ((x.op.toNat : Nat) : Int) := by rw [wrap_u8]; omega
    have hE : encS x = [UInt8.ofNat x.kind.toNat] ++ (encI x.param ++ [UInt8.ofNat x.op.toNat] ++ encI x.value ++ encI x.next) := by rw [encS, if_neg k1, if_neg k2, if_pos k3, hb1, hb2 (by omega) (by omega)]
    rw [hE]
    refine w_body (rs := [.tmp 2]) (tm := [.agg (stpL x), .any, .any, .any, .any, .any, .any, .any, .any, .any, .any, .any, .any, .any, .any, .any, .any, .any, .any, .any, .any, .any, .any, .any, .any, .any, .any, .any, .any, .any, .any, .any, .any, .any, .any, .any, .any, .any, .any, .any, .any, .any, .any, .any, .any, .any, .any, .any, .any, .any, .any, .any, .any, .any, .any, .any, .any, .any]) fn_43 rfl rfl rfl rfl fun R hR => ?_
    clear hkk ht hv hvk
    (have zx1 := @w1; have zx2 := @d1; have zx3 := @d2; have zx4 := @d3; have zx5 := @w2; all_goals (try ((first | (with_reducible refine wp_id ?_) | (with_reducible refine does_id ?_) | (with_reducible refine ops_id ?_)); refine walk ?_; (repeat' (first | exact trivial | with_reducible refine And.intro ?_ ?_)); all_goals (repeat (first | (with_reducible refine ImpB.mk fun hb => ?_) | (with_reducible refine ImpK.mk fun hK => ?_) | (with_reducible refine ImpF.mk fun hF => ?_) | (with_reducible refine ImpQ.mk fun hp => ?_) | (with_reducible refine AllE.mk fun p => ?_) | (with_reducible refine AllR.mk fun rest => ?_) | (with_reducible refine AllK.mk fun K => ?_))))); repeat' (with_reducible refine And.intro ?_ ?_))
    all_goals first | (with_reducible exact Nat.le_refl _) | (show _ ≤ (_ : Nat); omega) | (show _ < (_ : Int); omega) | (show _ ≤ (_ : Int); omega) | (show (_ : Nat) = _; omega) | skip
    (focus (refine ⟨_, _, Gh.refl, [9], rfl, ?_⟩; (refine fitq ?_ ?_ ?_ <;> try exact trivial); (try any_goals (refine ⟨?_, ?_⟩)); (try any_goals (with_reducible rfl))))
    all_goals (repeat' (first | (refine And.intro ?_ ?_) | (with_reducible rfl) | (simp only [List.append_assoc, List.cons_append, List.nil_append]; done) | (simp only [List.length_append, List.length_cons, List.length_nil]; omega) | omega))
  have d3 : decide (x.kind = 3) = false := decide_eq_false k3
  by_cases k4 : x.kind = 4
  · have d4 : decide (x.kind = 4) = true := decide_eq_true k4
    have d5 : decide (x.kind = 5) = false := decide_eq_false (by omega)
    have hI1 : I64 x.param := by constructor <;> omega
    have hI2 : I64 x.value := by constructor <;> omega
    have hl1 := encI_le _ hI1
    have hl2 := encI_le _ hI2
    have hop : 0 ≤ x.op ∧ x.op < 256 := by omega
    have w2 : IntKind.u8.wrap x.op = ((x.op.toNat : Nat) : Int) := by rw [wrap_u8]; omega
    have hE : encS x = [UInt8.ofNat x.kind.toNat] ++ (encI x.param ++ [UInt8.ofNat x.op.toNat] ++ encI x.value) := by rw [encS, if_neg k1, if_neg k2, if_neg k3, if_pos k4, hb1, hb2 (by omega) (by omega)]
    rw [hE]
    refine w_body (rs := [.tmp 2]) (tm := [.agg (stpL x), .any, .any, .any, .any, .any, .any, .any, .any, .any, .any, .any, .any, .any, .any, .any, .any, .any, .any, .any, .any, .any, .any, .any, .any, .any, .any, .any, .any, .any, .any, .any, .any, .any, .any, .any, .any, .any, .any, .any, .any, .any, .any, .any, .any, .any, .any, .any, .any, .any, .any, .any, .any, .any, .any, .any, .any, .any]) fn_43 rfl rfl rfl rfl fun R hR => ?_
    clear hkk ht hv hvk
    (have zx1 := @w1; have zx2 := @d1; have zx3 := @d2; have zx4 := @d3; have zx5 := @d4; have zx6 := @d5; have zx7 := @w2; all_goals (try ((first | (with_reducible refine wp_id ?_) | (with_reducible refine does_id ?_) | (with_reducible refine ops_id ?_)); refine walk ?_; (repeat' (first | exact trivial | with_reducible refine And.intro ?_ ?_)); all_goals (repeat (first | (with_reducible refine ImpB.mk fun hb => ?_) | (with_reducible refine ImpK.mk fun hK => ?_) | (with_reducible refine ImpF.mk fun hF => ?_) | (with_reducible refine ImpQ.mk fun hp => ?_) | (with_reducible refine AllE.mk fun p => ?_) | (with_reducible refine AllR.mk fun rest => ?_) | (with_reducible refine AllK.mk fun K => ?_))))); repeat' (with_reducible refine And.intro ?_ ?_))
    all_goals first | (with_reducible exact Nat.le_refl _) | (show _ ≤ (_ : Nat); omega) | (show _ < (_ : Int); omega) | (show _ ≤ (_ : Int); omega) | (show (_ : Nat) = _; omega) | skip
    (focus (refine ⟨_, _, Gh.refl, [7], rfl, ?_⟩; (refine fitq ?_ ?_ ?_ <;> try exact trivial); (try any_goals (refine ⟨?_, ?_⟩)); (try any_goals (with_reducible rfl))))
    all_goals (repeat' (first | (refine And.intro ?_ ?_) | (with_reducible rfl) | (simp only [List.append_assoc, List.cons_append, List.nil_append]; done) | (simp only [List.length_append, List.length_cons, List.length_nil]; omega) | omega))
  have d4 : decide (x.kind = 4) = false := decide_eq_false k4
  by_cases k5 : x.kind = 5
  · have d5 : decide (x.kind = 5) = true := decide_eq_true k5
    have hI3 : I64 x.next := by constructor <;> omega
    have hl3 := encI_le _ hI3
    have hE : encS x = [UInt8.ofNat x.kind.toNat] ++ encI x.next := by rw [encS, if_neg k1, if_neg k2, if_neg k3, if_neg k4, if_pos k5, hb1]
    rw [hE]
    refine w_body (rs := [.tmp 2]) (tm := [.agg (stpL x), .any, .any, .any, .any, .any, .any, .any, .any, .any, .any, .any, .any, .any, .any, .any, .any, .any, .any, .any, .any, .any, .any, .any, .any, .any, .any, .any, .any, .any, .any, .any, .any, .any, .any, .any, .any, .any, .any, .any, .any, .any, .any, .any, .any, .any, .any, .any, .any, .any, .any, .any, .any, .any, .any, .any, .any, .any]) fn_43 rfl rfl rfl rfl fun R hR => ?_
    clear hkk ht hv hvk
    (have zx1 := @w1; have zx2 := @d1; have zx3 := @d2; have zx4 := @d3; have zx5 := @d4; have zx6 := @d5; all_goals (try ((first | (with_reducible refine wp_id ?_) | (with_reducible refine does_id ?_) | (with_reducible refine ops_id ?_)); refine walk ?_; (repeat' (first | exact trivial | with_reducible refine And.intro ?_ ?_)); all_goals (repeat (first | (with_reducible refine ImpB.mk fun hb => ?_) | (with_reducible refine ImpK.mk fun hK => ?_) | (with_reducible refine ImpF.mk fun hF => ?_) | (with_reducible refine ImpQ.mk fun hp => ?_) | (with_reducible refine AllE.mk fun p => ?_) | (with_reducible refine AllR.mk fun rest => ?_) | (with_reducible refine AllK.mk fun K => ?_))))); repeat' (with_reducible refine And.intro ?_ ?_))
    all_goals first | (with_reducible exact Nat.le_refl _) | (show _ ≤ (_ : Nat); omega) | (show _ < (_ : Int); omega) | (show _ ≤ (_ : Int); omega) | (show (_ : Nat) = _; omega) | skip
    (focus (refine ⟨_, _, Gh.refl, [3], rfl, ?_⟩; (refine fitq ?_ ?_ ?_ <;> try exact trivial); (try any_goals (refine ⟨?_, ?_⟩)); (try any_goals (with_reducible rfl))))
    all_goals (repeat' (first | (refine And.intro ?_ ?_) | (with_reducible rfl) | (simp only [List.append_assoc, List.cons_append, List.nil_append]; done) | (simp only [List.length_append, List.length_cons, List.length_nil]; omega) | omega))
  · have d5 : decide (x.kind = 5) = false := decide_eq_false k5
    have hE : encS x = [UInt8.ofNat x.kind.toNat] := by rw [encS, if_neg k1, if_neg k2, if_neg k3, if_neg k4, if_neg k5, hb1, List.append_nil]
    rw [hE]
    refine w_body (rs := [.tmp 2]) (tm := [.agg (stpL x), .any, .any, .any, .any, .any, .any, .any, .any, .any, .any, .any, .any, .any, .any, .any, .any, .any, .any, .any, .any, .any, .any, .any, .any, .any, .any, .any, .any, .any, .any, .any, .any, .any, .any, .any, .any, .any, .any, .any, .any, .any, .any, .any, .any, .any, .any, .any, .any, .any, .any, .any, .any, .any, .any, .any, .any, .any]) fn_43 rfl rfl rfl rfl fun R hR => ?_
    clear hkk ht hv hvk
    (have zx1 := @w1; have zx2 := @d1; have zx3 := @d2; have zx4 := @d3; have zx5 := @d4; have zx6 := @d5; all_goals (try ((first | (with_reducible refine wp_id ?_) | (with_reducible refine does_id ?_) | (with_reducible refine ops_id ?_)); refine walk ?_; (repeat' (first | exact trivial | with_reducible refine And.intro ?_ ?_)); all_goals (repeat (first | (with_reducible refine ImpB.mk fun hb => ?_) | (with_reducible refine ImpK.mk fun hK => ?_) | (with_reducible refine ImpF.mk fun hF => ?_) | (with_reducible refine ImpQ.mk fun hp => ?_) | (with_reducible refine AllE.mk fun p => ?_) | (with_reducible refine AllR.mk fun rest => ?_) | (with_reducible refine AllK.mk fun K => ?_))))); repeat' (with_reducible refine And.intro ?_ ?_))
    all_goals first | (with_reducible exact Nat.le_refl _) | (show _ ≤ (_ : Nat); omega) | (show _ < (_ : Int); omega) | (show _ ≤ (_ : Int); omega) | (show (_ : Nat) = _; omega) | skip
    (focus (refine ⟨_, _, Gh.refl, [1], rfl, ?_⟩; (refine fitq ?_ ?_ ?_ <;> try exact trivial); (try any_goals (refine ⟨?_, ?_⟩)); (try any_goals (with_reducible rfl))))
    all_goals (repeat' (first | (refine And.intro ?_ ?_) | (with_reducible rfl) | (simp only [List.append_assoc, List.cons_append, List.nil_append]; done) | (simp only [List.length_append, List.length_cons, List.length_nil]; omega) | omega))
theorem c_one {h : List Ch} {K : KT} {x : Stp} {n : Int} (H : K (.sl h.length .byte 0 (encS x).length) (h ++ [.rows .byte (encS x)])) (e1 : vldS x n = true) (s1 : n ≤ 256) : Does Try.prog 43 [.agg [.int .i64 x.kind, .int .i64 x.param, .int .i64 x.op, .int .i64 x.value, .int .i64 x.next, .int .i64 x.ticks, .int .i64 x.c.src, .int .i64 x.c.num, .int .i64 x.c.srv, .ro .int x.c.args, .ro .byte x.c.data]] h K :=
  frame_new (ret' := .sl h.length .byte 0 (encS x).length) (b_one x n s1 e1) (br_cons (br_stp x) br_nil) (.inr rfl) (fun _ => rfl) rfl H
abbrev i_one := Ctr.mk (i := 0) (g := 43) @c_one
attribute [instance] i_one
theorem b_rencF (l : List Stp) (hl : l.length ≤ 9223372036854775807) (ha : litQ l) (hc : vldQ l = false) : DoesK Try.prog 0 21 [.ro .stp l] [] (EndF 0 (.tup [.lit (.slice none 0 0), .int .i64 1]) []) := by
  refine DoesK.close ?_
  refine w_body (rs := [.tmp 2, .tmp 3]) (tm := [.ro .stp l, .any, .any, .any, .any, .any, .any, .any, .any, .any, .any, .any, .any, .any, .any, .any, .any, .any, .any, .any, .any, .any, .any, .any, .any, .any]) fn_21 rfl rfl rfl rfl fun R hR => ?_
  (have zx1 := @hc; all_goals (try ((first | (with_reducible refine wp_id ?_) | (with_reducible refine does_id ?_) | (with_reducible refine ops_id ?_)); refine walk ?_; (repeat' (first | exact trivial | with_reducible refine And.intro ?_ ?_)); all_goals (repeat (first | (with_reducible refine ImpB.mk fun hb => ?_) | (with_reducible refine ImpK.mk fun hK => ?_) | (with_reducible refine ImpF.mk fun hF => ?_) | (with_reducible refine ImpQ.mk fun hp => ?_) | (with_reducible refine AllE.mk fun p => ?_) | (with_reducible refine AllR.mk fun rest => ?_) | (with_reducible refine AllK.mk fun K => ?_))))); repeat' (with_reducible refine And.intro ?_ ?_))
  (focus (refine ⟨_, _, Gh.refl, [], rfl, ?_⟩; (refine fitq ?_ ?_ ?_ <;> try exact trivial); (try any_goals (refine ⟨?_, ?_⟩)); (try any_goals (with_reducible rfl))))
theorem b_rencT (l : List Stp) (ha : litQ l) (hc : vldQ l = true) : DoesK Try.prog 0 21 [.ro .stp l] [] (EndF 0 (.tup [.sl 0 .byte 0 (encQ l).length, .int .i64 0]) [.rows .byte (encQ l)]) := by
  refine DoesK.close ?_
  obtain ⟨⟨hl1, hl2⟩, hall⟩ := vldQ_iff.1 hc
  have hl : l.length ≤ 9223372036854775807 := by omega
  have hI : I64 (l.length : Int) := by constructor <;> omega
  have h9 := encI_le l.length hI
  have hlen : ∀ k, ((l.take k).flatMap encS).length ≤ 180000 := fun k => by
    have h4 := encSs_len (n := (l.length : Int)) (by omega) (l := l.take k) fun x hx => hall x (List.mem_of_mem_take hx)
    have h5 : (l.take k).length ≤ l.length := by rw [List.length_take]; omega
    omega
  refine w_body (rs := [.tmp 2, .tmp 3]) (tm := [.ro .stp l, .any, .any, .any, .any, .any, .any, .any, .any, .any, .any, .any, .any, .any, .any, .any, .any, .any, .any, .any, .any, .any, .any, .any, .any, .any]) fn_21 rfl rfl rfl rfl fun R hR => ?_
  (have zx1 := @hc; all_goals (try ((first | (with_reducible refine wp_id ?_) | (with_reducible refine does_id ?_) | (with_reducible refine ops_id ?_)); refine walk ?_; (repeat' (first | exact trivial | with_reducible refine And.intro ?_ ?_)); all_goals (repeat (first | (with_reducible refine ImpB.mk fun hb => ?_) | (with_reducible refine ImpK.mk fun hK => ?_) | (with_reducible refine ImpF.mk fun hF => ?_) | (with_reducible refine ImpQ.mk fun hp => ?_) | (with_reducible refine AllE.mk fun p => ?_) | (with_reducible refine AllR.mk fun rest => ?_) | (with_reducible refine AllK.mk fun K => ?_))))); repeat' (with_reducible refine And.intro ?_ ?_))
  any_goals ((try (refine w_seq fun K hK => ?_)); (try (refine w_block ?_)); refine w_loop (A := Nat) (fun k => k ≤ l.length) (fun k => l.length - k) (fun k => [(5, .int .i64 k), (11, .any), (4, .sl 0 .byte 0 (encI l.length ++ (l.take k).flatMap encS).length)]) (fun k => [(0, .rows .byte (encI l.length ++ (l.take k).flatMap encS))]) (0) (ws := ?ws1) (tk := ?tk1) ?hw1 ?ht1 ?hi ?h0 ?LH1; (case hw1 => simp only [go_sem, decide_true, decide_false, Int.reduceToNat, Nat.min_eq_left, Nat.min_eq_right, Int.reducePow, Nat.reducePow, Int.reduceLE, Int.reduceLT, Int.reduceMul, Int.reduceAdd, Int.reduceSub, Int.reduceNeg, Bool.not_true, Bool.not_false, Bool.not_not, ↓reduceIte, Nat.reduceAdd, Nat.reduceSub, Nat.reduceMul, Nat.reduceEqDiff, reduceCtorEq, Nat.reduceLT, Nat.reduceLeDiff, Nat.reduceGT]; exact rfl); (case ht1 => simp only [go_sem, decide_true, decide_false, Int.reduceToNat, Nat.min_eq_left, Nat.min_eq_right, Int.reducePow, Nat.reducePow, Int.reduceLE, Int.reduceLT, Int.reduceMul, Int.reduceAdd, Int.reduceSub, Int.reduceNeg, Bool.not_true, Bool.not_false, Bool.not_not, ↓reduceIte, Nat.reduceAdd, Nat.reduceSub, Nat.reduceMul, Nat.reduceEqDiff, reduceCtorEq, Nat.reduceLT, Nat.reduceLeDiff, Nat.reduceGT]; exact rfl); (case' LH1 => rintro k E t hx hE ht; simp only [go_sem] at ht; subst ht; simp only [go_sem]; try dsimp only at hx))
  case hi => exact Nat.zero_le _
  case h0 => (focus (refine ⟨_, _, Gh.refl, [0], rfl, ?_⟩; (refine fitq ?_ ?_ ?_ <;> try exact trivial); (try any_goals (refine ⟨?_, ?_⟩)); (try any_goals (with_reducible rfl)))); (all_goals (repeat' (first | (refine And.intro ?_ ?_) | rfl | (simp; done))))
  case LH1 =>
    have hk0 : k ≤ l.length := hx
    have hlk := hlen k
    have hw : IntKind.i64.wrap ((k : Int) + 1) = ((k + 1 : Nat) : Int) := by rw [wrap_i64 _ (by omega) (by omega)]; omega
    by_cases hk : k < l.length
    · have hkd : decide ((k : Int) < l.length) = true := decide_eq_true (by omega)
      have hvk := vldQ_at hc hk
      have htk : encI l.length ++ (l.take (k + 1)).flatMap encS = (encI l.length ++ (l.take k).flatMap encS) ++ encS (l.getD k Stp.zero) := by rw [stp_take hk, List.flatMap_append, List.flatMap_singleton, List.append_assoc]
      obtain ⟨P, hP⟩ : ∃ P, encI l.length ++ (l.take k).flatMap encS = P := ⟨_, rfl⟩
      have hPq : (encI l.length).length + ((l.take k).flatMap encS).length = P.length := by rw [← hP, List.length_append]
      have hPl : P.length ≤ 180010 := by rw [← hP, List.length_append]; omega
      rw [hP] at htk ⊢
      obtain ⟨x, hxe⟩ : ∃ x, l.getD k Stp.zero = x := ⟨_, rfl⟩
      rw [hxe] at hvk htk
      have hn2 : (l.length : Int) ≤ 256 := by omega
      have hel := encS_len hn2 hvk
      (have zx1 := @hkd; have zx2 := @hxe; have zx3 := @hw; all_goals (try ((first | (with_reducible refine wp_id ?_) | (with_reducible refine does_id ?_) | (with_reducible refine ops_id ?_)); refine walk ?_; (repeat' (first | exact trivial | with_reducible refine And.intro ?_ ?_)); all_goals (repeat (first | (with_reducible refine ImpB.mk fun hb => ?_) | (with_reducible refine ImpK.mk fun hK => ?_) | (with_reducible refine ImpF.mk fun hF => ?_) | (with_reducible refine ImpQ.mk fun hp => ?_) | (with_reducible refine AllE.mk fun p => ?_) | (with_reducible refine AllR.mk fun rest => ?_) | (with_reducible refine AllK.mk fun K => ?_))))); repeat' (with_reducible refine And.intro ?_ ?_))
      all_goals first | (with_reducible exact Nat.le_refl _) | (show _ ≤ (_ : Nat); omega) | (show _ < (_ : Int); omega) | (show _ ≤ (_ : Int); omega) | (show (_ : Nat) = _; omega) | skip
      refine ⟨k + 1, ⟨by first | omega | (dsimp only; omega), by first | omega | (dsimp only; omega)⟩, ?_⟩
      dsimp only
      rw [htk]
      (focus (refine ⟨_, _, Gh.refl, [2], rfl, ?_⟩; (refine fitq ?_ ?_ ?_ <;> try exact trivial); (try any_goals (refine ⟨?_, ?_⟩)); (try any_goals (with_reducible rfl))))
      all_goals (repeat' (first | (refine And.intro ?_ ?_) | (with_reducible rfl) | (simp only [List.length_append]; done)))
    · have hkd : decide ((k : Int) < l.length) = false := decide_eq_false (by omega)
      have hk2 : l.take k = l := List.take_of_length_le (by omega)
      rw [hk2] at hlk ⊢
      have hQ : encI l.length ++ l.flatMap encS = encQ l := rfl
      have hQl : (encI l.length).length + (l.flatMap encS).length = (encQ l).length := by rw [← hQ, List.length_append]
      rw [hQ]
      (have zx1 := @hkd; all_goals (try ((first | (with_reducible refine wp_id ?_) | (with_reducible refine does_id ?_) | (with_reducible refine ops_id ?_)); refine walk ?_; (repeat' (first | exact trivial | with_reducible refine And.intro ?_ ?_)); all_goals (repeat (first | (with_reducible refine ImpB.mk fun hb => ?_) | (with_reducible refine ImpK.mk fun hK => ?_) | (with_reducible refine ImpF.mk fun hF => ?_) | (with_reducible refine ImpQ.mk fun hp => ?_) | (with_reducible refine AllE.mk fun p => ?_) | (with_reducible refine AllR.mk fun rest => ?_) | (with_reducible refine AllK.mk fun K => ?_))))); repeat' (with_reducible refine And.intro ?_ ?_))
      all_goals first | (with_reducible exact Nat.le_refl _) | (show _ ≤ (_ : Nat); omega) | (show _ < (_ : Int); omega) | (show _ ≤ (_ : Int); omega) | (show (_ : Nat) = _; omega) | skip
      (focus (refine ⟨_, _, Gh.refl, [0], rfl, ?_⟩; (refine fitq ?_ ?_ ?_ <;> try exact trivial); (try any_goals (refine ⟨?_, ?_⟩)); (try any_goals (with_reducible rfl))))
      all_goals (repeat' (first | (refine And.intro ?_ ?_) | (with_reducible rfl) | (simp only [List.append_assoc, List.cons_append, List.nil_append]; done) | (simp only [List.length_append, List.length_cons, List.length_nil]; omega) | omega))
theorem c_rencF {h : List Ch} {K : KT} {l : List Stp} {a : AV} (H : K (.tup [.lit (.slice none 0 0), .int .i64 1]) h) (b1 : brA [] h (.ro .stp l) a) (e1 : vldQ l = false) (s1 : l.length ≤ 9223372036854775807) (s2 : litQ l) : Does Try.prog 21 [a] h K :=
  frame_pure (b_rencF l s1 s2 e1) (br_cons b1 br_nil) (.inr rfl) (fun _ => rfl) H
abbrev i_rencF := Ctr.mk (i := 0) (g := 21) @c_rencF
attribute [instance] i_rencF
theorem c_rencT {h : List Ch} {K : KT} {l : List Stp} {a : AV} (H : K (.tup [.sl h.length .byte 0 (encQ l).length, .int .i64 0]) (h ++ [.rows .byte (encQ l)])) (b1 : brA [] h (.ro .stp l) a) (e1 : vldQ l = true) (s1 : litQ l) : Does Try.prog 21 [a] h K :=
  frame_new (ret' := .tup [.sl h.length .byte 0 (encQ l).length, .int .i64 0]) (b_rencT l s1 e1) (br_cons b1 br_nil) (.inr rfl) (fun _ => rfl) rfl H
abbrev i_rencT := Ctr.mk (i := 1) (g := 21) @c_rencT
attribute [instance] i_rencT
end Go.V

set_option maxRecDepth 100000
set_option maxHeartbeats 8000000
namespace Go.V
open Go.Proofs
attribute [-go_sem] Wr
attribute [local go_sem] decA rdecA
theorem blobR_lens (r : Option (List UInt8)) (m : Int) : (blobR r m).1.length ≤ lenR r ∧ lenR (blobR r m).2 ≤ lenR r := by
  have h := countR_len r m
  unfold blobR
  split
  · exact ⟨Nat.zero_le _, Nat.zero_le _⟩
  · rename_i n ys e
    rw [e] at h
    simp only [lenR, Option.getD_some] at h
    split
    · exact ⟨Nat.zero_le _, Nat.zero_le _⟩
    · constructor
      · rw [List.length_take]; unfold lenR; omega
      · simp only [lenR, Option.getD_some, List.length_drop]; omega
/-- a step as it is read, whether it may be one, and what is left -/
def rdX (r : Option (List UInt8)) : Stp × Bool × Option (List UInt8) :=
  let k := uintR r 1
  if k.1 = 1 then (⟨k.1, 0, 0, 0, 0, 0, (decC (blobR k.2 4096).1).getD Cmd.zero⟩, (decC (blobR k.2 4096).1).isSome, (blobR k.2 4096).2)
  else if k.1 = 2 then (⟨k.1, 0, 0, 0, 0, (intR k.2).1, Cmd.zero⟩, (intR k.2).2.isSome, (intR k.2).2)
  else if k.1 = 3 then
    let p := intR k.2; let o := uintR p.2 1; let v := intR o.2; let n := intR v.2
    (⟨k.1, p.1, o.1, v.1, n.1, 0, Cmd.zero⟩, n.2.isSome, n.2)
  else if k.1 = 4 then
    let p := intR k.2; let o := uintR p.2 1; let v := intR o.2
    (⟨k.1, p.1, o.1, v.1, 0, 0, Cmd.zero⟩, v.2.isSome, v.2)
  else if k.1 = 5 then (⟨k.1, 0, 0, 0, (intR k.2).1, 0, Cmd.zero⟩, (intR k.2).2.isSome, (intR k.2).2)
  else (⟨k.1, 0, 0, 0, 0, 0, Cmd.zero⟩, k.2.isSome, k.2)
theorem okr_if {α : Type} (r : Option (List UInt8)) (x : α) : okr r x = if r.isSome then some x else none := by cases r <;> rfl
theorem map_if {α β : Type} (o : Option α) (f : α → β) (z : α) : o.map f = if o.isSome then some (f (o.getD z)) else none := by cases o <;> rfl
theorem oneS_rdX (r : Option (List UInt8)) : oneS r = (if (rdX r).2.1 then some (rdX r).1 else none, (rdX r).2.2) := by
  unfold oneS rdX
  simp only
  by_cases k1 : (uintR r 1).1 = 1
  · rw [if_pos k1, if_pos k1, map_if _ _ Cmd.zero, k1]; rfl
  rw [if_neg k1, if_neg k1]
  by_cases k2 : (uintR r 1).1 = 2
  · rw [if_pos k2, if_pos k2, okr_if, k2]; rfl
  rw [if_neg k2, if_neg k2]
  by_cases k3 : (uintR r 1).1 = 3
  · rw [if_pos k3, if_pos k3, okr_if, k3]; rfl
  rw [if_neg k3, if_neg k3]
  by_cases k4 : (uintR r 1).1 = 4
  · rw [if_pos k4, if_pos k4, okr_if, k4]; rfl
  rw [if_neg k4, if_neg k4]
  by_cases k5 : (uintR r 1).1 = 5
  · rw [if_pos k5, if_pos k5, okr_if, k5]; rfl
  rw [if_neg k5, if_neg k5, okr_if]
theorem b_rfailedN : DoesK Try.prog 1 74 [.ptr 0 0] [.pack RdN] (EndF 1 (.bool true) ([.pack RdN] ++ [])) := by
  refine DoesK.close ?_
  refine w_body (rs := [.tmp 2]) (tm := [.ptr 0 0, .any, .any, .any, .any, .any, .any, .any, .any, .any, .any]) fn_74 rfl rfl rfl rfl fun R hR => ?_
  (all_goals (try ((first | (with_reducible refine wp_id ?_) | (with_reducible refine does_id ?_) | (with_reducible refine ops_id ?_)); refine walk ?_; (repeat' (first | exact trivial | with_reducible refine And.intro ?_ ?_)); all_goals (repeat (first | (with_reducible refine ImpB.mk fun hb => ?_) | (with_reducible refine ImpK.mk fun hK => ?_) | (with_reducible refine ImpF.mk fun hF => ?_) | (with_reducible refine ImpQ.mk fun hp => ?_) | (with_reducible refine AllE.mk fun p => ?_) | (with_reducible refine AllR.mk fun rest => ?_) | (with_reducible refine AllK.mk fun K => ?_))))); repeat' (with_reducible refine And.intro ?_ ?_))
  (focus (refine ⟨_, _, gh_close (t := 0) (ts := []) (l := RdN) ⟨⟨_, _, rfl⟩, ?_, by simp⟩, [0], rfl, ?_⟩; all_goals (refine fitq ?_ ?_ ?_ <;> try exact trivial); (try any_goals (refine ⟨?_, ?_⟩)); (try any_goals (with_reducible rfl))))
theorem b_rfailedS (ys : List UInt8) : DoesK Try.prog 1 74 [.ptr 0 0] [.pack (RdS ys)] (EndF 1 (.bool false) ([.pack (RdS ys)] ++ [])) := by
  refine DoesK.close ?_
  refine w_body (rs := [.tmp 2]) (tm := [.ptr 0 0, .any, .any, .any, .any, .any, .any, .any, .any, .any, .any]) fn_74 rfl rfl rfl rfl fun R hR => ?_
  (all_goals (try ((first | (with_reducible refine wp_id ?_) | (with_reducible refine does_id ?_) | (with_reducible refine ops_id ?_)); refine walk ?_; (repeat' (first | exact trivial | with_reducible refine And.intro ?_ ?_)); all_goals (repeat (first | (with_reducible refine ImpB.mk fun hb => ?_) | (with_reducible refine ImpK.mk fun hK => ?_) | (with_reducible refine ImpF.mk fun hF => ?_) | (with_reducible refine ImpQ.mk fun hp => ?_) | (with_reducible refine AllE.mk fun p => ?_) | (with_reducible refine AllR.mk fun rest => ?_) | (with_reducible refine AllK.mk fun K => ?_))))); repeat' (with_reducible refine And.intro ?_ ?_))
  (focus (refine ⟨_, _, gh_close (t := 0) (ts := []) (l := RdS ys) ⟨⟨_, _, rfl⟩, ?_, by simp⟩, [0], rfl, ?_⟩; all_goals (refine fitq ?_ ?_ ?_ <;> try exact trivial); (try any_goals (refine ⟨?_, ?_⟩)); (try any_goals (with_reducible rfl))))
theorem b_rfailed (r : Option (List UInt8)) : DoesK Try.prog 1 74 [.ptr 0 0] [.pack (Rd r)] (EndF 1 (.bool (!r.isSome)) ([.pack (Rd r)] ++ [])) := by
  cases r with
  | none => exact b_rfailedN
  | some ys => exact b_rfailedS ys
theorem c_rfailed {h : List Ch} {K : KT} {t : Nat} {r : Option (List UInt8)} (H : K (.bool (!r.isSome)) h) (o : hth h t = .pack (Rd r)) : Does Try.prog 74 [.ptr t 0] h K :=
  frame_look (b_rfailed r) o (by simp) (fitC_pack _) (br_cons (br_ptr rfl) br_nil) (.inl rfl) (fun _ => rfl) rfl H
abbrev i_rfailed := Ctr.mk (i := 0) (g := 74) @c_rfailed
attribute [instance] i_rfailed
/-- what reading answers -/
abbrev rdA (x : Stp × Bool × Option (List UInt8)) : AV := .tup [.agg [.int .i64 x.1.kind, .int .i64 x.1.param, .int .i64 x.1.op, .int .i64 x.1.value, .int .i64 x.1.next, .int .i64 x.1.ticks, .int .i64 x.1.c.src, .int .i64 x.1.c.num, .int .i64 x.1.c.srv, .ro .int x.1.c.args, .ro .byte x.1.c.data], .bool x.2.1]
theorem b_read (r : Option (List UInt8)) (hl : lenR r ≤ 1000000) : DoesK Try.prog 1 46 [.ptr 0 0] [.pack (Rd r)] (EndF 1 (rdA (rdX r)) ([.pack (Rd (rdX r).2.2)] ++ [])) := by
  refine DoesK.close ?_
  obtain ⟨Z, hZ⟩ : ∃ Z, rdX r = Z := ⟨_, rfl⟩
  rw [hZ]
  unfold rdX at hZ
  have hb0 := uintR_bd r 1
  have hM0 := uintR_lenR r 1
  rcases e0 : uintR r 1 with ⟨k, q0⟩
  rw [e0] at hZ hb0 hM0
  simp only at hZ hb0 hM0
  have w1 : IntKind.i64.wrap (k : Int) = k := wrap_i64 _ (by omega) (by omega)
  by_cases k1 : k = 1
  · rw [if_pos k1] at hZ
    have d1 : decide ((k : Int) = 1) = true := decide_eq_true (by omega)
    have hM1 := blobR_lens q0 4096
    rcases e1 : blobR q0 4096 with ⟨d, q1⟩
    rw [e1] at hZ hM1
    simp only at hZ hM1
    cases hd : decC d
    · rw [hd] at hZ
      subst hZ
      refine w_body (rs := [.cell 2 34, .tmp 3]) (tm := [.ptr 0 0, .any, .any, .any, .any, .any, .any, .any, .any, .any, .any, .any, .any, .any, .any, .any, .any, .any, .any, .any, .any, .any, .any, .any, .any, .any, .any, .any, .any, .any, .any, .any, .any, .any, .any, .any, .any, .any, .any, .any, .any, .any, .any, .any, .any, .any, .any, .any, .any, .any, .any, .any, .any, .any, .any, .any, .any, .any, .any]) fn_46 rfl rfl rfl rfl fun R hR => ?_
      (have zx1 := @w1; have zx2 := @d1; have zx3 := @hd; all_goals (try ((first | (with_reducible refine wp_id ?_) | (with_reducible refine does_id ?_) | (with_reducible refine ops_id ?_)); refine walk ?_; (repeat' (first | exact trivial | with_reducible refine And.intro ?_ ?_)); all_goals (repeat (first | (with_reducible refine ImpB.mk fun hb => ?_) | (with_reducible refine ImpK.mk fun hK => ?_) | (with_reducible refine ImpF.mk fun hF => ?_) | (with_reducible refine ImpQ.mk fun hp => ?_) | (with_reducible refine AllE.mk fun p => ?_) | (with_reducible refine AllR.mk fun rest => ?_) | (with_reducible refine AllK.mk fun K => ?_))))); repeat' (with_reducible refine And.intro ?_ ?_))
      all_goals first | (with_reducible exact Nat.le_refl _) | (show _ ≤ (_ : Nat); omega) | (show _ < (_ : Int); omega) | (show _ ≤ (_ : Int); omega) | (show (_ : Nat) = _; omega) | skip
      (focus (refine ⟨_, _, Gh.refl, [0], rfl, ?_⟩; (refine fitq ?_ ?_ ?_ <;> try exact trivial); (try any_goals (refine ⟨?_, ?_⟩)); (try any_goals (with_reducible rfl))))
      all_goals (repeat' (first | (refine And.intro ?_ ?_) | (with_reducible rfl) | omega | rfl))
    · rw [hd] at hZ
      subst hZ
      refine w_body (rs := [.cell 2 34, .tmp 3]) (tm := [.ptr 0 0, .any, .any, .any, .any, .any, .any, .any, .any, .any, .any, .any, .any, .any, .any, .any, .any, .any, .any, .any, .any, .any, .any, .any, .any, .any, .any, .any, .any, .any, .any, .any, .any, .any, .any, .any, .any, .any, .any, .any, .any, .any, .any, .any, .any, .any, .any, .any, .any, .any, .any, .any, .any, .any, .any, .any, .any, .any, .any]) fn_46 rfl rfl rfl rfl fun R hR => ?_
      (have zx1 := @w1; have zx2 := @d1; have zx3 := @hd; all_goals (try ((first | (with_reducible refine wp_id ?_) | (with_reducible refine does_id ?_) | (with_reducible refine ops_id ?_)); refine walk ?_; (repeat' (first | exact trivial | with_reducible refine And.intro ?_ ?_)); all_goals (repeat (first | (with_reducible refine ImpB.mk fun hb => ?_) | (with_reducible refine ImpK.mk fun hK => ?_) | (with_reducible refine ImpF.mk fun hF => ?_) | (with_reducible refine ImpQ.mk fun hp => ?_) | (with_reducible refine AllE.mk fun p => ?_) | (with_reducible refine AllR.mk fun rest => ?_) | (with_reducible refine AllK.mk fun K => ?_))))); repeat' (with_reducible refine And.intro ?_ ?_))
      all_goals first | (with_reducible exact Nat.le_refl _) | (show _ ≤ (_ : Nat); omega) | (show _ < (_ : Int); omega) | (show _ ≤ (_ : Int); omega) | (show (_ : Nat) = _; omega) | skip
      (focus (refine ⟨_, _, Gh.refl, [0], rfl, ?_⟩; (refine fitq ?_ ?_ ?_ <;> try exact trivial); (try any_goals (refine ⟨?_, ?_⟩)); (try any_goals (with_reducible rfl))))
      all_goals (repeat' (first | (refine And.intro ?_ ?_) | (with_reducible rfl) | omega | rfl))
  have d1 : decide ((k : Int) = 1) = false := decide_eq_false (by omega)
  rw [if_neg k1] at hZ
  have hM1 := intR_len q0
  by_cases k2 : k = 2
  · rw [if_pos k2] at hZ
    have d2 : decide ((k : Int) = 2) = true := decide_eq_true (by omega)
    rcases e1 : intR q0 with ⟨i1, q1⟩
    rw [e1] at hZ
    subst hZ
    refine w_body (rs := [.cell 2 34, .tmp 3]) (tm := [.ptr 0 0, .any, .any, .any, .any, .any, .any, .any, .any, .any, .any, .any, .any, .any, .any, .any, .any, .any, .any, .any, .any, .any, .any, .any, .any, .any, .any, .any, .any, .any, .any, .any, .any, .any, .any, .any, .any, .any, .any, .any, .any, .any, .any, .any, .any, .any, .any, .any, .any, .any, .any, .any, .any, .any, .any, .any, .any, .any, .any]) fn_46 rfl rfl rfl rfl fun R hR => ?_
    (have zx1 := @w1; have zx2 := @d1; have zx3 := @d2; all_goals (try ((first | (with_reducible refine wp_id ?_) | (with_reducible refine does_id ?_) | (with_reducible refine ops_id ?_)); refine walk ?_; (repeat' (first | exact trivial | with_reducible refine And.intro ?_ ?_)); all_goals (repeat (first | (with_reducible refine ImpB.mk fun hb => ?_) | (with_reducible refine ImpK.mk fun hK => ?_) | (with_reducible refine ImpF.mk fun hF => ?_) | (with_reducible refine ImpQ.mk fun hp => ?_) | (with_reducible refine AllE.mk fun p => ?_) | (with_reducible refine AllR.mk fun rest => ?_) | (with_reducible refine AllK.mk fun K => ?_))))); repeat' (with_reducible refine And.intro ?_ ?_))
    all_goals first | (with_reducible exact Nat.le_refl _) | (show _ ≤ (_ : Nat); omega) | (show _ < (_ : Int); omega) | (show _ ≤ (_ : Int); omega) | (show (_ : Nat) = _; omega) | skip
    (focus (refine ⟨_, _, Gh.refl, [0], rfl, ?_⟩; (refine fitq ?_ ?_ ?_ <;> try exact trivial); (try any_goals (refine ⟨?_, ?_⟩)); (try any_goals (with_reducible rfl))))
    all_goals (repeat' (first | (refine And.intro ?_ ?_) | (with_reducible rfl) | omega | rfl))
  have d2 : decide ((k : Int) = 2) = false := decide_eq_false (by omega)
  rw [if_neg k2] at hZ
  by_cases k3 : k = 3
  · rw [if_pos k3] at hZ
    have d3 : decide ((k : Int) = 3) = true := decide_eq_true (by omega)
    rcases e1 : intR q0 with ⟨i1, q1⟩
    have hM2 := uintR_lenR q1 1
    have hb2 := uintR_bd q1 1
    rcases e2 : uintR q1 1 with ⟨g, q2⟩
    have hM3 := intR_len q2
    rcases e3 : intR q2 with ⟨i3, q3⟩
    have hM4 := intR_len q3
    rcases e4 : intR q3 with ⟨i4, q4⟩
    rw [e1] at hZ hM1
    rw [e2] at hM2 hb2
    rw [e3] at hM3
    rw [e4] at hM4
    simp only [e2, e3, e4] at hZ hM1 hM2 hM3 hM4 hb2
    have w2 : IntKind.i64.wrap (g : Int) = g := wrap_i64 _ (by omega) (by omega)
    subst hZ
    refine w_body (rs := [.cell 2 34, .tmp 3]) (tm := [.ptr 0 0, .any, .any, .any, .any, .any, .any, .any, .any, .any, .any, .any, .any, .any, .any, .any, .any, .any, .any, .any, .any, .any, .any, .any, .any, .any, .any, .any, .any, .any, .any, .any, .any, .any, .any, .any, .any, .any, .any, .any, .any, .any, .any, .any, .any, .any, .any, .any, .any, .any, .any, .any, .any, .any, .any, .any, .any, .any, .any]) fn_46 rfl rfl rfl rfl fun R hR => ?_
    (have zx1 := @w1; have zx2 := @d1; have zx3 := @d2; have zx4 := @d3; have zx5 := @w2; all_goals (try ((first | (with_reducible refine wp_id ?_) | (with_reducible refine does_id ?_) | (with_reducible refine ops_id ?_)); refine walk ?_; (repeat' (first | exact trivial | with_reducible refine And.intro ?_ ?_)); all_goals (repeat (first | (with_reducible refine ImpB.mk fun hb => ?_) | (with_reducible refine ImpK.mk fun hK => ?_) | (with_reducible refine ImpF.mk fun hF => ?_) | (with_reducible refine ImpQ.mk fun hp => ?_) | (with_reducible refine AllE.mk fun p => ?_) | (with_reducible refine AllR.mk fun rest => ?_) | (with_reducible refine AllK.mk fun K => ?_))))); repeat' (with_reducible refine And.intro ?_ ?_))
    all_goals first | (with_reducible exact Nat.le_refl _) | (show _ ≤ (_ : Nat); omega) | (show _ < (_ : Int); omega) | (show _ ≤ (_ : Int); omega) | (show (_ : Nat) = _; omega) | skip
    (focus (refine ⟨_, _, Gh.refl, [0], rfl, ?_⟩; (refine fitq ?_ ?_ ?_ <;> try exact trivial); (try any_goals (refine ⟨?_, ?_⟩)); (try any_goals (with_reducible rfl))))
    all_goals (repeat' (first | (refine And.intro ?_ ?_) | (with_reducible rfl) | omega | rfl))
  have d3 : decide ((k : Int) = 3) = false := decide_eq_false (by omega)
  rw [if_neg k3] at hZ
  by_cases k4 : k = 4
  · rw [if_pos k4] at hZ
    have d4 : decide ((k : Int) = 4) = true := decide_eq_true (by omega)
    rcases e1 : intR q0 with ⟨i1, q1⟩
    have hM2 := uintR_lenR q1 1
    have hb2 := uintR_bd q1 1
    rcases e2 : uintR q1 1 with ⟨g, q2⟩
    have hM3 := intR_len q2
    rcases e3 : intR q2 with ⟨i3, q3⟩
    rw [e1] at hZ hM1
    rw [e2] at hM2 hb2
    rw [e3] at hM3
    simp only [e2, e3] at hZ hM1 hM2 hM3 hb2
    have w2 : IntKind.i64.wrap (g : Int) = g := wrap_i64 _ (by omega) (by omega)
    subst hZ
    refine w_body (rs := [.cell 2 34, .tmp 3]) (tm := [.ptr 0 0, .any, .any, .any, .any, .any, .any, .any, .any, .any, .any, .any, .any, .any, .any, .any, .any, .any, .any, .any, .any, .any, .any, .any, .any, .any, .any, .any, .any, .any, .any, .any, .any, .any, .any, .any, .any, .any, .any, .any, .any, .any, .any, .any, .any, .any, .any, .any, .any, .any, .any, .any, .any, .any, .any, .any, .any, .any, .any]) fn_46 rfl rfl rfl rfl fun R hR => ?_
    (have zx1 := @w1; have zx2 := @d1; have zx3 := @d2; have zx4 := @d3; have zx5 := @d4; have zx6 := @w2; all_goals (try ((first | (with_reducible refine wp_id ?_) | (with_reducible refine does_id ?_) | (with_reducible refine ops_id ?_)); refine walk ?_; (repeat' (first | exact trivial | with_reducible refine And.intro ?_ ?_)); all_goals (repeat (first | (with_reducible refine ImpB.mk fun hb => ?_) | (with_reducible refine ImpK.mk fun hK => ?_) | (with_reducible refine ImpF.mk fun hF => ?_) | (with_reducible refine ImpQ.mk fun hp => ?_) | (with_reducible refine AllE.mk fun p => ?_) | (with_reducible refine AllR.mk fun rest => ?_) | (with_reducible refine AllK.mk fun K => ?_))))); repeat' (with_reducible refine And.intro ?_ ?_))
    all_goals first | (with_reducible exact Nat.le_refl _) | (show _ ≤ (_ : Nat); omega) | (show _ < (_ : Int); omega) | (show _ ≤ (_ : Int); omega) | (show (_ : Nat) = _; omega) | skip
    (focus (refine ⟨_, _, Gh.refl, [0], rfl, ?_⟩; (refine fitq ?_ ?_ ?_ <;> try exact trivial); (try any_goals (refine ⟨?_, ?_⟩)); (try any_goals (with_reducible rfl))))
    all_goals (repeat' (first | (refine And.intro ?_ ?_) | (with_reducible rfl) | omega | rfl))
  have d4 : decide ((k : Int) = 4) = false := decide_eq_false (by omega)
  rw [if_neg k4] at hZ
  by_cases k5 : k = 5
  · rw [if_pos k5] at hZ
    have d5 : decide ((k : Int) = 5) = true := decide_eq_true (by omega)
    rcases e1 : intR q0 with ⟨i1, q1⟩
    rw [e1] at hZ
    subst hZ
    refine w_body (rs := [.cell 2 34, .tmp 3]) (tm := [.ptr 0 0, .any, .any, .any, .any, .any, .any, .any, .any, .any, .any, .any, .any, .any, .any, .any, .any, .any, .any, .any, .any, .any, .any, .any, .any, .any, .any, .any, .any, .any, .any, .any, .any, .any, .any, .any, .any, .any, .any, .any, .any, .any, .any, .any, .any, .any, .any, .any, .any, .any, .any, .any, .any, .any, .any, .any, .any, .any, .any]) fn_46 rfl rfl rfl rfl fun R hR => ?_
    (have zx1 := @w1; have zx2 := @d1; have zx3 := @d2; have zx4 := @d3; have zx5 := @d4; have zx6 := @d5; all_goals (try ((first | (with_reducible refine wp_id ?_) | (with_reducible refine does_id ?_) | (with_reducible refine ops_id ?_)); refine walk ?_; (repeat' (first | exact trivial | with_reducible refine And.intro ?_ ?_)); all_goals (repeat (first | (with_reducible refine ImpB.mk fun hb => ?_) | (with_reducible refine ImpK.mk fun hK => ?_) | (with_reducible refine ImpF.mk fun hF => ?_) | (with_reducible refine ImpQ.mk fun hp => ?_) | (with_reducible refine AllE.mk fun p => ?_) | (with_reducible refine AllR.mk fun rest => ?_) | (with_reducible refine AllK.mk fun K => ?_))))); repeat' (with_reducible refine And.intro ?_ ?_))
    all_goals first | (with_reducible exact Nat.le_refl _) | (show _ ≤ (_ : Nat); omega) | (show _ < (_ : Int); omega) | (show _ ≤ (_ : Int); omega) | (show (_ : Nat) = _; omega) | skip
    (focus (refine ⟨_, _, Gh.refl, [0], rfl, ?_⟩; (refine fitq ?_ ?_ ?_ <;> try exact trivial); (try any_goals (refine ⟨?_, ?_⟩)); (try any_goals (with_reducible rfl))))
    all_goals (repeat' (first | (refine And.intro ?_ ?_) | (with_reducible rfl) | omega | rfl))
  · rw [if_neg k5] at hZ
    have d5 : decide ((k : Int) = 5) = false := decide_eq_false (by omega)
    subst hZ
    refine w_body (rs := [.cell 2 34, .tmp 3]) (tm := [.ptr 0 0, .any, .any, .any, .any, .any, .any, .any, .any, .any, .any, .any, .any, .any, .any, .any, .any, .any, .any, .any, .any, .any, .any, .any, .any, .any, .any, .any, .any, .any, .any, .any, .any, .any, .any, .any, .any, .any, .any, .any, .any, .any, .any, .any, .any, .any, .any, .any, .any, .any, .any, .any, .any, .any, .any, .any, .any, .any, .any]) fn_46 rfl rfl rfl rfl fun R hR => ?_
    (have zx1 := @w1; have zx2 := @d1; have zx3 := @d2; have zx4 := @d3; have zx5 := @d4; have zx6 := @d5; all_goals (try ((first | (with_reducible refine wp_id ?_) | (with_reducible refine does_id ?_) | (with_reducible refine ops_id ?_)); refine walk ?_; (repeat' (first | exact trivial | with_reducible refine And.intro ?_ ?_)); all_goals (repeat (first | (with_reducible refine ImpB.mk fun hb => ?_) | (with_reducible refine ImpK.mk fun hK => ?_) | (with_reducible refine ImpF.mk fun hF => ?_) | (with_reducible refine ImpQ.mk fun hp => ?_) | (with_reducible refine AllE.mk fun p => ?_) | (with_reducible refine AllR.mk fun rest => ?_) | (with_reducible refine AllK.mk fun K => ?_))))); repeat' (with_reducible refine And.intro ?_ ?_))
    all_goals first | (with_reducible exact Nat.le_refl _) | (show _ ≤ (_ : Nat); omega) | (show _ < (_ : Int); omega) | (show _ ≤ (_ : Int); omega) | (show (_ : Nat) = _; omega) | skip
    (focus (refine ⟨_, _, Gh.refl, [0], rfl, ?_⟩; (refine fitq ?_ ?_ ?_ <;> try exact trivial); (try any_goals (refine ⟨?_, ?_⟩)); (try any_goals (with_reducible rfl))))
    all_goals (repeat' (first | (refine And.intro ?_ ?_) | (with_reducible rfl) | omega | rfl))
theorem c_read {h : List Ch} {K : KT} {t : Nat} {r : Option (List UInt8)} {x : Stp} {b : Bool} {r' : Option (List UInt8)} (H : K (.tup [.agg [.int .i64 x.kind, .int .i64 x.param, .int .i64 x.op, .int .i64 x.value, .int .i64 x.next, .int .i64 x.ticks, .int .i64 x.c.src, .int .i64 x.c.num, .int .i64 x.c.srv, .ro .int x.c.args, .ro .byte x.c.data], .bool b]) (h.set t (.pack (Rd r')))) (o : hth h t = .pack (Rd r)) (e : rdX r = (x, b, r')) (s1 : lenR r ≤ 1000000) : Does Try.prog 46 [.ptr t 0] h K := by
  have hb := b_read r s1
  rw [e] at hb
  exact frame_obj0 hb o (by simp) (fitC_pack _) (br_cons (br_ptr rfl) br_nil) (.inl rfl) (fun _ => rfl) rfl H
abbrev i_read := Ctr.mk (i := 0) (g := 46) @c_read
attribute [instance] i_read
theorem rdX_len (r : Option (List UInt8)) : lenR (rdX r).2.2 ≤ lenR r := by
  have h0 := uintR_lenR r 1
  have h1 := (blobR_lens (uintR r 1).2 4096).2
  have h2 := intR_len (uintR r 1).2
  have h3 := uintR_lenR (intR (uintR r 1).2).2 1
  have h4 := intR_len (uintR (intR (uintR r 1).2).2 1).2
  have h5 := intR_len (intR (uintR (intR (uintR r 1).2).2 1).2).2
  unfold rdX
  simp only
  split
  · exact Nat.le_trans h1 h0
  split
  · exact Nat.le_trans h2 h0
  split
  · exact Nat.le_trans h5 (Nat.le_trans h4 (Nat.le_trans h3 (Nat.le_trans h2 h0)))
  split
  · exact Nat.le_trans h4 (Nat.le_trans h3 (Nat.le_trans h2 h0))
  split
  · exact Nat.le_trans h2 h0
  · exact h0
theorem rdsS_lenR (r : Option (List UInt8)) : ∀ k, lenR (rdsS r k).2 ≤ lenR r
  | 0 => Nat.le_refl _
  | k + 1 => by
    have ih := rdsS_lenR r k
    rw [rdsS]
    split
    · rename_i r1 e; rw [e] at ih; exact ih
    · rename_i l r1 e
      rw [e] at ih
      have h1 := rdX_len r1
      rw [oneS_rdX]
      exact Nat.le_trans h1 ih
theorem intR_none {r : Option (List UInt8)} : (intR r).2 = none → (intR r).1 = 0 := by
  unfold intR
  split
  · intro _; rfl
  · split
    · intro _; rfl
    · intro h; cases h
theorem countR_le {r : Option (List UInt8)} {m : Int} (hm : 0 ≤ m) : (countR r m).1 ≤ m := by
  have h := intR_none (r := r)
  unfold countR
  split
  · rename_i n e
    rw [e] at h
    have := h rfl
    simp only at this
    simp only
    omega
  · split
    · exact hm
    · simp only; omega
theorem valid_args {c : Cmd} (h : validC c = true) : c.args.length ≤ 1099511627776 := by
  have h1 := ((validC_iff c).1 h).2.2.2.2.2.1
  have h2 := arg0_le c.srv
  omega
theorem rdX_lit {r : Option (List UInt8)} (h : (rdX r).2.1 = true) : (rdX r).1.c.args.length ≤ 1099511627776 := by
  revert h
  unfold rdX
  simp only
  split
  · intro h
    obtain ⟨c, hc⟩ := Option.isSome_iff_exists.1 h
    rw [hc]
    exact valid_args (decC_canon hc).2
  split
  · exact fun _ => (by decide : Cmd.zero.args.length ≤ 1099511627776)
  split
  · exact fun _ => (by decide : Cmd.zero.args.length ≤ 1099511627776)
  split
  · exact fun _ => (by decide : Cmd.zero.args.length ≤ 1099511627776)
  split
  · exact fun _ => (by decide : Cmd.zero.args.length ≤ 1099511627776)
  · exact fun _ => (by decide : Cmd.zero.args.length ≤ 1099511627776)
theorem rdsS_lit {r : Option (List UInt8)} : ∀ {k : Nat} {l : List Stp} {r1 : Option (List UInt8)}, rdsS r k = (some l, r1) → litQ l
  | 0, l, r1, h => by
    simp only [rdsS, Prod.mk.injEq, Option.some.injEq] at h
    rw [← h.1]
    intro x hx
    cases hx
  | k + 1, l, r1, h => by
    rw [rdsS] at h
    split at h
    · simp at h
    · rename_i l' r2 e
      have ih := rdsS_lit e
      rw [oneS_rdX] at h
      simp only [Prod.mk.injEq, Option.map_eq_some_iff] at h
      obtain ⟨⟨x, hx, h1⟩, _⟩ := h
      split at hx
      · rename_i hok
        cases hx
        have hl := rdX_lit hok
        subst h1
        intro y hy
        rcases List.mem_append.1 hy with hy | hy
        · exact ih y hy
        · rw [List.mem_singleton] at hy
          rw [hy]
          exact hl
      · cases hx
/-- what decoding steps answers -/
def qdecA (o : Option (List Stp)) : AV := match o with
  | some l => .tup [.ro .stp l, .int .i64 0]
  | none => .tup [.ro .stp [], .int .i64 4]
theorem b_qdec (b : List UInt8) (hb : b.length ≤ 1000000) : DoesK Try.prog 0 22 [.ro .byte b] [] (EndF 0 (qdecA (decQ b)) []) := by
  refine DoesK.close ?_
  have hL0 := countR_len (some b) 256
  rcases e0 : countR (some b) 256 with ⟨n, r0⟩
  rw [e0] at hL0
  have hn256 := countR_le (r := some b) (m := 256) (by decide)
  rw [e0] at hn256
  simp only at hn256
  have hLb : lenR (some b) = b.length := rfl
  simp only [hLb] at hL0
  refine w_body (rs := [.tmp 2, .tmp 3]) (tm := [.ro .byte b, .any, .any, .any, .any, .any, .any, .any, .any, .any, .any, .any, .any, .any, .any, .any, .any, .any, .any, .any, .any, .any, .any, .any, .any, .any, .any, .any, .any, .any, .any, .any, .any, .any, .any, .any, .any, .any, .any, .any, .any, .any, .any, .any, .any, .any, .any, .any, .any]) fn_22 rfl rfl rfl rfl fun R hR => ?_
  (all_goals (try ((first | (with_reducible refine wp_id ?_) | (with_reducible refine does_id ?_) | (with_reducible refine ops_id ?_)); refine walk ?_; (repeat' (first | exact trivial | with_reducible refine And.intro ?_ ?_)); all_goals (repeat (first | (with_reducible refine ImpB.mk fun hb => ?_) | (with_reducible refine ImpK.mk fun hK => ?_) | (with_reducible refine ImpF.mk fun hF => ?_) | (with_reducible refine ImpQ.mk fun hp => ?_) | (with_reducible refine AllE.mk fun p => ?_) | (with_reducible refine AllR.mk fun rest => ?_) | (with_reducible refine AllK.mk fun K => ?_))))); repeat' (with_reducible refine And.intro ?_ ?_))
  any_goals refine Wp.ghost (gh_adopt (s := 6) .stp trivial) ?_
  any_goals ((try (refine w_seq fun K hK => ?_)); (try (refine w_block ?_)); refine w_loop (A := Nat × List Stp × Option (List UInt8)) (fun p => rdsS r0 p.1 = (some p.2.1, p.2.2) ∧ p.1 ≤ n.toNat) (fun p => n.toNat - p.1) (fun p => [(6, .sl 1 .stp 0 p.1)]) (fun p => [(0, .pack (Rd p.2.2)), (1, .rows .stp p.2.1)]) ((0, [], r0)) (ws := ?ws1) (tk := ?tk1) ?hw1 ?ht1 ?hi ?h0 ?LH1; (case hw1 => simp only [go_sem, decide_true, decide_false, Int.reduceToNat, Nat.min_eq_left, Nat.min_eq_right, Int.reducePow, Nat.reducePow, Int.reduceLE, Int.reduceLT, Int.reduceMul, Int.reduceAdd, Int.reduceSub, Int.reduceNeg, Bool.not_true, Bool.not_false, Bool.not_not, ↓reduceIte, Nat.reduceAdd, Nat.reduceSub, Nat.reduceMul, Nat.reduceEqDiff, reduceCtorEq, Nat.reduceLT, Nat.reduceLeDiff, Nat.reduceGT]; exact rfl); (case ht1 => simp only [go_sem, decide_true, decide_false, Int.reduceToNat, Nat.min_eq_left, Nat.min_eq_right, Int.reducePow, Nat.reducePow, Int.reduceLE, Int.reduceLT, Int.reduceMul, Int.reduceAdd, Int.reduceSub, Int.reduceNeg, Bool.not_true, Bool.not_false, Bool.not_not, ↓reduceIte, Nat.reduceAdd, Nat.reduceSub, Nat.reduceMul, Nat.reduceEqDiff, reduceCtorEq, Nat.reduceLT, Nat.reduceLeDiff, Nat.reduceGT]; exact rfl); (case' LH1 => rintro ⟨k, l, r⟩ E t hx hE ht; simp only [go_sem] at ht; subst ht; simp only [go_sem]; try dsimp only at hx))
  case hi => exact ⟨rfl, Nat.zero_le _⟩
  case h0 => (focus (refine ⟨_, _, Gh.refl, [0, 1], rfl, ?_⟩; (refine fitq ?_ ?_ ?_ <;> try exact trivial); (try any_goals (refine ⟨?_, ?_⟩)); (try any_goals (with_reducible rfl)))); (all_goals (repeat' (first | (refine And.intro ?_ ?_) | rfl)))
  case LH1 =>
    obtain ⟨hx0, hkn0⟩ := hx
    have hlr := rdsS_lenR r0 k
    rw [hx0] at hlr
    have hll := rdsS_length hx0
    have hL1 : lenR r ≤ 1000000 := by simp only at hlr; omega
    by_cases hk : k < n.toNat
    · have hkd : decide ((k : Int) < n) = true := decide_eq_true (by omega)
      have hst := rdsS_step hx0
      rw [oneS_rdX] at hst
      rcases e1 : rdX r with ⟨x, ok, q⟩
      rw [e1] at hst
      simp only at hst
      cases ok
      · (have zx1 := @hkd; all_goals (try ((first | (with_reducible refine wp_id ?_) | (with_reducible refine does_id ?_) | (with_reducible refine ops_id ?_)); refine walk ?_; (repeat' (first | exact trivial | with_reducible refine And.intro ?_ ?_)); all_goals (repeat (first | (with_reducible refine ImpB.mk fun hb => ?_) | (with_reducible refine ImpK.mk fun hK => ?_) | (with_reducible refine ImpF.mk fun hF => ?_) | (with_reducible refine ImpQ.mk fun hp => ?_) | (with_reducible refine AllE.mk fun p => ?_) | (with_reducible refine AllR.mk fun rest => ?_) | (with_reducible refine AllK.mk fun K => ?_))))); repeat' (with_reducible refine And.intro ?_ ?_))
        all_goals first | (with_reducible exact Nat.le_refl _) | (show _ ≤ (_ : Nat); omega) | (show _ < (_ : Int); omega) | (show _ ≤ (_ : Int); omega) | (show (_ : Nat) = _; omega) | skip
        rw [rdsS_no (k := k + 1) e0 (by rw [hst]; rfl) (by omega)]
        simp only [qdecA]
        (focus (refine ⟨_, _, Gh.refl, [], rfl, ?_⟩; (refine fitq ?_ ?_ ?_ <;> try exact trivial); (try any_goals (refine ⟨?_, ?_⟩)); (try any_goals (with_reducible rfl))))
      · (have zx1 := @hkd; all_goals (try ((first | (with_reducible refine wp_id ?_) | (with_reducible refine does_id ?_) | (with_reducible refine ops_id ?_)); refine walk ?_; (repeat' (first | exact trivial | with_reducible refine And.intro ?_ ?_)); all_goals (repeat (first | (with_reducible refine ImpB.mk fun hb => ?_) | (with_reducible refine ImpK.mk fun hK => ?_) | (with_reducible refine ImpF.mk fun hF => ?_) | (with_reducible refine ImpQ.mk fun hp => ?_) | (with_reducible refine AllE.mk fun p => ?_) | (with_reducible refine AllR.mk fun rest => ?_) | (with_reducible refine AllK.mk fun K => ?_))))); repeat' (with_reducible refine And.intro ?_ ?_))
        all_goals first | (with_reducible exact Nat.le_refl _) | (show _ ≤ (_ : Nat); omega) | (show _ < (_ : Int); omega) | (show _ ≤ (_ : Int); omega) | (show (_ : Nat) = _; omega) | skip
        refine ⟨(k + 1, l ++ [x], q), ⟨⟨hst, by dsimp only; omega⟩, by dsimp only; omega⟩, ?_⟩
        (focus (refine ⟨_, _, Gh.refl, [0, 4], rfl, ?_⟩; (refine fitq ?_ ?_ ?_ <;> try exact trivial); (try any_goals (refine ⟨?_, ?_⟩)); (try any_goals (with_reducible rfl))))
        all_goals (repeat' (first | (refine And.intro ?_ ?_) | (with_reducible rfl) | omega | rfl))
    · have hkn : k = n.toNat := by omega
      have hend := rdsS_end e0 (by rw [← hkn]; exact hx0)
      have hkd : decide ((k : Int) < n) = false := decide_eq_false (by omega)
      have hlit := rdsS_lit hx0
      have hl64 : l.length ≤ 9223372036854775807 := by omega
      subst hll
      cases hv : vldQ l
      · have hno : decQ b = none := by rw [hend, if_neg (by rintro ⟨_, q⟩; rw [hv] at q; cases q)]
        have hz : decide (¬ (1 : Int) = 0) = true := by decide
        (have zx1 := @hkd; have zx2 := @hv; have zx3 := @hz; all_goals (try ((first | (with_reducible refine wp_id ?_) | (with_reducible refine does_id ?_) | (with_reducible refine ops_id ?_)); refine walk ?_; (repeat' (first | exact trivial | with_reducible refine And.intro ?_ ?_)); all_goals (repeat (first | (with_reducible refine ImpB.mk fun hb => ?_) | (with_reducible refine ImpK.mk fun hK => ?_) | (with_reducible refine ImpF.mk fun hF => ?_) | (with_reducible refine ImpQ.mk fun hp => ?_) | (with_reducible refine AllE.mk fun p => ?_) | (with_reducible refine AllR.mk fun rest => ?_) | (with_reducible refine AllK.mk fun K => ?_))))); repeat' (with_reducible refine And.intro ?_ ?_))
        all_goals first | (with_reducible exact Nat.le_refl _) | (show _ ≤ (_ : Nat); omega) | (show _ < (_ : Int); omega) | (show _ ≤ (_ : Int); omega) | (show (_ : Nat) = _; omega) | skip
        rw [hno]
        simp only [qdecA]
        (focus (refine ⟨_, _, Gh.refl, [], rfl, ?_⟩; (refine fitq ?_ ?_ ?_ <;> try exact trivial); (try any_goals (refine ⟨?_, ?_⟩)); (try any_goals (with_reducible rfl))))
      · by_cases hr : r = some []
        · have hre : decide (r = some []) = true := decide_eq_true hr
          have hsm : encQ l = b := rdsS_same e0 (by rw [← hkn, ← hr]; exact hx0)
          have hbe : decide (encQ l = b) = true := decide_eq_true hsm
          have hyes : decQ b = some l := by rw [hend, if_pos ⟨hr, hv⟩]
          (have zx1 := @hkd; have zx2 := @hv; have zx3 := @hre; have zx4 := @hbe; all_goals (try ((first | (with_reducible refine wp_id ?_) | (with_reducible refine does_id ?_) | (with_reducible refine ops_id ?_)); refine walk ?_; (repeat' (first | exact trivial | with_reducible refine And.intro ?_ ?_)); all_goals (repeat (first | (with_reducible refine ImpB.mk fun hb => ?_) | (with_reducible refine ImpK.mk fun hK => ?_) | (with_reducible refine ImpF.mk fun hF => ?_) | (with_reducible refine ImpQ.mk fun hp => ?_) | (with_reducible refine AllE.mk fun p => ?_) | (with_reducible refine AllR.mk fun rest => ?_) | (with_reducible refine AllK.mk fun K => ?_))))); repeat' (with_reducible refine And.intro ?_ ?_))
          all_goals first | (with_reducible exact Nat.le_refl _) | (show _ ≤ (_ : Nat); omega) | (show _ < (_ : Int); omega) | (show _ ≤ (_ : Int); omega) | (show (_ : Nat) = _; omega) | skip
          rw [hyes]
          simp only [qdecA]
          refine ⟨_, _, gh_frz (t := 1) (e := .stp) (xs := l) rfl ?f1 ?f2, [], rfl, ?ft⟩
          case' ft => (refine fitq ?_ ?_ ?_ <;> try exact trivial)
          case' f1 => simp only [go_sem, decide_true, decide_false, Int.reduceToNat, Nat.min_eq_left, Nat.min_eq_right, Int.reducePow, Nat.reducePow, Int.reduceLE, Int.reduceLT, Int.reduceMul, Int.reduceAdd, Int.reduceSub, Int.reduceNeg, Bool.not_true, Bool.not_false, Bool.not_not, ↓reduceIte, Nat.reduceAdd, Nat.reduceSub, Nat.reduceMul, Nat.reduceEqDiff, reduceCtorEq, Nat.reduceLT, Nat.reduceLeDiff, Nat.reduceGT]
          case' f2 => simp only [go_sem, decide_true, decide_false, Int.reduceToNat, Nat.min_eq_left, Nat.min_eq_right, Int.reducePow, Nat.reducePow, Int.reduceLE, Int.reduceLT, Int.reduceMul, Int.reduceAdd, Int.reduceSub, Int.reduceNeg, Bool.not_true, Bool.not_false, Bool.not_not, ↓reduceIte, Nat.reduceAdd, Nat.reduceSub, Nat.reduceMul, Nat.reduceEqDiff, reduceCtorEq, Nat.reduceLT, Nat.reduceLeDiff, Nat.reduceGT]
          all_goals first | exact Nat.le_refl _ | exact ⟨Nat.le_refl _, False.elim⟩ | exact False.elim | (repeat' (first | (refine And.intro ?_ ?_) | rfl))
        · have hre : decide (r = some []) = false := decide_eq_false hr
          have hno : decQ b = none := by rw [hend, if_neg (by rintro ⟨q, _⟩; exact hr q)]
          (have zx1 := @hkd; have zx2 := @hv; have zx3 := @hre; all_goals (try ((first | (with_reducible refine wp_id ?_) | (with_reducible refine does_id ?_) | (with_reducible refine ops_id ?_)); refine walk ?_; (repeat' (first | exact trivial | with_reducible refine And.intro ?_ ?_)); all_goals (repeat (first | (with_reducible refine ImpB.mk fun hb => ?_) | (with_reducible refine ImpK.mk fun hK => ?_) | (with_reducible refine ImpF.mk fun hF => ?_) | (with_reducible refine ImpQ.mk fun hp => ?_) | (with_reducible refine AllE.mk fun p => ?_) | (with_reducible refine AllR.mk fun rest => ?_) | (with_reducible refine AllK.mk fun K => ?_))))); repeat' (with_reducible refine And.intro ?_ ?_))
          all_goals first | (with_reducible exact Nat.le_refl _) | (show _ ≤ (_ : Nat); omega) | (show _ < (_ : Int); omega) | (show _ ≤ (_ : Int); omega) | (show (_ : Nat) = _; omega) | skip
          rw [hno]
          simp only [qdecA]
          (focus (refine ⟨_, _, Gh.refl, [], rfl, ?_⟩; (refine fitq ?_ ?_ ?_ <;> try exact trivial); (try any_goals (refine ⟨?_, ?_⟩)); (try any_goals (with_reducible rfl))))
theorem c_qdec {h : List Ch} {K : KT} {b : List UInt8} {a : AV} (H : K (qdecA (decQ b)) h) (q1 : isRO .byte b a) (s1 : b.length ≤ 1000000) : Does Try.prog 22 [a] h K :=
  frame_pure (b_qdec b s1) (br_cons q1.br br_nil) (.inl (by rw [brTL, q1.brT]; rfl)) (fun _ => by unfold qdecA; cases decQ b <;> rfl) H
abbrev i_qdec := Ctr.mk (i := 0) (g := 22) @c_qdec
attribute [instance] i_qdec
end Go.V
