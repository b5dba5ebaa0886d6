/-
  ref43: take, Decode.
-/
import Derived.Test.YtpnfoffggcfhfaaPart22
set_option linter.unusedVariables false
set_option linter.unusedSimpArgs false
set_option maxRecDepth 100000
set_option maxHeartbeats 8000000
namespace Go.V
open Go.Proofs
attribute [-go_sem] Wr
attribute [local go_sem] decA rdecA
/-- a Reader of the reference, one way for both cases -/
def FdG (r : Option (List UInt8)) : List Ch := [.cells [.ro .byte (r.getD []), .bool r.isNone]]
theorem Fd_eq (r : Option (List UInt8)) : Fd r = FdG r := by cases r <;> rfl
theorem noneS {α : Type} (r : Option α) : (!r.isNone) = r.isSome := by cases r <;> rfl
theorem c_frcount_s {h : List Ch} {K : KT} {t : Nat} {ys : List UInt8} {most : Int} {n : Int} {r' : Option (List UInt8)} (H : K (.int .i64 n) (h.set t (.pack (FdG r')))) (o : hth h t = .pack [.cells [.ro .byte ys, .bool false]]) (e : countR (some ys) most = (n, r')) (s1 : ys.length ≤ 1099511627776) : Does Try.prog 50 [.ptr t 0, .int .i64 most] h K :=
  c_frcount (r := some ys) (by rw [Fd_eq]; exact H) o e s1
abbrev i_frcount_s := Ctr.mk (i := 1) (g := 50) @c_frcount_s
attribute [instance] i_frcount_s
theorem after_open {h : List Ch} {t : Nat} {v : AV} {r' : Option (List UInt8)} {K : KT} (ht : t < h.length) (H : K v (h.set t (.cells [.ro .byte (r'.getD []), .bool r'.isNone]))) : ∃ v' h2, Gh [v] (h.set t (.pack (Fd r'))) [v'] h2 ∧ K v' h2 := by
  rw [Fd_eq]
  refine ⟨v, _, gh_open (t := t) (vs := [.ro .byte (r'.getD []), .bool r'.isNone]) (rest := []) (hth_set_eq ht), ?_⟩
  have e : openH (h.set t (.pack (FdG r'))) t [.ro .byte (r'.getD []), .bool r'.isNone] [] = h.set t (.cells [.ro .byte (r'.getD []), .bool r'.isNone]) := by
    unfold openH
    rw [List.set_set]
    exact List.append_nil _
  rw [e]
  exact H
theorem fdg_o {h : List Ch} {t : Nat} {r : Option (List UInt8)} (o : hth h t = .pack [.cells [.ro .byte (r.getD []), .bool r.isNone]]) : hth h t = .pack (Fd r) ∧ t < h.length :=
  ⟨by rw [o, Fd_eq]; rfl, hth_lt (by rw [o]; simp)⟩
theorem c_frint_o {h : List Ch} {K : KT} {t : Nat} {r : Option (List UInt8)} {n : Int} {r' : Option (List UInt8)} (H : K (.int .i64 n) (h.set t (.cells [.ro .byte (r'.getD []), .bool r'.isNone]))) (o : hth h t = .pack [.cells [.ro .byte (r.getD []), .bool r.isNone]]) (e : intR r = (n, r')) (s1 : lenR r ≤ 1099511627776) : Does Try.prog 80 [.ptr t 0] h K := -- nocall
  Does.after (c_frint (r := r) (after_open (fdg_o o).2 H) (fdg_o o).1 e s1)
theorem c_frblob_o {h : List Ch} {K : KT} {t : Nat} {r : Option (List UInt8)} {most : Int} {bs : List UInt8} {r' : Option (List UInt8)} (H : K (.ro .byte bs) (h.set t (.cells [.ro .byte (r'.getD []), .bool r'.isNone]))) (o : hth h t = .pack [.cells [.ro .byte (r.getD []), .bool r.isNone]]) (e : blobR r most = (bs, r')) (s1 : lenR r ≤ 1099511627776) : Does Try.prog 79 [.ptr t 0, .int .i64 most] h K := -- nocall
  Does.after (c_frblob (r := r) (after_open (fdg_o o).2 H) (fdg_o o).1 e s1)
theorem c_fruint_o {h : List Ch} {K : KT} {t : Nat} {r : Option (List UInt8)} {n : Nat} {r' : Option (List UInt8)} (H : K (.int .u64 n) (h.set t (.cells [.ro .byte (r'.getD []), .bool r'.isNone]))) (o : hth h t = .pack [.cells [.ro .byte (r.getD []), .bool r.isNone]]) (e : uintR r 1 = (n, r')) : Does Try.prog 77 [.ptr t 0, .int .i64 1] h K := -- nocall
  Does.after (c_fruint (r := r) (size := 1) (after_open (fdg_o o).2 H) (fdg_o o).1 e (by decide) (by decide))
abbrev i_frint_o := Ctr.mk (i := 6) (g := 80) @c_frint_o
attribute [instance] i_frint_o
abbrev i_frblob_o := Ctr.mk (i := 6) (g := 79) @c_frblob_o
attribute [instance] i_frblob_o
abbrev i_fruint_o := Ctr.mk (i := 5) (g := 77) @c_fruint_o
attribute [instance] i_fruint_o
theorem b_take (r : Option (List UInt8)) (hl : lenR r ≤ 1000000) : DoesK Try.prog 1 51 [.ptr 0 0] [.pack (FdG r)] (EndF 1 (rdA (rdX r)) ([.pack (FdG (rdX r).2.2)] ++ [])) := by
  refine DoesK.close ?_
  obtain ⟨Z, hZ⟩ : ∃ Z, rdX r = Z := ⟨_, rfl⟩
  rw [hZ]
  unfold rdX at hZ
  have hb0 := uintR_bd r 1
  have hM0 := uintR_lenR r 1
  rcases e0 : uintR r 1 with ⟨k, q0⟩
  rw [e0] at hZ hb0 hM0
  simp only at hZ hb0 hM0
  have w1 : IntKind.i64.wrap (k : Int) = k := wrap_i64 _ (by omega) (by omega)
  by_cases k1 : k = 1
  · rw [if_pos k1] at hZ
    have d1 : decide ((k : Int) = 1) = true := decide_eq_true (by omega)
    have d3 : decide ((k : Int) = 3) = false := decide_eq_false (by omega)
    have d5 : decide ((k : Int) = 5) = false := decide_eq_false (by omega)
    have hM1 := blobR_lens q0 4096
    rcases e1 : blobR q0 4096 with ⟨d, q1⟩
    rw [e1] at hZ hM1
    simp only at hZ hM1
    cases hd : decC d
    · rw [hd] at hZ
      subst hZ
      refine w_body (rs := [.cell 2 34, .tmp 3]) (tm := [.ptr 0 0, .any, .any, .any, .any, .any, .any, .any, .any, .any, .any, .any, .any, .any, .any, .any, .any, .any, .any, .any, .any, .any, .any, .any, .any, .any, .any, .any, .any, .any, .any, .any, .any, .any, .any, .any, .any, .any, .any, .any, .any, .any, .any, .any, .any, .any, .any, .any, .any, .any, .any, .any, .any, .any, .any, .any, .any, .any, .any]) fn_51 rfl rfl rfl rfl fun R hR => ?_
      (have zx1 := @w1; have zx2 := @d1; have zx3 := @d3; have zx4 := @d5; have zx5 := @hd; all_goals (try ((first | (with_reducible refine wp_id ?_) | (with_reducible refine does_id ?_) | (with_reducible refine ops_id ?_)); refine walk ?_; (repeat' (first | exact trivial | with_reducible refine And.intro ?_ ?_)); all_goals (repeat (first | (with_reducible refine ImpB.mk fun hb => ?_) | (with_reducible refine ImpK.mk fun hK => ?_) | (with_reducible refine ImpF.mk fun hF => ?_) | (with_reducible refine ImpQ.mk fun hp => ?_) | (with_reducible refine AllE.mk fun p => ?_) | (with_reducible refine AllR.mk fun rest => ?_) | (with_reducible refine AllK.mk fun K => ?_))))); repeat' (with_reducible refine And.intro ?_ ?_))
      all_goals first | (with_reducible exact Nat.le_refl _) | (show _ ≤ (_ : Nat); omega) | (show _ < (_ : Int); omega) | (show _ ≤ (_ : Int); omega) | (show (_ : Nat) = _; omega) | skip
      (focus (refine ⟨_, _, gh_close (t := 0) (ts := []) (l := FdG q1) ⟨⟨_, _, rfl⟩, ?_, by simp⟩, [0], rfl, ?_⟩; all_goals (refine fitq ?_ ?_ ?_ <;> try exact trivial); (try any_goals (refine ⟨?_, ?_⟩)); (try any_goals (with_reducible rfl))))
      all_goals (repeat' (first | (refine And.intro ?_ ?_) | (with_reducible rfl) | omega | rfl | (rw [noneS]) | (exact hqs.symm)))
    · rw [hd] at hZ
      subst hZ
      have hqs : q1.isSome = true := by
        cases q1 with
        | some _ => rfl
        | none =>
          have := blobR_nil (r := q0) (m := 4096) (by rw [e1])
          rw [e1] at this
          simp only at this
          rw [this, decC_nil] at hd
          cases hd
      refine w_body (rs := [.cell 2 34, .tmp 3]) (tm := [.ptr 0 0, .any, .any, .any, .any, .any, .any, .any, .any, .any, .any, .any, .any, .any, .any, .any, .any, .any, .any, .any, .any, .any, .any, .any, .any, .any, .any, .any, .any, .any, .any, .any, .any, .any, .any, .any, .any, .any, .any, .any, .any, .any, .any, .any, .any, .any, .any, .any, .any, .any, .any, .any, .any, .any, .any, .any, .any, .any, .any]) fn_51 rfl rfl rfl rfl fun R hR => ?_
      (have zx1 := @w1; have zx2 := @d1; have zx3 := @d3; have zx4 := @d5; have zx5 := @hd; all_goals (try ((first | (with_reducible refine wp_id ?_) | (with_reducible refine does_id ?_) | (with_reducible refine ops_id ?_)); refine walk ?_; (repeat' (first | exact trivial | with_reducible refine And.intro ?_ ?_)); all_goals (repeat (first | (with_reducible refine ImpB.mk fun hb => ?_) | (with_reducible refine ImpK.mk fun hK => ?_) | (with_reducible refine ImpF.mk fun hF => ?_) | (with_reducible refine ImpQ.mk fun hp => ?_) | (with_reducible refine AllE.mk fun p => ?_) | (with_reducible refine AllR.mk fun rest => ?_) | (with_reducible refine AllK.mk fun K => ?_))))); repeat' (with_reducible refine And.intro ?_ ?_))
      all_goals first | (with_reducible exact Nat.le_refl _) | (show _ ≤ (_ : Nat); omega) | (show _ < (_ : Int); omega) | (show _ ≤ (_ : Int); omega) | (show (_ : Nat) = _; omega) | skip
      (focus (refine ⟨_, _, gh_close (t := 0) (ts := []) (l := FdG q1) ⟨⟨_, _, rfl⟩, ?_, by simp⟩, [0], rfl, ?_⟩; all_goals (refine fitq ?_ ?_ ?_ <;> try exact trivial); (try any_goals (refine ⟨?_, ?_⟩)); (try any_goals (with_reducible rfl))))
      all_goals (repeat' (first | (refine And.intro ?_ ?_) | (with_reducible rfl) | omega | rfl | (rw [noneS]) | (exact hqs.symm)))
  have d1 : decide ((k : Int) = 1) = false := decide_eq_false (by omega)
  rw [if_neg k1] at hZ
  have hM1 := intR_len q0
  by_cases k2 : k = 2
  · rw [if_pos k2] at hZ
    have d2 : decide ((k : Int) = 2) = true := decide_eq_true (by omega)
    have d3 : decide ((k : Int) = 3) = false := decide_eq_false (by omega)
    have d5 : decide ((k : Int) = 5) = false := decide_eq_false (by omega)
    rcases e1 : intR q0 with ⟨i1, q1⟩
    rw [e1] at hZ
    subst hZ
    refine w_body (rs := [.cell 2 34, .tmp 3]) (tm := [.ptr 0 0, .any, .any, .any, .any, .any, .any, .any, .any, .any, .any, .any, .any, .any, .any, .any, .any, .any, .any, .any, .any, .any, .any, .any, .any, .any, .any, .any, .any, .any, .any, .any, .any, .any, .any, .any, .any, .any, .any, .any, .any, .any, .any, .any, .any, .any, .any, .any, .any, .any, .any, .any, .any, .any, .any, .any, .any, .any, .any]) fn_51 rfl rfl rfl rfl fun R hR => ?_
    (have zx1 := @w1; have zx2 := @d1; have zx3 := @d2; have zx4 := @d3; have zx5 := @d5; all_goals (try ((first | (with_reducible refine wp_id ?_) | (with_reducible refine does_id ?_) | (with_reducible refine ops_id ?_)); refine walk ?_; (repeat' (first | exact trivial | with_reducible refine And.intro ?_ ?_)); all_goals (repeat (first | (with_reducible refine ImpB.mk fun hb => ?_) | (with_reducible refine ImpK.mk fun hK => ?_) | (with_reducible refine ImpF.mk fun hF => ?_) | (with_reducible refine ImpQ.mk fun hp => ?_) | (with_reducible refine AllE.mk fun p => ?_) | (with_reducible refine AllR.mk fun rest => ?_) | (with_reducible refine AllK.mk fun K => ?_))))); repeat' (with_reducible refine And.intro ?_ ?_))
    all_goals first | (with_reducible exact Nat.le_refl _) | (show _ ≤ (_ : Nat); omega) | (show _ < (_ : Int); omega) | (show _ ≤ (_ : Int); omega) | (show (_ : Nat) = _; omega) | skip
    (focus (refine ⟨_, _, gh_close (t := 0) (ts := []) (l := FdG q1) ⟨⟨_, _, rfl⟩, ?_, by simp⟩, [0], rfl, ?_⟩; all_goals (refine fitq ?_ ?_ ?_ <;> try exact trivial); (try any_goals (refine ⟨?_, ?_⟩)); (try any_goals (with_reducible rfl))))
    all_goals (repeat' (first | (refine And.intro ?_ ?_) | (with_reducible rfl) | omega | rfl | (rw [noneS]) | (exact hqs.symm)))
  have d2 : decide ((k : Int) = 2) = false := decide_eq_false (by omega)
  rw [if_neg k2] at hZ
  by_cases k3 : k = 3
  · rw [if_pos k3] at hZ
    have d3 : decide ((k : Int) = 3) = true := decide_eq_true (by omega)
    rcases e1 : intR q0 with ⟨i1, q1⟩
    have hM2 := uintR_lenR q1 1
    have hb2 := uintR_bd q1 1
    rcases e2 : uintR q1 1 with ⟨g, q2⟩
    have hM3 := intR_len q2
    rcases e3 : intR q2 with ⟨i3, q3⟩
    have hM4 := intR_len q3
    rcases e4 : intR q3 with ⟨i4, q4⟩
    rw [e1] at hZ hM1
    rw [e2] at hM2 hb2
    rw [e3] at hM3
    rw [e4] at hM4
    simp only [e2, e3, e4] at hZ hM1 hM2 hM3 hM4 hb2
    have w2 : IntKind.i64.wrap (g : Int) = g := wrap_i64 _ (by omega) (by omega)
    subst hZ
    refine w_body (rs := [.cell 2 34, .tmp 3]) (tm := [.ptr 0 0, .any, .any, .any, .any, .any, .any, .any, .any, .any, .any, .any, .any, .any, .any, .any, .any, .any, .any, .any, .any, .any, .any, .any, .any, .any, .any, .any, .any, .any, .any, .any, .any, .any, .any, .any, .any, .any, .any, .any, .any, .any, .any, .any, .any, .any, .any, .any, .any, .any, .any, .any, .any, .any, .any, .any, .any, .any, .any]) fn_51 rfl rfl rfl rfl fun R hR => ?_
    (have zx1 := @w1; have zx2 := @d1; have zx3 := @d2; have zx4 := @d3; have zx5 := @w2; all_goals (try ((first | (with_reducible refine wp_id ?_) | (with_reducible refine does_id ?_) | (with_reducible refine ops_id ?_)); refine walk ?_; (repeat' (first | exact trivial | with_reducible refine And.intro ?_ ?_)); all_goals (repeat (first | (with_reducible refine ImpB.mk fun hb => ?_) | (with_reducible refine ImpK.mk fun hK => ?_) | (with_reducible refine ImpF.mk fun hF => ?_) | (with_reducible refine ImpQ.mk fun hp => ?_) | (with_reducible refine AllE.mk fun p => ?_) | (with_reducible refine AllR.mk fun rest => ?_) | (with_reducible refine AllK.mk fun K => ?_))))); repeat' (with_reducible refine And.intro ?_ ?_))
    all_goals first | (with_reducible exact Nat.le_refl _) | (show _ ≤ (_ : Nat); omega) | (show _ < (_ : Int); omega) | (show _ ≤ (_ : Int); omega) | (show (_ : Nat) = _; omega) | skip
    (focus (refine ⟨_, _, gh_close (t := 0) (ts := []) (l := FdG q4) ⟨⟨_, _, rfl⟩, ?_, by simp⟩, [0], rfl, ?_⟩; all_goals (refine fitq ?_ ?_ ?_ <;> try exact trivial); (try any_goals (refine ⟨?_, ?_⟩)); (try any_goals (with_reducible rfl))))
    all_goals (repeat' (first | (refine And.intro ?_ ?_) | (with_reducible rfl) | omega | rfl | (rw [noneS]) | (exact hqs.symm)))
  have d3 : decide ((k : Int) = 3) = false := decide_eq_false (by omega)
  rw [if_neg k3] at hZ
  by_cases k4 : k = 4
  · rw [if_pos k4] at hZ
    have d4 : decide ((k : Int) = 4) = true := decide_eq_true (by omega)
    have d5 : decide ((k : Int) = 5) = false := decide_eq_false (by omega)
    rcases e1 : intR q0 with ⟨i1, q1⟩
    have hM2 := uintR_lenR q1 1
    have hb2 := uintR_bd q1 1
    rcases e2 : uintR q1 1 with ⟨g, q2⟩
    have hM3 := intR_len q2
    rcases e3 : intR q2 with ⟨i3, q3⟩
    rw [e1] at hZ hM1
    rw [e2] at hM2 hb2
    rw [e3] at hM3
    simp only [e2, e3] at hZ hM1 hM2 hM3 hb2
    have w2 : IntKind.i64.wrap (g : Int) = g := wrap_i64 _ (by omega) (by omega)
    subst hZ
    refine w_body (rs := [.cell 2 34, .tmp 3]) (tm := [.ptr 0 0, .any, .any, .any, .any, .any, .any, .any, .any, .any, .any, .any, .any, .any, .any, .any, .any, .any, .any, .any, .any, .any, .any, .any, .any, .any, .any, .any, .any, .any, .any, .any, .any, .any, .any, .any, .any, .any, .any, .any, .any, .any, .any, .any, .any, .any, .any, .any, .any, .any, .any, .any, .any, .any, .any, .any, .any, .any, .any]) fn_51 rfl rfl rfl rfl fun R hR => ?_
    (have zx1 := @w1; have zx2 := @d1; have zx3 := @d2; have zx4 := @d3; have zx5 := @d4; have zx6 := @d5; have zx7 := @w2; all_goals (try ((first | (with_reducible refine wp_id ?_) | (with_reducible refine does_id ?_) | (with_reducible refine ops_id ?_)); refine walk ?_; (repeat' (first | exact trivial | with_reducible refine And.intro ?_ ?_)); all_goals (repeat (first | (with_reducible refine ImpB.mk fun hb => ?_) | (with_reducible refine ImpK.mk fun hK => ?_) | (with_reducible refine ImpF.mk fun hF => ?_) | (with_reducible refine ImpQ.mk fun hp => ?_) | (with_reducible refine AllE.mk fun p => ?_) | (with_reducible refine AllR.mk fun rest => ?_) | (with_reducible refine AllK.mk fun K => ?_))))); repeat' (with_reducible refine And.intro ?_ ?_))
    all_goals first | (with_reducible exact Nat.le_refl _) | (show _ ≤ (_ : Nat); omega) | (show _ < (_ : Int); omega) | (show _ ≤ (_ : Int); omega) | (show (_ : Nat) = _; omega) | skip
    (focus (refine ⟨_, _, gh_close (t := 0) (ts := []) (l := FdG q3) ⟨⟨_, _, rfl⟩, ?_, by simp⟩, [0], rfl, ?_⟩; all_goals (refine fitq ?_ ?_ ?_ <;> try exact trivial); (try any_goals (refine ⟨?_, ?_⟩)); (try any_goals (with_reducible rfl))))
    all_goals (repeat' (first | (refine And.intro ?_ ?_) | (with_reducible rfl) | omega | rfl | (rw [noneS]) | (exact hqs.symm)))
  have d4 : decide ((k : Int) = 4) = false := decide_eq_false (by omega)
  rw [if_neg k4] at hZ
  by_cases k5 : k = 5
  · rw [if_pos k5] at hZ
    have d5 : decide ((k : Int) = 5) = true := decide_eq_true (by omega)
    rcases e1 : intR q0 with ⟨i1, q1⟩
    rw [e1] at hZ
    subst hZ
    refine w_body (rs := [.cell 2 34, .tmp 3]) (tm := [.ptr 0 0, .any, .any, .any, .any, .any, .any, .any, .any, .any, .any, .any, .any, .any, .any, .any, .any, .any, .any, .any, .any, .any, .any, .any, .any, .any, .any, .any, .any, .any, .any, .any, .any, .any, .any, .any, .any, .any, .any, .any, .any, .any, .any, .any, .any, .any, .any, .any, .any, .any, .any, .any, .any, .any, .any, .any, .any, .any, .any]) fn_51 rfl rfl rfl rfl fun R hR => ?_
    (have zx1 := @w1; have zx2 := @d1; have zx3 := @d2; have zx4 := @d3; have zx5 := @d4; have zx6 := @d5; all_goals (try ((first | (with_reducible refine wp_id ?_) | (with_reducible refine does_id ?_) | (with_reducible refine ops_id ?_)); refine walk ?_; (repeat' (first | exact trivial | with_reducible refine And.intro ?_ ?_)); all_goals (repeat (first | (with_reducible refine ImpB.mk fun hb => ?_) | (with_reducible refine ImpK.mk fun hK => ?_) | (with_reducible refine ImpF.mk fun hF => ?_) | (with_reducible refine ImpQ.mk fun hp => ?_) | (with_reducible refine AllE.mk fun p => ?_) | (with_reducible refine AllR.mk fun rest => ?_) | (with_reducible refine AllK.mk fun K => ?_))))); repeat' (with_reducible refine And.intro ?_ ?_))
    all_goals first | (with_reducible exact Nat.le_refl _) | (show _ ≤ (_ : Nat); omega) | (show _ < (_ : Int); omega) | (show _ ≤ (_ : Int); omega) | (show (_ : Nat) = _; omega) | skip
    (focus (refine ⟨_, _, gh_close (t := 0) (ts := []) (l := FdG q1) ⟨⟨_, _, rfl⟩, ?_, by simp⟩, [0], rfl, ?_⟩; all_goals (refine fitq ?_ ?_ ?_ <;> try exact trivial); (try any_goals (refine ⟨?_, ?_⟩)); (try any_goals (with_reducible rfl))))
    all_goals (repeat' (first | (refine And.intro ?_ ?_) | (with_reducible rfl) | omega | rfl | (rw [noneS]) | (exact hqs.symm)))
  · rw [if_neg k5] at hZ
    have d5 : decide ((k : Int) = 5) = false := decide_eq_false (by omega)
    subst hZ
    refine w_body (rs := [.cell 2 34, .tmp 3]) (tm := [.ptr 0 0, .any, .any, .any, .any, .any, .any, .any, .any, .any, .any, .any, .any, .any, .any, .any, .any, .any, .any, .any, .any, .any, .any, .any, .any, .any, .any, .any, .any, .any, .any, .any, .any, .any, .any, .any, .any, .any, .any, .any, .any, .any, .any, .any, .any, .any, .any, .any, .any, .any, .any, .any, .any, .any, .any, .any, .any, .any, .any]) fn_51 rfl rfl rfl rfl fun R hR => ?_
    (have zx1 := @w1; have zx2 := @d1; have zx3 := @d2; have zx4 := @d3; have zx5 := @d4; have zx6 := @d5; all_goals (try ((first | (with_reducible refine wp_id ?_) | (with_reducible refine does_id ?_) | (with_reducible refine ops_id ?_)); refine walk ?_; (repeat' (first | exact trivial | with_reducible refine And.intro ?_ ?_)); all_goals (repeat (first | (with_reducible refine ImpB.mk fun hb => ?_) | (with_reducible refine ImpK.mk fun hK => ?_) | (with_reducible refine ImpF.mk fun hF => ?_) | (with_reducible refine ImpQ.mk fun hp => ?_) | (with_reducible refine AllE.mk fun p => ?_) | (with_reducible refine AllR.mk fun rest => ?_) | (with_reducible refine AllK.mk fun K => ?_))))); repeat' (with_reducible refine And.intro ?_ ?_))
    all_goals first | (with_reducible exact Nat.le_refl _) | (show _ ≤ (_ : Nat); omega) | (show _ < (_ : Int); omega) | (show _ ≤ (_ : Int); omega) | (show (_ : Nat) = _; omega) | skip
    (focus (refine ⟨_, _, gh_close (t := 0) (ts := []) (l := FdG q0) ⟨⟨_, _, rfl⟩, ?_, by simp⟩, [0], rfl, ?_⟩; all_goals (refine fitq ?_ ?_ ?_ <;> try exact trivial); (try any_goals (refine ⟨?_, ?_⟩)); (try any_goals (with_reducible rfl))))
    all_goals (repeat' (first | (refine And.intro ?_ ?_) | (with_reducible rfl) | omega | rfl | (rw [noneS]) | (exact hqs.symm)))
theorem c_take {h : List Ch} {K : KT} {t : Nat} {r : Option (List UInt8)} {x : Stp} {b : Bool} {r' : Option (List UInt8)} (H : K (.tup [.agg [.int .i64 x.kind, .int .i64 x.param, .int .i64 x.op, .int .i64 x.value, .int .i64 x.next, .int .i64 x.ticks, .int .i64 x.c.src, .int .i64 x.c.num, .int .i64 x.c.srv, .ro .int x.c.args, .ro .byte x.c.data], .bool b]) (h.set t (.pack (FdG r')))) (o : hth h t = .pack (FdG r)) (e : rdX r = (x, b, r')) (s1 : lenR r ≤ 1000000) : Does Try.prog 51 [.ptr t 0] h K := by
  have hb := b_take r s1
  rw [e] at hb
  exact frame_obj0 hb o (by simp) (fitC_pack _) (br_cons (br_ptr rfl) br_nil) (.inl rfl) (fun _ => rfl) rfl H
abbrev i_take := Ctr.mk (i := 0) (g := 51) @c_take
attribute [instance] i_take
theorem b_rqdec (b : List UInt8) (hb : b.length ≤ 1000000) : DoesK Try.prog 0 24 [.ro .byte b] [] (EndF 0 (qdecA (decQ b)) []) := by
  refine DoesK.close ?_
  have hL0 := countR_len (some b) 256
  rcases e0 : countR (some b) 256 with ⟨n, r0⟩
  rw [e0] at hL0
  have hn256 := countR_le (r := some b) (m := 256) (by decide)
  rw [e0] at hn256
  simp only at hn256
  have hLb : lenR (some b) = b.length := rfl
  simp only [hLb] at hL0
  refine w_body (rs := [.tmp 2, .tmp 3]) (tm := [.ro .byte b, .any, .any, .any, .any, .any, .any, .any, .any, .any, .any, .any, .any, .any, .any, .any, .any, .any, .any, .any, .any, .any, .any, .any, .any, .any, .any, .any, .any, .any, .any, .any, .any, .any, .any, .any, .any, .any, .any, .any, .any, .any]) fn_24 rfl rfl rfl rfl fun R hR => ?_
  (all_goals (try ((first | (with_reducible refine wp_id ?_) | (with_reducible refine does_id ?_) | (with_reducible refine ops_id ?_)); refine walk ?_; (repeat' (first | exact trivial | with_reducible refine And.intro ?_ ?_)); all_goals (repeat (first | (with_reducible refine ImpB.mk fun hb => ?_) | (with_reducible refine ImpK.mk fun hK => ?_) | (with_reducible refine ImpF.mk fun hF => ?_) | (with_reducible refine ImpQ.mk fun hp => ?_) | (with_reducible refine AllE.mk fun p => ?_) | (with_reducible refine AllR.mk fun rest => ?_) | (with_reducible refine AllK.mk fun K => ?_))))); repeat' (with_reducible refine And.intro ?_ ?_))
  any_goals refine Wp.ghost (gh_adopt (s := 6) .stp trivial) ?_
  any_goals ((try (refine w_seq fun K hK => ?_)); (try (refine w_block ?_)); refine w_loop (A := Nat × List Stp × Option (List UInt8)) (fun p => rdsS r0 p.1 = (some p.2.1, p.2.2) ∧ p.1 ≤ n.toNat) (fun p => n.toNat - p.1) (fun p => [(7, .int .i64 p.1), (6, .sl 1 .stp 0 p.1)]) (fun p => [(0, .pack (FdG p.2.2)), (1, .rows .stp p.2.1)]) ((0, [], r0)) (ws := ?ws1) (tk := ?tk1) ?hw1 ?ht1 ?hi ?h0 ?LH1; (case hw1 => simp only [go_sem, decide_true, decide_false, Int.reduceToNat, Nat.min_eq_left, Nat.min_eq_right, Int.reducePow, Nat.reducePow, Int.reduceLE, Int.reduceLT, Int.reduceMul, Int.reduceAdd, Int.reduceSub, Int.reduceNeg, Bool.not_true, Bool.not_false, Bool.not_not, ↓reduceIte, Nat.reduceAdd, Nat.reduceSub, Nat.reduceMul, Nat.reduceEqDiff, reduceCtorEq, Nat.reduceLT, Nat.reduceLeDiff, Nat.reduceGT]; exact rfl); (case ht1 => simp only [go_sem, decide_true, decide_false, Int.reduceToNat, Nat.min_eq_left, Nat.min_eq_right, Int.reducePow, Nat.reducePow, Int.reduceLE, Int.reduceLT, Int.reduceMul, Int.reduceAdd, Int.reduceSub, Int.reduceNeg, Bool.not_true, Bool.not_false, Bool.not_not, ↓reduceIte, Nat.reduceAdd, Nat.reduceSub, Nat.reduceMul, Nat.reduceEqDiff, reduceCtorEq, Nat.reduceLT, Nat.reduceLeDiff, Nat.reduceGT]; exact rfl); (case' LH1 => rintro ⟨k, l, r⟩ E t hx hE ht; simp only [go_sem] at ht; subst ht; simp only [go_sem]; try dsimp only at hx))
  case hi => exact ⟨rfl, Nat.zero_le _⟩
  case h0 => (focus (refine ⟨_, _, Gh.refl, [0, 1], rfl, ?_⟩; (refine fitq ?_ ?_ ?_ <;> try exact trivial); (try any_goals (refine ⟨?_, ?_⟩)); (try any_goals (with_reducible rfl)))); (all_goals (repeat' (first | (refine And.intro ?_ ?_) | rfl)))
  case LH1 =>
    obtain ⟨hx0, hkn0⟩ := hx
    have hlr := rdsS_lenR r0 k
    rw [hx0] at hlr
    have hll := rdsS_length hx0
    have hL1 : lenR r ≤ 1000000 := by simp only at hlr; omega
    by_cases hk : k < n.toNat
    · have hkd : decide ((k : Int) < n) = true := decide_eq_true (by omega)
      have hw : IntKind.i64.wrap ((k : Int) + 1) = ((k + 1 : Nat) : Int) := by rw [wrap_i64 _ (by omega) (by omega)]; omega
      have hst := rdsS_step hx0
      rw [oneS_rdX] at hst
      rcases e1 : rdX r with ⟨x, ok, q⟩
      rw [e1] at hst
      simp only at hst
      cases ok
      · (have zx1 := @hkd; have zx2 := @hw; all_goals (try ((first | (with_reducible refine wp_id ?_) | (with_reducible refine does_id ?_) | (with_reducible refine ops_id ?_)); refine walk ?_; (repeat' (first | exact trivial | with_reducible refine And.intro ?_ ?_)); all_goals (repeat (first | (with_reducible refine ImpB.mk fun hb => ?_) | (with_reducible refine ImpK.mk fun hK => ?_) | (with_reducible refine ImpF.mk fun hF => ?_) | (with_reducible refine ImpQ.mk fun hp => ?_) | (with_reducible refine AllE.mk fun p => ?_) | (with_reducible refine AllR.mk fun rest => ?_) | (with_reducible refine AllK.mk fun K => ?_))))); repeat' (with_reducible refine And.intro ?_ ?_))
        all_goals first | (with_reducible exact Nat.le_refl _) | (show _ ≤ (_ : Nat); omega) | (show _ < (_ : Int); omega) | (show _ ≤ (_ : Int); omega) | (show (_ : Nat) = _; omega) | skip
        rw [rdsS_no (k := k + 1) e0 (by rw [hst]; rfl) (by omega)]
        simp only [qdecA]
        (focus (refine ⟨_, _, Gh.refl, [], rfl, ?_⟩; (refine fitq ?_ ?_ ?_ <;> try exact trivial); (try any_goals (refine ⟨?_, ?_⟩)); (try any_goals (with_reducible rfl))))
      · (have zx1 := @hkd; have zx2 := @hw; all_goals (try ((first | (with_reducible refine wp_id ?_) | (with_reducible refine does_id ?_) | (with_reducible refine ops_id ?_)); refine walk ?_; (repeat' (first | exact trivial | with_reducible refine And.intro ?_ ?_)); all_goals (repeat (first | (with_reducible refine ImpB.mk fun hb => ?_) | (with_reducible refine ImpK.mk fun hK => ?_) | (with_reducible refine ImpF.mk fun hF => ?_) | (with_reducible refine ImpQ.mk fun hp => ?_) | (with_reducible refine AllE.mk fun p => ?_) | (with_reducible refine AllR.mk fun rest => ?_) | (with_reducible refine AllK.mk fun K => ?_))))); repeat' (with_reducible refine And.intro ?_ ?_))
        all_goals first | (with_reducible exact Nat.le_refl _) | (show _ ≤ (_ : Nat); omega) | (show _ < (_ : Int); omega) | (show _ ≤ (_ : Int); omega) | (show (_ : Nat) = _; omega) | skip
        refine ⟨(k + 1, l ++ [x], q), ⟨⟨hst, by dsimp only; omega⟩, by dsimp only; omega⟩, ?_⟩
        (focus (refine ⟨_, _, Gh.refl, [0, 4], rfl, ?_⟩; (refine fitq ?_ ?_ ?_ <;> try exact trivial); (try any_goals (refine ⟨?_, ?_⟩)); (try any_goals (with_reducible rfl))))
        all_goals (repeat' (first | (refine And.intro ?_ ?_) | (with_reducible rfl) | omega | rfl))
    · have hkn : k = n.toNat := by omega
      have hend := rdsS_end e0 (by rw [← hkn]; exact hx0)
      have hkd : decide ((k : Int) < n) = false := decide_eq_false (by omega)
      have hlit := rdsS_lit hx0
      have hl64 : l.length ≤ 9223372036854775807 := by omega
      have hF : FdG r = [.cells [.ro .byte (r.getD []), .bool r.isNone]] := rfl
      subst hll
      cases r with
      | none =>
        have hno : decQ b = none := by rw [hend, if_neg (by rintro ⟨q, _⟩; cases q)]
        have hi : (none : Option (List UInt8)).isNone = true := rfl
        (have zx1 := @hkd; have zx2 := @hF; have zx3 := @hi; all_goals (try ((first | (with_reducible refine wp_id ?_) | (with_reducible refine does_id ?_) | (with_reducible refine ops_id ?_)); refine walk ?_; (repeat' (first | exact trivial | with_reducible refine And.intro ?_ ?_)); all_goals (repeat (first | (with_reducible refine ImpB.mk fun hb => ?_) | (with_reducible refine ImpK.mk fun hK => ?_) | (with_reducible refine ImpF.mk fun hF => ?_) | (with_reducible refine ImpQ.mk fun hp => ?_) | (with_reducible refine AllE.mk fun p => ?_) | (with_reducible refine AllR.mk fun rest => ?_) | (with_reducible refine AllK.mk fun K => ?_))))); repeat' (with_reducible refine And.intro ?_ ?_))
        all_goals first | (with_reducible exact Nat.le_refl _) | (show _ ≤ (_ : Nat); omega) | (show _ < (_ : Int); omega) | (show _ ≤ (_ : Int); omega) | (show (_ : Nat) = _; omega) | skip
        rw [hno]
        simp only [qdecA]
        (focus (refine ⟨_, _, Gh.refl, [], rfl, ?_⟩; (refine fitq ?_ ?_ ?_ <;> try exact trivial); (try any_goals (refine ⟨?_, ?_⟩)); (try any_goals (with_reducible rfl))))
      | some ys =>
        have hi : (some ys : Option (List UInt8)).isNone = false := rfl
        have hg : (some ys : Option (List UInt8)).getD [] = ys := rfl
        by_cases hy : ys.length = 0
        · have hyd : decide ((0 : Int) < ys.length) = false := decide_eq_false (by omega)
          obtain rfl := List.length_eq_zero_iff.1 hy
          cases hv : vldQ l
          · have hno : decQ b = none := by rw [hend, if_neg (by rintro ⟨_, q⟩; rw [hv] at q; cases q)]
            (have zx1 := @hkd; have zx2 := @hF; have zx3 := @hi; have zx4 := @hg; have zx5 := @hyd; have zx6 := @hv; all_goals (try ((first | (with_reducible refine wp_id ?_) | (with_reducible refine does_id ?_) | (with_reducible refine ops_id ?_)); refine walk ?_; (repeat' (first | exact trivial | with_reducible refine And.intro ?_ ?_)); all_goals (repeat (first | (with_reducible refine ImpB.mk fun hb => ?_) | (with_reducible refine ImpK.mk fun hK => ?_) | (with_reducible refine ImpF.mk fun hF => ?_) | (with_reducible refine ImpQ.mk fun hp => ?_) | (with_reducible refine AllE.mk fun p => ?_) | (with_reducible refine AllR.mk fun rest => ?_) | (with_reducible refine AllK.mk fun K => ?_))))); repeat' (with_reducible refine And.intro ?_ ?_))
            all_goals first | (with_reducible exact Nat.le_refl _) | (show _ ≤ (_ : Nat); omega) | (show _ < (_ : Int); omega) | (show _ ≤ (_ : Int); omega) | (show (_ : Nat) = _; omega) | skip
            rw [hno]
            simp only [qdecA]
            (focus (refine ⟨_, _, Gh.refl, [], rfl, ?_⟩; (refine fitq ?_ ?_ ?_ <;> try exact trivial); (try any_goals (refine ⟨?_, ?_⟩)); (try any_goals (with_reducible rfl))))
          · have hyes : decQ b = some l := by rw [hend, if_pos ⟨rfl, hv⟩]
            (have zx1 := @hkd; have zx2 := @hF; have zx3 := @hi; have zx4 := @hg; have zx5 := @hyd; have zx6 := @hv; all_goals (try ((first | (with_reducible refine wp_id ?_) | (with_reducible refine does_id ?_) | (with_reducible refine ops_id ?_)); refine walk ?_; (repeat' (first | exact trivial | with_reducible refine And.intro ?_ ?_)); all_goals (repeat (first | (with_reducible refine ImpB.mk fun hb => ?_) | (with_reducible refine ImpK.mk fun hK => ?_) | (with_reducible refine ImpF.mk fun hF => ?_) | (with_reducible refine ImpQ.mk fun hp => ?_) | (with_reducible refine AllE.mk fun p => ?_) | (with_reducible refine AllR.mk fun rest => ?_) | (with_reducible refine AllK.mk fun K => ?_))))); repeat' (with_reducible refine And.intro ?_ ?_))
            all_goals first | (with_reducible exact Nat.le_refl _) | (show _ ≤ (_ : Nat); omega) | (show _ < (_ : Int); omega) | (show _ ≤ (_ : Int); omega) | (show (_ : Nat) = _; omega) | skip
            rw [hyes]
            simp only [qdecA]
            refine ⟨_, _, gh_frz (t := 1) (e := .stp) (xs := l) rfl ?f1 ?f2, [], rfl, ?ft⟩
            case' ft => (refine fitq ?_ ?_ ?_ <;> try exact trivial)
            case' f1 => simp only [go_sem, decide_true, decide_false, Int.reduceToNat, Nat.min_eq_left, Nat.min_eq_right, Int.reducePow, Nat.reducePow, Int.reduceLE, Int.reduceLT, Int.reduceMul, Int.reduceAdd, Int.reduceSub, Int.reduceNeg, Bool.not_true, Bool.not_false, Bool.not_not, ↓reduceIte, Nat.reduceAdd, Nat.reduceSub, Nat.reduceMul, Nat.reduceEqDiff, reduceCtorEq, Nat.reduceLT, Nat.reduceLeDiff, Nat.reduceGT]
            case' f2 => simp only [go_sem, decide_true, decide_false, Int.reduceToNat, Nat.min_eq_left, Nat.min_eq_right, Int.reducePow, Nat.reducePow, Int.reduceLE, Int.reduceLT, Int.reduceMul, Int.reduceAdd, Int.reduceSub, Int.reduceNeg, Bool.not_true, Bool.not_false, Bool.not_not, ↓reduceIte, Nat.reduceAdd, Nat.reduceSub, Nat.reduceMul, Nat.reduceEqDiff, reduceCtorEq, Nat.reduceLT, Nat.reduceLeDiff, Nat.reduceGT]
            all_goals first | exact Nat.le_refl _ | exact ⟨Nat.le_refl _, False.elim⟩ | exact False.elim | (repeat' (first | (refine And.intro ?_ ?_) | rfl))
        · have hyd : decide ((0 : Int) < ys.length) = true := decide_eq_true (by omega)
          have hno : decQ b = none := by rw [hend, if_neg (by rintro ⟨q, _⟩; cases q; exact hy rfl)]
          (have zx1 := @hkd; have zx2 := @hF; have zx3 := @hi; have zx4 := @hg; have zx5 := @hyd; all_goals (try ((first | (with_reducible refine wp_id ?_) | (with_reducible refine does_id ?_) | (with_reducible refine ops_id ?_)); refine walk ?_; (repeat' (first | exact trivial | with_reducible refine And.intro ?_ ?_)); all_goals (repeat (first | (with_reducible refine ImpB.mk fun hb => ?_) | (with_reducible refine ImpK.mk fun hK => ?_) | (with_reducible refine ImpF.mk fun hF => ?_) | (with_reducible refine ImpQ.mk fun hp => ?_) | (with_reducible refine AllE.mk fun p => ?_) | (with_reducible refine AllR.mk fun rest => ?_) | (with_reducible refine AllK.mk fun K => ?_))))); repeat' (with_reducible refine And.intro ?_ ?_))
          all_goals first | (with_reducible exact Nat.le_refl _) | (show _ ≤ (_ : Nat); omega) | (show _ < (_ : Int); omega) | (show _ ≤ (_ : Int); omega) | (show (_ : Nat) = _; omega) | skip
          rw [hno]
          simp only [qdecA]
          (focus (refine ⟨_, _, Gh.refl, [], rfl, ?_⟩; (refine fitq ?_ ?_ ?_ <;> try exact trivial); (try any_goals (refine ⟨?_, ?_⟩)); (try any_goals (with_reducible rfl))))
theorem c_rqdec {h : List Ch} {K : KT} {b : List UInt8} {a : AV} (H : K (qdecA (decQ b)) h) (q1 : isRO .byte b a) (s1 : b.length ≤ 1000000) : Does Try.prog 24 [a] h K :=
  frame_pure (b_rqdec b s1) (br_cons q1.br br_nil) (.inl (by rw [brTL, q1.brT]; rfl)) (fun _ => by unfold qdecA; cases decQ b <;> rfl) H
abbrev i_rqdec := Ctr.mk (i := 0) (g := 24) @c_rqdec
attribute [instance] i_rqdec
end Go.V
