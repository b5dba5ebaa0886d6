/-
  ref42: Decode.
  ref42: Same, Light.
  ledger: right, New, Load.
  ledger: New, Load.
  ref40: Load.
-/
import Derived.Test.YthfcimcmmhnjmaaPart16
import Derived.Test.YthfcimcmmhnjmaaPart12
set_option linter.unusedVariables false
set_option linter.unusedSimpArgs false
set_option maxRecDepth 100000
set_option maxHeartbeats 1000000
namespace Go.V
open Go.Proofs
attribute [-go_sem] Wr
attribute [local go_sem] decA rdecA
theorem c_frcount_s {h : List Ch} {K : KT} {t : Nat} {ys : List UInt8} {most : Int} {n : Int} {r' : Option (List UInt8)} (H : K (.int .i64 n) (h.set t (.pack (Fd r')))) (o : hth h t = .pack [.cells [.ro .byte ys, .bool false]]) (e : countR (some ys) most = (n, r')) (s1 : ys.length ≤ 1099511627776) : Does Try.prog 44 [.ptr t 0, .int .i64 most] h K :=
  c_frcount (r := some ys) H o e s1
abbrev i_frcount_s := Ctr.mk (i := 1) (g := 44) @c_frcount_s
attribute [instance] i_frcount_s
theorem c_frint_s {h : List Ch} {K : KT} {t : Nat} {ys : List UInt8} {n : Int} {r' : Option (List UInt8)} (H : K (.int .i64 n) (h.set t (.pack (Fd r')))) (o : hth h t = .pack [.cells [.ro .byte ys, .bool false]]) (e : intR (some ys) = (n, r')) (s1 : ys.length ≤ 1099511627776) : Does Try.prog 40 [.ptr t 0] h K :=
  c_frint (r := some ys) H o e s1
abbrev i_frint_s := Ctr.mk (i := 1) (g := 40) @c_frint_s
attribute [instance] i_frint_s
/-- what the reference's decoding answers: the same -/
theorem rsdec_no {b : List UInt8} {n : Int} {r0 : Option (List UInt8)} {k : Nat} (e0 : countR (some b) 256 = (n, r0)) (h : (rdsE 4096 r0 k).1 = none) (hk : k ≤ n.toNat) : decE b = none := by
  rw [decE, decEm, e0]
  obtain ⟨j, hj⟩ := Nat.exists_eq_add_of_le hk
  have := rds_none h j
  rw [← hj] at this
  simp only
  split
  · rename_i l r e
    rw [e] at this
    cases this
  · rfl
theorem rsdec_end {b : List UInt8} {n : Int} {r0 r : Option (List UInt8)} {l : List Ent} (e0 : countR (some b) 256 = (n, r0)) (h : rdsE 4096 r0 n.toNat = (some l, r)) : decE b = if r = some [] ∧ chkE l 256 = 0 ∧ encE l = b then some l else none := by
  rw [decE, decEm, e0]
  simp only [h]
theorem rsdec_bad {b : List UInt8} {n : Int} {r0 : Option (List UInt8)} {k : Nat} {l : List Ent} (e0 : countR (some b) 256 = (n, r0)) (h : rdsE 4096 r0 k = (some l, none)) (hk : k < n.toNat) : decE b = none := by
  refine rsdec_no e0 (k := k + 1) ?_ (by omega)
  rw [rds_step h]
  have : (oneR 4096 none).1 = none := by decide
  rw [this]
  rfl
theorem b_rsdec (b : List UInt8) (hb : b.length ≤ 1000000) : DoesK Try.prog 0 43 [.ro .byte b] [] (EndF 0 (sdecA (decE b)) []) := by
  refine DoesK.close ?_
  have hL0 := countR_len (some b) 256
  rcases e0 : countR (some b) 256 with ⟨n, r0⟩
  rw [e0] at hL0
  have hn256 := countR_le (r := some b) (m := 256) (by decide)
  rw [e0] at hn256
  simp only at hn256
  have hLb : lenR (some b) = b.length := rfl
  simp only [hLb] at hL0
  refine w_body (rs := [.tmp 2, .tmp 3]) (tm := [.ro .byte b, .any, .any, .any, .any, .any, .any, .any, .any, .any, .any, .any, .any, .any, .any, .any, .any, .any, .any, .any, .any, .any, .any, .any, .any, .any, .any, .any, .any, .any, .any, .any, .any, .any, .any, .any, .any, .any, .any, .any, .any, .any, .any, .any, .any, .any, .any, .any, .any, .any, .any, .any, .any, .any, .any, .any, .any, .any, .any, .any, .any, .any, .any]) fn_43 rfl rfl rfl rfl fun R hR => ?_
  (all_goals (try ((first | (with_reducible refine wp_id ?_) | (with_reducible refine does_id ?_)); refine walk ?_; (repeat' (first | exact trivial | with_reducible refine And.intro ?_ ?_)); all_goals (repeat (first | (with_reducible refine ImpB.mk fun hb => ?_) | (with_reducible refine ImpK.mk fun hK => ?_) | (with_reducible refine ImpF.mk fun hF => ?_) | (with_reducible refine AllK.mk fun K => ?_))))); repeat' (with_reducible refine And.intro ?_ ?_))
  any_goals refine Wp.ghost (gh_adopt (s := 6) .ent trivial) ?_
  any_goals (refine w_loop (A := Nat × List Ent × Option (List UInt8)) (fun p => rdsE 4096 r0 p.1 = (some p.2.1, p.2.2) ∧ p.1 ≤ n.toNat) (fun p => n.toNat - p.1) (fun p => [(7, .int .i64 p.1), (6, .sl 1 .ent 0 p.2.1.length)]) (fun p => [(0, .pack (Fd p.2.2)), (1, .rows .ent p.2.1)]) ((0, [], r0)) (ws := ?ws1) (tk := ?tk1) ?hw1 ?ht1 ?hi ?h0 ?LH1; (case hw1 => simp only [go_sem, Int.reduceToNat, Nat.min_eq_left, Nat.min_eq_right, Int.reducePow, Nat.reducePow, Int.reduceLE, Int.reduceLT, Int.reduceMul, Int.reduceAdd, Int.reduceSub, Int.reduceNeg, Bool.not_true, Bool.not_false, Bool.not_not, ↓reduceIte, Nat.reduceAdd, Nat.reduceSub, Nat.reduceMul, Nat.reduceEqDiff, reduceCtorEq, Nat.reduceLT, Nat.reduceLeDiff, Nat.reduceGT]; exact rfl); (case ht1 => simp only [go_sem, Int.reduceToNat, Nat.min_eq_left, Nat.min_eq_right, Int.reducePow, Nat.reducePow, Int.reduceLE, Int.reduceLT, Int.reduceMul, Int.reduceAdd, Int.reduceSub, Int.reduceNeg, Bool.not_true, Bool.not_false, Bool.not_not, ↓reduceIte, Nat.reduceAdd, Nat.reduceSub, Nat.reduceMul, Nat.reduceEqDiff, reduceCtorEq, Nat.reduceLT, Nat.reduceLeDiff, Nat.reduceGT]; exact rfl); (case' LH1 => rintro ⟨k, l, r⟩ E t hx hE ht; simp only [go_sem] at ht; subst ht; simp only [go_sem]; try dsimp only at hx))
  case LH1 =>
    have hlr := rds_lenR 4096 r0 k
    rw [hx.1] at hlr
    have hll := rds_length hx.1
    have hL1 : lenR r ≤ 1000000 := by simp only at hlr; omega
    by_cases hk : k < n.toNat
    · have hkd : decide ((k : Int) < n) = true := decide_eq_true (by omega)
      cases r with
      | none =>
        by_cases hc : chkE l 256 = 0
        · (have zx1 := @hkd; have zx2 := @hc; have zx3 := @Fd_none; all_goals (try ((first | (with_reducible refine wp_id ?_) | (with_reducible refine does_id ?_)); refine walk ?_; (repeat' (first | exact trivial | with_reducible refine And.intro ?_ ?_)); all_goals (repeat (first | (with_reducible refine ImpB.mk fun hb => ?_) | (with_reducible refine ImpK.mk fun hK => ?_) | (with_reducible refine ImpF.mk fun hF => ?_) | (with_reducible refine AllK.mk fun K => ?_))))); repeat' (with_reducible refine And.intro ?_ ?_))
          · rw [rsdec_bad e0 hx.1 hk]
            simp only [sdecA]
            (focus (refine ⟨_, _, Gh.refl, [], rfl, ?_⟩; (refine ⟨?_, ?_, ?_⟩ <;> simp only [go_sem, List.range, List.range.loop, List.nodup_cons, List.nodup_nil, List.mem_cons, List.not_mem_nil, or_false, or_self, Int.reduceToNat, Nat.min_eq_left, Nat.min_eq_right, Int.reducePow, Nat.reducePow, Int.reduceLE, Int.reduceLT, Int.reduceMul, Int.reduceAdd, Int.reduceSub, Int.reduceNeg, Bool.not_true, Bool.not_false, Bool.not_not, ↓reduceIte, Nat.reduceAdd, Nat.reduceSub, Nat.reduceMul, Nat.reduceEqDiff, reduceCtorEq, Nat.reduceLT, Nat.reduceLeDiff, Nat.reduceGT]); (try any_goals (refine ⟨?_, ?_⟩)); (try any_goals (with_reducible rfl))))
          · exact rds_lit hx.1
        · (have zx1 := @hkd; have zx2 := @Fd_none; all_goals (try ((first | (with_reducible refine wp_id ?_) | (with_reducible refine does_id ?_)); refine walk ?_; (repeat' (first | exact trivial | with_reducible refine And.intro ?_ ?_)); all_goals (repeat (first | (with_reducible refine ImpB.mk fun hb => ?_) | (with_reducible refine ImpK.mk fun hK => ?_) | (with_reducible refine ImpF.mk fun hF => ?_) | (with_reducible refine AllK.mk fun K => ?_))))); repeat' (with_reducible refine And.intro ?_ ?_))
          · rw [rsdec_bad e0 hx.1 hk]
            simp only [sdecA]
            (focus (refine ⟨_, _, Gh.refl, [], rfl, ?_⟩; (refine ⟨?_, ?_, ?_⟩ <;> simp only [go_sem, List.range, List.range.loop, List.nodup_cons, List.nodup_nil, List.mem_cons, List.not_mem_nil, or_false, or_self, Int.reduceToNat, Nat.min_eq_left, Nat.min_eq_right, Int.reducePow, Nat.reducePow, Int.reduceLE, Int.reduceLT, Int.reduceMul, Int.reduceAdd, Int.reduceSub, Int.reduceNeg, Bool.not_true, Bool.not_false, Bool.not_not, ↓reduceIte, Nat.reduceAdd, Nat.reduceSub, Nat.reduceMul, Nat.reduceEqDiff, reduceCtorEq, Nat.reduceLT, Nat.reduceLeDiff, Nat.reduceGT]); (try any_goals (refine ⟨?_, ?_⟩)); (try any_goals (with_reducible rfl))))
          · exact rds_lit hx.1
      | some ys =>
        have hst := rds_step hx.1
        have hM1 := intR_len (some ys)
        rcases e1 : intR (some ys) with ⟨i1, q1⟩
        have hM2 := intR_len q1
        rcases e2 : intR q1 with ⟨i2, q2⟩
        have hM3 := uintR_lenR q2 1
        have hb3 := uintR_bd q2 1
        rcases e3 : uintR q2 1 with ⟨g, q3⟩
        have hM4 := blobR_lens q3 4096
        rcases e4 : blobR q3 4096 with ⟨d, q4⟩
        simp only [oneR, e1, e2, e3, e4] at hst
        rw [e1] at hM1
        rw [e2] at hM2
        rw [e3] at hM3 hb3
        rw [e4] at hM4
        have hys : lenR (some ys) = ys.length := rfl
        simp only [hys] at hM1 hM2 hM3 hM4 hb3 hL1
        have w1 : IntKind.i64.wrap (g : Int) = g := wrap_i64 _ (by omega) (by omega)
        cases hd : decC d
        · rw [hd] at hst
          (have zx1 := @hkd; have zx2 := @w1; have zx3 := @hd; have zx4 := @Fd_some; all_goals (try ((first | (with_reducible refine wp_id ?_) | (with_reducible refine does_id ?_)); refine walk ?_; (repeat' (first | exact trivial | with_reducible refine And.intro ?_ ?_)); all_goals (repeat (first | (with_reducible refine ImpB.mk fun hb => ?_) | (with_reducible refine ImpK.mk fun hK => ?_) | (with_reducible refine ImpF.mk fun hF => ?_) | (with_reducible refine AllK.mk fun K => ?_))))); repeat' (with_reducible refine And.intro ?_ ?_))
          · omega
          · omega
          · rw [rsdec_no (k := k + 1) e0 (by rw [hst]; rfl) (by omega)]
            simp only [sdecA]
            (focus (refine ⟨_, _, Gh.refl, [], rfl, ?_⟩; (refine ⟨?_, ?_, ?_⟩ <;> simp only [go_sem, List.range, List.range.loop, List.nodup_cons, List.nodup_nil, List.mem_cons, List.not_mem_nil, or_false, or_self, Int.reduceToNat, Nat.min_eq_left, Nat.min_eq_right, Int.reducePow, Nat.reducePow, Int.reduceLE, Int.reduceLT, Int.reduceMul, Int.reduceAdd, Int.reduceSub, Int.reduceNeg, Bool.not_true, Bool.not_false, Bool.not_not, ↓reduceIte, Nat.reduceAdd, Nat.reduceSub, Nat.reduceMul, Nat.reduceEqDiff, reduceCtorEq, Nat.reduceLT, Nat.reduceLeDiff, Nat.reduceGT]); (try any_goals (refine ⟨?_, ?_⟩)); (try any_goals (with_reducible rfl))))
        · rename_i c
          rw [hd] at hst
          (have zx1 := @hkd; have zx2 := @w1; have zx3 := @hd; have zx4 := @Fd_some; all_goals (try ((first | (with_reducible refine wp_id ?_) | (with_reducible refine does_id ?_)); refine walk ?_; (repeat' (first | exact trivial | with_reducible refine And.intro ?_ ?_)); all_goals (repeat (first | (with_reducible refine ImpB.mk fun hb => ?_) | (with_reducible refine ImpK.mk fun hK => ?_) | (with_reducible refine ImpF.mk fun hF => ?_) | (with_reducible refine AllK.mk fun K => ?_))))); repeat' (with_reducible refine And.intro ?_ ?_))
          · omega
          · omega
          · refine ⟨(k + 1, l ++ [⟨i1, i2, g, c⟩], q4), ⟨⟨(show rdsE 4096 r0 (k + 1) = (some (l ++ [(⟨i1, i2, (g : Int), c⟩ : Ent)]), q4) from hst), by dsimp only; omega⟩, by dsimp only; omega⟩, ?_⟩
            (focus (refine ⟨_, _, Gh.refl, [0, 5], rfl, ?_⟩; (refine ⟨?_, ?_, ?_⟩ <;> simp only [go_sem, List.range, List.range.loop, List.nodup_cons, List.nodup_nil, List.mem_cons, List.not_mem_nil, or_false, or_self, Int.reduceToNat, Nat.min_eq_left, Nat.min_eq_right, Int.reducePow, Nat.reducePow, Int.reduceLE, Int.reduceLT, Int.reduceMul, Int.reduceAdd, Int.reduceSub, Int.reduceNeg, Bool.not_true, Bool.not_false, Bool.not_not, ↓reduceIte, Nat.reduceAdd, Nat.reduceSub, Nat.reduceMul, Nat.reduceEqDiff, reduceCtorEq, Nat.reduceLT, Nat.reduceLeDiff, Nat.reduceGT]); (try any_goals (refine ⟨?_, ?_⟩)); (try any_goals (with_reducible rfl))))
            all_goals first | (first | with_reducible rfl | omega | ((simp (disch := omega) only [wrap_i64]); first | done | omega) | (simp only [List.append_assoc, List.cons_append, List.nil_append]; done)) | skip
    · have hkd : decide ((k : Int) < n) = false := decide_eq_false (by omega)
      have hkn : k = n.toNat := by omega
      have hend := rsdec_end e0 (by rw [← hkn]; exact hx.1)
      cases r with
      | none =>
        by_cases hc : chkE l 256 = 0
        · (have zx1 := @hkd; have zx2 := @hc; have zx3 := @Fd_none; all_goals (try ((first | (with_reducible refine wp_id ?_) | (with_reducible refine does_id ?_)); refine walk ?_; (repeat' (first | exact trivial | with_reducible refine And.intro ?_ ?_)); all_goals (repeat (first | (with_reducible refine ImpB.mk fun hb => ?_) | (with_reducible refine ImpK.mk fun hK => ?_) | (with_reducible refine ImpF.mk fun hF => ?_) | (with_reducible refine AllK.mk fun K => ?_))))); repeat' (with_reducible refine And.intro ?_ ?_))
          · rw [hend, if_neg (by rintro ⟨q, _⟩; cases q)]
            simp only [sdecA]
            (focus (refine ⟨_, _, Gh.refl, [], rfl, ?_⟩; (refine ⟨?_, ?_, ?_⟩ <;> simp only [go_sem, List.range, List.range.loop, List.nodup_cons, List.nodup_nil, List.mem_cons, List.not_mem_nil, or_false, or_self, Int.reduceToNat, Nat.min_eq_left, Nat.min_eq_right, Int.reducePow, Nat.reducePow, Int.reduceLE, Int.reduceLT, Int.reduceMul, Int.reduceAdd, Int.reduceSub, Int.reduceNeg, Bool.not_true, Bool.not_false, Bool.not_not, ↓reduceIte, Nat.reduceAdd, Nat.reduceSub, Nat.reduceMul, Nat.reduceEqDiff, reduceCtorEq, Nat.reduceLT, Nat.reduceLeDiff, Nat.reduceGT]); (try any_goals (refine ⟨?_, ?_⟩)); (try any_goals (with_reducible rfl))))
          · exact rds_lit hx.1
        · (have zx1 := @hkd; have zx2 := @Fd_none; all_goals (try ((first | (with_reducible refine wp_id ?_) | (with_reducible refine does_id ?_)); refine walk ?_; (repeat' (first | exact trivial | with_reducible refine And.intro ?_ ?_)); all_goals (repeat (first | (with_reducible refine ImpB.mk fun hb => ?_) | (with_reducible refine ImpK.mk fun hK => ?_) | (with_reducible refine ImpF.mk fun hF => ?_) | (with_reducible refine AllK.mk fun K => ?_))))); repeat' (with_reducible refine And.intro ?_ ?_))
          · rw [hend, if_neg (by rintro ⟨q, _⟩; cases q)]
            simp only [sdecA]
            (focus (refine ⟨_, _, Gh.refl, [], rfl, ?_⟩; (refine ⟨?_, ?_, ?_⟩ <;> simp only [go_sem, List.range, List.range.loop, List.nodup_cons, List.nodup_nil, List.mem_cons, List.not_mem_nil, or_false, or_self, Int.reduceToNat, Nat.min_eq_left, Nat.min_eq_right, Int.reducePow, Nat.reducePow, Int.reduceLE, Int.reduceLT, Int.reduceMul, Int.reduceAdd, Int.reduceSub, Int.reduceNeg, Bool.not_true, Bool.not_false, Bool.not_not, ↓reduceIte, Nat.reduceAdd, Nat.reduceSub, Nat.reduceMul, Nat.reduceEqDiff, reduceCtorEq, Nat.reduceLT, Nat.reduceLeDiff, Nat.reduceGT]); (try any_goals (refine ⟨?_, ?_⟩)); (try any_goals (with_reducible rfl))))
          · exact rds_lit hx.1
      | some ys =>
        by_cases hc : chkE l 256 = 0
        · (have zx1 := @hkd; have zx2 := @hc; have zx3 := @Fd_some; all_goals (try ((first | (with_reducible refine wp_id ?_) | (with_reducible refine does_id ?_)); refine walk ?_; (repeat' (first | exact trivial | with_reducible refine And.intro ?_ ?_)); all_goals (repeat (first | (with_reducible refine ImpB.mk fun hb => ?_) | (with_reducible refine ImpK.mk fun hK => ?_) | (with_reducible refine ImpF.mk fun hF => ?_) | (with_reducible refine AllK.mk fun K => ?_))))); repeat' (with_reducible refine And.intro ?_ ?_))
          all_goals try exact absurd hb (by decide)
          · exact Nat.le_refl _
          · rw [hend, if_neg (by rintro ⟨_, _, q⟩; simp [q] at hb)]
            simp only [sdecA]
            (focus (refine ⟨_, _, Gh.refl, [], rfl, ?_⟩; (refine ⟨?_, ?_, ?_⟩ <;> simp only [go_sem, List.range, List.range.loop, List.nodup_cons, List.nodup_nil, List.mem_cons, List.not_mem_nil, or_false, or_self, Int.reduceToNat, Nat.min_eq_left, Nat.min_eq_right, Int.reducePow, Nat.reducePow, Int.reduceLE, Int.reduceLT, Int.reduceMul, Int.reduceAdd, Int.reduceSub, Int.reduceNeg, Bool.not_true, Bool.not_false, Bool.not_not, ↓reduceIte, Nat.reduceAdd, Nat.reduceSub, Nat.reduceMul, Nat.reduceEqDiff, reduceCtorEq, Nat.reduceLT, Nat.reduceLeDiff, Nat.reduceGT]); (try any_goals (refine ⟨?_, ?_⟩)); (try any_goals (with_reducible rfl))))
          · rw [decE_iff.2 ⟨hc, by simpa using hb⟩]
            simp only [sdecA]
            refine ⟨_, _, gh_frz (t := 1) (e := .ent) (xs := l) rfl ?f1 ?f2, [], rfl, ?ft⟩
            case' ft => (refine ⟨?_, ?_, ?_⟩ <;> simp only [go_sem, List.range, List.range.loop, List.nodup_cons, List.nodup_nil, List.mem_cons, List.not_mem_nil, or_false, or_self, Int.reduceToNat, Nat.min_eq_left, Nat.min_eq_right, Int.reducePow, Nat.reducePow, Int.reduceLE, Int.reduceLT, Int.reduceMul, Int.reduceAdd, Int.reduceSub, Int.reduceNeg, Bool.not_true, Bool.not_false, Bool.not_not, ↓reduceIte, Nat.reduceAdd, Nat.reduceSub, Nat.reduceMul, Nat.reduceEqDiff, reduceCtorEq, Nat.reduceLT, Nat.reduceLeDiff, Nat.reduceGT])
            case' f1 => simp only [go_sem, Int.reduceToNat, Nat.min_eq_left, Nat.min_eq_right, Int.reducePow, Nat.reducePow, Int.reduceLE, Int.reduceLT, Int.reduceMul, Int.reduceAdd, Int.reduceSub, Int.reduceNeg, Bool.not_true, Bool.not_false, Bool.not_not, ↓reduceIte, Nat.reduceAdd, Nat.reduceSub, Nat.reduceMul, Nat.reduceEqDiff, reduceCtorEq, Nat.reduceLT, Nat.reduceLeDiff, Nat.reduceGT]
            case' f2 => simp only [go_sem, Int.reduceToNat, Nat.min_eq_left, Nat.min_eq_right, Int.reducePow, Nat.reducePow, Int.reduceLE, Int.reduceLT, Int.reduceMul, Int.reduceAdd, Int.reduceSub, Int.reduceNeg, Bool.not_true, Bool.not_false, Bool.not_not, ↓reduceIte, Nat.reduceAdd, Nat.reduceSub, Nat.reduceMul, Nat.reduceEqDiff, reduceCtorEq, Nat.reduceLT, Nat.reduceLeDiff, Nat.reduceGT]
            all_goals exact Nat.le_refl _
          · exact rds_lit hx.1
        · have hcd : decide (chkE l 256 = 0) = false := decide_eq_false hc
          (have zx1 := @hkd; have zx2 := @hcd; have zx3 := @Fd_some; all_goals (try ((first | (with_reducible refine wp_id ?_) | (with_reducible refine does_id ?_)); refine walk ?_; (repeat' (first | exact trivial | with_reducible refine And.intro ?_ ?_)); all_goals (repeat (first | (with_reducible refine ImpB.mk fun hb => ?_) | (with_reducible refine ImpK.mk fun hK => ?_) | (with_reducible refine ImpF.mk fun hF => ?_) | (with_reducible refine AllK.mk fun K => ?_))))); repeat' (with_reducible refine And.intro ?_ ?_))
          · rw [hend, if_neg (by rintro ⟨_, q, _⟩; exact hc q)]
            simp only [sdecA]
            (focus (refine ⟨_, _, Gh.refl, [], rfl, ?_⟩; (refine ⟨?_, ?_, ?_⟩ <;> simp only [go_sem, List.range, List.range.loop, List.nodup_cons, List.nodup_nil, List.mem_cons, List.not_mem_nil, or_false, or_self, Int.reduceToNat, Nat.min_eq_left, Nat.min_eq_right, Int.reducePow, Nat.reducePow, Int.reduceLE, Int.reduceLT, Int.reduceMul, Int.reduceAdd, Int.reduceSub, Int.reduceNeg, Bool.not_true, Bool.not_false, Bool.not_not, ↓reduceIte, Nat.reduceAdd, Nat.reduceSub, Nat.reduceMul, Nat.reduceEqDiff, reduceCtorEq, Nat.reduceLT, Nat.reduceLeDiff, Nat.reduceGT]); (try any_goals (refine ⟨?_, ?_⟩)); (try any_goals (with_reducible rfl))))
          · rw [hend, if_neg (by rintro ⟨_, q, _⟩; exact hc q)]
            simp only [sdecA]
            (focus (refine ⟨_, _, Gh.refl, [], rfl, ?_⟩; (refine ⟨?_, ?_, ?_⟩ <;> simp only [go_sem, List.range, List.range.loop, List.nodup_cons, List.nodup_nil, List.mem_cons, List.not_mem_nil, or_false, or_self, Int.reduceToNat, Nat.min_eq_left, Nat.min_eq_right, Int.reducePow, Nat.reducePow, Int.reduceLE, Int.reduceLT, Int.reduceMul, Int.reduceAdd, Int.reduceSub, Int.reduceNeg, Bool.not_true, Bool.not_false, Bool.not_not, ↓reduceIte, Nat.reduceAdd, Nat.reduceSub, Nat.reduceMul, Nat.reduceEqDiff, reduceCtorEq, Nat.reduceLT, Nat.reduceLeDiff, Nat.reduceGT]); (try any_goals (refine ⟨?_, ?_⟩)); (try any_goals (with_reducible rfl))))
          · exfalso; simp_all
          · exact rds_lit hx.1
  · exact ⟨rfl, Nat.zero_le _⟩
  · (focus (refine ⟨_, _, Gh.refl, [0, 1], rfl, ?_⟩; (refine ⟨?_, ?_, ?_⟩ <;> simp only [go_sem, List.range, List.range.loop, List.nodup_cons, List.nodup_nil, List.mem_cons, List.not_mem_nil, or_false, or_self, Int.reduceToNat, Nat.min_eq_left, Nat.min_eq_right, Int.reducePow, Nat.reducePow, Int.reduceLE, Int.reduceLT, Int.reduceMul, Int.reduceAdd, Int.reduceSub, Int.reduceNeg, Bool.not_true, Bool.not_false, Bool.not_not, ↓reduceIte, Nat.reduceAdd, Nat.reduceSub, Nat.reduceMul, Nat.reduceEqDiff, reduceCtorEq, Nat.reduceLT, Nat.reduceLeDiff, Nat.reduceGT]); (try any_goals (refine ⟨?_, ?_⟩)); (try any_goals (with_reducible rfl))))
    all_goals rfl
theorem c_rsdec {h : List Ch} {K : KT} {b : List UInt8} {a : AV} (H : K (sdecA (decE b)) h) (q1 : isRO .byte b a) (s1 : b.length ≤ 1000000) : Does Try.prog 43 [a] h K :=
  frame_pure (b_rsdec b s1) (br_cons q1.br br_nil) (.inl (by rw [brTL, q1.brT]; rfl)) (fun _ => by unfold sdecA; cases decE b <;> rfl) H
abbrev i_rsdec := Ctr.mk (i := 0) (g := 43) @c_rsdec
attribute [instance] i_rsdec
end Go.V

set_option maxRecDepth 100000
set_option maxHeartbeats 1000000
namespace Go.V
open Go.Proofs
theorem ent_ext {l m : List Ent} (hl : l.length = m.length) (h : ∀ j, j < l.length → l.getD j Ent.zero = m.getD j Ent.zero) : l = m := by
  apply List.ext_getElem hl
  intro j h1 h2
  have := h j h1
  rw [List.getD_eq_getElem?_getD, List.getD_eq_getElem?_getD, List.getElem?_eq_getElem h1, List.getElem?_eq_getElem h2] at this
  exact this
theorem ent_eq {x y : Ent} (h1 : x.id = y.id) (h2 : x.time = y.time) (h3 : x.group = y.group) (h4 : x.c = y.c) : x = y := by
  cases x; cases y
  simp only at h1 h2 h3 h4
  subst h1; subst h2; subst h3; subst h4
  rfl
theorem b_esame (l m : List Ent) (hl : l.length ≤ 1099511627776) (hm : m.length ≤ 1099511627776) (ha : litE l) : DoesK Try.prog 0 45 [.ro .ent l, .ro .ent m] [] (EndF 0 (.bool (decide (l = m))) []) := by
  refine DoesK.close ?_
  by_cases hlm : l.length = m.length
  · have hld : decide ((l.length : Int) = m.length) = true := decide_eq_true (by omega)
    refine w_body (rs := [.tmp 4]) (tm := [.ro .ent l, .ro .ent m, .any, .any, .any, .any, .any, .any, .any, .any, .any, .any, .any, .any, .any, .any, .any, .any, .any, .any, .any, .any, .any, .any, .any, .any, .any, .any, .any, .any, .any, .any, .any, .any, .any, .any, .any, .any, .any, .any, .any, .any, .any, .any, .any, .any, .any, .any, .any, .any, .any, .any, .any, .any, .any, .any, .any, .any, .any, .any, .any, .any, .any, .any, .any, .any, .any, .any]) fn_45 rfl rfl rfl rfl fun R hR => ?_
    (all_goals (try ((first | (with_reducible refine wp_id ?_) | (with_reducible refine does_id ?_)); refine walk ?_; (repeat' (first | exact trivial | with_reducible refine And.intro ?_ ?_)); all_goals (repeat (first | (with_reducible refine ImpB.mk fun hb => ?_) | (with_reducible refine ImpK.mk fun hK => ?_) | (with_reducible refine ImpF.mk fun hF => ?_) | (with_reducible refine AllK.mk fun K => ?_))))); repeat' (with_reducible refine And.intro ?_ ?_))
    all_goals try (exfalso; simp [hlm] at hb; done)
    any_goals (refine w_loop (A := Nat) (fun k => k ≤ l.length ∧ (∀ j, j < k → l.getD j Ent.zero = m.getD j Ent.zero)) (fun k => l.length - k) (fun k => [(5, .int .i64 k)]) (fun _ => []) (0) (ws := ?ws1) (tk := ?tk1) ?hw1 ?ht1 ?hi ?h0 ?LH1; (case hw1 => simp only [go_sem, Int.reduceToNat, Nat.min_eq_left, Nat.min_eq_right, Int.reducePow, Nat.reducePow, Int.reduceLE, Int.reduceLT, Int.reduceMul, Int.reduceAdd, Int.reduceSub, Int.reduceNeg, Bool.not_true, Bool.not_false, Bool.not_not, ↓reduceIte, Nat.reduceAdd, Nat.reduceSub, Nat.reduceMul, Nat.reduceEqDiff, reduceCtorEq, Nat.reduceLT, Nat.reduceLeDiff, Nat.reduceGT]; exact rfl); (case ht1 => simp only [go_sem, Int.reduceToNat, Nat.min_eq_left, Nat.min_eq_right, Int.reducePow, Nat.reducePow, Int.reduceLE, Int.reduceLT, Int.reduceMul, Int.reduceAdd, Int.reduceSub, Int.reduceNeg, Bool.not_true, Bool.not_false, Bool.not_not, ↓reduceIte, Nat.reduceAdd, Nat.reduceSub, Nat.reduceMul, Nat.reduceEqDiff, reduceCtorEq, Nat.reduceLT, Nat.reduceLeDiff, Nat.reduceGT]; exact rfl); (case' LH1 => rintro k E t hx hE ht; simp only [go_sem] at ht; subst ht; simp only [go_sem]; try dsimp only at hx))
    case LH1 =>
      have hak := litE_get ha k
      by_cases hk : k < l.length
      · have hkd : decide ((k : Int) < l.length) = true := decide_eq_true (by omega)
        (have zx1 := @hkd; all_goals (try ((first | (with_reducible refine wp_id ?_) | (with_reducible refine does_id ?_)); refine walk ?_; (repeat' (first | exact trivial | with_reducible refine And.intro ?_ ?_)); all_goals (repeat (first | (with_reducible refine ImpB.mk fun hb => ?_) | (with_reducible refine ImpK.mk fun hK => ?_) | (with_reducible refine ImpF.mk fun hF => ?_) | (with_reducible refine AllK.mk fun K => ?_))))); repeat' (with_reducible refine And.intro ?_ ?_))
        all_goals try first | omega | (with_reducible exact Int.natCast_nonneg _)
        · rw [decide_eq_false (fun q => by subst q; simp at hb)]
          (focus (refine ⟨_, _, Gh.refl, [], rfl, ?_⟩; (refine ⟨?_, ?_, ?_⟩ <;> simp only [go_sem, List.range, List.range.loop, List.nodup_cons, List.nodup_nil, List.mem_cons, List.not_mem_nil, or_false, or_self, Int.reduceToNat, Nat.min_eq_left, Nat.min_eq_right, Int.reducePow, Nat.reducePow, Int.reduceLE, Int.reduceLT, Int.reduceMul, Int.reduceAdd, Int.reduceSub, Int.reduceNeg, Bool.not_true, Bool.not_false, Bool.not_not, ↓reduceIte, Nat.reduceAdd, Nat.reduceSub, Nat.reduceMul, Nat.reduceEqDiff, reduceCtorEq, Nat.reduceLT, Nat.reduceLeDiff, Nat.reduceGT]); (try any_goals (refine ⟨?_, ?_⟩)); (try any_goals (with_reducible rfl))))
        · rw [decide_eq_false (fun q => by subst q; simp at hb)]
          (focus (refine ⟨_, _, Gh.refl, [], rfl, ?_⟩; (refine ⟨?_, ?_, ?_⟩ <;> simp only [go_sem, List.range, List.range.loop, List.nodup_cons, List.nodup_nil, List.mem_cons, List.not_mem_nil, or_false, or_self, Int.reduceToNat, Nat.min_eq_left, Nat.min_eq_right, Int.reducePow, Nat.reducePow, Int.reduceLE, Int.reduceLT, Int.reduceMul, Int.reduceAdd, Int.reduceSub, Int.reduceNeg, Bool.not_true, Bool.not_false, Bool.not_not, ↓reduceIte, Nat.reduceAdd, Nat.reduceSub, Nat.reduceMul, Nat.reduceEqDiff, reduceCtorEq, Nat.reduceLT, Nat.reduceLeDiff, Nat.reduceGT]); (try any_goals (refine ⟨?_, ?_⟩)); (try any_goals (with_reducible rfl))))
        · rw [decide_eq_false (fun q => by subst q; simp at hb)]
          (focus (refine ⟨_, _, Gh.refl, [], rfl, ?_⟩; (refine ⟨?_, ?_, ?_⟩ <;> simp only [go_sem, List.range, List.range.loop, List.nodup_cons, List.nodup_nil, List.mem_cons, List.not_mem_nil, or_false, or_self, Int.reduceToNat, Nat.min_eq_left, Nat.min_eq_right, Int.reducePow, Nat.reducePow, Int.reduceLE, Int.reduceLT, Int.reduceMul, Int.reduceAdd, Int.reduceSub, Int.reduceNeg, Bool.not_true, Bool.not_false, Bool.not_not, ↓reduceIte, Nat.reduceAdd, Nat.reduceSub, Nat.reduceMul, Nat.reduceEqDiff, reduceCtorEq, Nat.reduceLT, Nat.reduceLeDiff, Nat.reduceGT]); (try any_goals (refine ⟨?_, ?_⟩)); (try any_goals (with_reducible rfl))))
        · rw [decide_eq_false (fun q => by subst q; simp at hb)]
          (focus (refine ⟨_, _, Gh.refl, [], rfl, ?_⟩; (refine ⟨?_, ?_, ?_⟩ <;> simp only [go_sem, List.range, List.range.loop, List.nodup_cons, List.nodup_nil, List.mem_cons, List.not_mem_nil, or_false, or_self, Int.reduceToNat, Nat.min_eq_left, Nat.min_eq_right, Int.reducePow, Nat.reducePow, Int.reduceLE, Int.reduceLT, Int.reduceMul, Int.reduceAdd, Int.reduceSub, Int.reduceNeg, Bool.not_true, Bool.not_false, Bool.not_not, ↓reduceIte, Nat.reduceAdd, Nat.reduceSub, Nat.reduceMul, Nat.reduceEqDiff, reduceCtorEq, Nat.reduceLT, Nat.reduceLeDiff, Nat.reduceGT]); (try any_goals (refine ⟨?_, ?_⟩)); (try any_goals (with_reducible rfl))))
        · (try simp only [decide_eq_true_eq, decide_eq_false_iff_not, Bool.not_eq_true', Bool.not_eq_false', Bool.not_eq_true, Bool.not_eq_false, decide_not, decide_true, decide_false, Bool.decide_and, Bool.and_eq_true, Bool.or_eq_true, Bool.and_eq_false_imp, Decidable.not_not] at *)
          have heq := ent_eq (by assumption) (by assumption) (by assumption) hb
          refine ⟨k + 1, ⟨⟨by first | omega | (dsimp only; omega), fun j hj => ?n1⟩, by first | omega | (dsimp only; omega)⟩, ?n2⟩
          case n1 =>
            by_cases hjk : j < k
            · exact hx.2 j hjk
            · obtain rfl : j = k := by omega
              exact heq
          (focus (refine ⟨_, _, Gh.refl, [], rfl, ?_⟩; (refine ⟨?_, ?_, ?_⟩ <;> simp only [go_sem, List.range, List.range.loop, List.nodup_cons, List.nodup_nil, List.mem_cons, List.not_mem_nil, or_false, or_self, Int.reduceToNat, Nat.min_eq_left, Nat.min_eq_right, Int.reducePow, Nat.reducePow, Int.reduceLE, Int.reduceLT, Int.reduceMul, Int.reduceAdd, Int.reduceSub, Int.reduceNeg, Bool.not_true, Bool.not_false, Bool.not_not, ↓reduceIte, Nat.reduceAdd, Nat.reduceSub, Nat.reduceMul, Nat.reduceEqDiff, reduceCtorEq, Nat.reduceLT, Nat.reduceLeDiff, Nat.reduceGT]); (try any_goals (refine ⟨?_, ?_⟩)); (try any_goals (with_reducible rfl))))
          all_goals (simp (disch := omega) only [wrap_i64])
          all_goals first | done | omega
      · have hkd : decide ((k : Int) < l.length) = false := decide_eq_false (by omega)
        (have zx1 := @hkd; all_goals (try ((first | (with_reducible refine wp_id ?_) | (with_reducible refine does_id ?_)); refine walk ?_; (repeat' (first | exact trivial | with_reducible refine And.intro ?_ ?_)); all_goals (repeat (first | (with_reducible refine ImpB.mk fun hb => ?_) | (with_reducible refine ImpK.mk fun hK => ?_) | (with_reducible refine ImpF.mk fun hF => ?_) | (with_reducible refine AllK.mk fun K => ?_))))); repeat' (with_reducible refine And.intro ?_ ?_))
        rw [decide_eq_true (ent_ext hlm fun j hj => hx.2 j (by omega))]
        (focus (refine ⟨_, _, Gh.refl, [], rfl, ?_⟩; (refine ⟨?_, ?_, ?_⟩ <;> simp only [go_sem, List.range, List.range.loop, List.nodup_cons, List.nodup_nil, List.mem_cons, List.not_mem_nil, or_false, or_self, Int.reduceToNat, Nat.min_eq_left, Nat.min_eq_right, Int.reducePow, Nat.reducePow, Int.reduceLE, Int.reduceLT, Int.reduceMul, Int.reduceAdd, Int.reduceSub, Int.reduceNeg, Bool.not_true, Bool.not_false, Bool.not_not, ↓reduceIte, Nat.reduceAdd, Nat.reduceSub, Nat.reduceMul, Nat.reduceEqDiff, reduceCtorEq, Nat.reduceLT, Nat.reduceLeDiff, Nat.reduceGT]); (try any_goals (refine ⟨?_, ?_⟩)); (try any_goals (with_reducible rfl))))
    · exact ⟨Nat.zero_le _, fun j hj => by omega⟩
    · (focus (refine ⟨_, _, Gh.refl, [], rfl, ?_⟩; (refine ⟨?_, ?_, ?_⟩ <;> simp only [go_sem, List.range, List.range.loop, List.nodup_cons, List.nodup_nil, List.mem_cons, List.not_mem_nil, or_false, or_self, Int.reduceToNat, Nat.min_eq_left, Nat.min_eq_right, Int.reducePow, Nat.reducePow, Int.reduceLE, Int.reduceLT, Int.reduceMul, Int.reduceAdd, Int.reduceSub, Int.reduceNeg, Bool.not_true, Bool.not_false, Bool.not_not, ↓reduceIte, Nat.reduceAdd, Nat.reduceSub, Nat.reduceMul, Nat.reduceEqDiff, reduceCtorEq, Nat.reduceLT, Nat.reduceLeDiff, Nat.reduceGT]); (try any_goals (refine ⟨?_, ?_⟩)); (try any_goals (with_reducible rfl))))
  · have hld : decide ((l.length : Int) = m.length) = false := decide_eq_false (by omega)
    refine w_body (rs := [.tmp 4]) (tm := [.ro .ent l, .ro .ent m, .any, .any, .any, .any, .any, .any, .any, .any, .any, .any, .any, .any, .any, .any, .any, .any, .any, .any, .any, .any, .any, .any, .any, .any, .any, .any, .any, .any, .any, .any, .any, .any, .any, .any, .any, .any, .any, .any, .any, .any, .any, .any, .any, .any, .any, .any, .any, .any, .any, .any, .any, .any, .any, .any, .any, .any, .any, .any, .any, .any, .any, .any, .any, .any, .any, .any]) fn_45 rfl rfl rfl rfl fun R hR => ?_
    (all_goals (try ((first | (with_reducible refine wp_id ?_) | (with_reducible refine does_id ?_)); refine walk ?_; (repeat' (first | exact trivial | with_reducible refine And.intro ?_ ?_)); all_goals (repeat (first | (with_reducible refine ImpB.mk fun hb => ?_) | (with_reducible refine ImpK.mk fun hK => ?_) | (with_reducible refine ImpF.mk fun hF => ?_) | (with_reducible refine AllK.mk fun K => ?_))))); repeat' (with_reducible refine And.intro ?_ ?_))
    all_goals try (exfalso; simp at hb; omega)
    rw [decide_eq_false (fun q => hlm (by rw [q]))]
    (focus (refine ⟨_, _, Gh.refl, [], rfl, ?_⟩; (refine ⟨?_, ?_, ?_⟩ <;> simp only [go_sem, List.range, List.range.loop, List.nodup_cons, List.nodup_nil, List.mem_cons, List.not_mem_nil, or_false, or_self, Int.reduceToNat, Nat.min_eq_left, Nat.min_eq_right, Int.reducePow, Nat.reducePow, Int.reduceLE, Int.reduceLT, Int.reduceMul, Int.reduceAdd, Int.reduceSub, Int.reduceNeg, Bool.not_true, Bool.not_false, Bool.not_not, ↓reduceIte, Nat.reduceAdd, Nat.reduceSub, Nat.reduceMul, Nat.reduceEqDiff, reduceCtorEq, Nat.reduceLT, Nat.reduceLeDiff, Nat.reduceGT]); (try any_goals (refine ⟨?_, ?_⟩)); (try any_goals (with_reducible rfl))))
def liteB (x : Ent) : Bool := decide (x.c.args.length ≤ 40) && decide (x.c.data.length ≤ 1000)
theorem light_no {l : List Ent} {k : Nat} {n : Int} (hk : k < l.length) (h : liteB (l.getD k Ent.zero) = false) : (l.all liteB && decide ((l.length : Int) ≤ n)) = false := by
  rw [Bool.and_eq_false_iff]
  left
  rw [Bool.eq_false_iff]
  intro q
  rw [List.all_eq_true] at q
  have := q _ (List.getElem_mem hk)
  rw [List.getD_eq_getElem?_getD, List.getElem?_eq_getElem hk] at h
  simp only [Option.getD_some] at h
  rw [h] at this
  cases this
theorem b_elight (l : List Ent) (n : Int) (hl : l.length ≤ 140737488355328) : DoesK Try.prog 0 16 [.ro .ent l, .int .i64 n] [] (EndF 0 (.bool (l.all liteB && decide ((l.length : Int) ≤ n))) []) := by
  refine DoesK.close ?_
  refine w_body (rs := [.tmp 4]) (tm := [.ro .ent l, .int .i64 n, .any, .any, .any, .any, .any, .any, .any, .any, .any, .any, .any, .any, .any, .any, .any, .any, .any, .any, .any, .any, .any, .any, .any, .any, .any, .any, .any, .any, .any, .any, .any, .any]) fn_16 rfl rfl rfl rfl fun R hR => ?_
  (all_goals (try ((first | (with_reducible refine wp_id ?_) | (with_reducible refine does_id ?_)); refine walk ?_; (repeat' (first | exact trivial | with_reducible refine And.intro ?_ ?_)); all_goals (repeat (first | (with_reducible refine ImpB.mk fun hb => ?_) | (with_reducible refine ImpK.mk fun hK => ?_) | (with_reducible refine ImpF.mk fun hF => ?_) | (with_reducible refine AllK.mk fun K => ?_))))); repeat' (with_reducible refine And.intro ?_ ?_))
  any_goals (refine w_loop (A := Nat) (fun k => k ≤ l.length ∧ (l.take k).all liteB = true) (fun k => l.length - k) (fun k => [(5, .int .i64 k)]) (fun _ => []) (0) (ws := ?ws2) (tk := ?tk2) ?hw2 ?ht2 ?hi ?h0 ?LH2; (case hw2 => simp only [go_sem, Int.reduceToNat, Nat.min_eq_left, Nat.min_eq_right, Int.reducePow, Nat.reducePow, Int.reduceLE, Int.reduceLT, Int.reduceMul, Int.reduceAdd, Int.reduceSub, Int.reduceNeg, Bool.not_true, Bool.not_false, Bool.not_not, ↓reduceIte, Nat.reduceAdd, Nat.reduceSub, Nat.reduceMul, Nat.reduceEqDiff, reduceCtorEq, Nat.reduceLT, Nat.reduceLeDiff, Nat.reduceGT]; exact rfl); (case ht2 => simp only [go_sem, Int.reduceToNat, Nat.min_eq_left, Nat.min_eq_right, Int.reducePow, Nat.reducePow, Int.reduceLE, Int.reduceLT, Int.reduceMul, Int.reduceAdd, Int.reduceSub, Int.reduceNeg, Bool.not_true, Bool.not_false, Bool.not_not, ↓reduceIte, Nat.reduceAdd, Nat.reduceSub, Nat.reduceMul, Nat.reduceEqDiff, reduceCtorEq, Nat.reduceLT, Nat.reduceLeDiff, Nat.reduceGT]; exact rfl); (case' LH2 => rintro k E t hx hE ht; simp only [go_sem] at ht; subst ht; simp only [go_sem]; try dsimp only at hx))
  (all_goals (try ((first | (with_reducible refine wp_id ?_) | (with_reducible refine does_id ?_)); refine walk ?_; (repeat' (first | exact trivial | with_reducible refine And.intro ?_ ?_)); all_goals (repeat (first | (with_reducible refine ImpB.mk fun hb => ?_) | (with_reducible refine ImpK.mk fun hK => ?_) | (with_reducible refine ImpF.mk fun hF => ?_) | (with_reducible refine AllK.mk fun K => ?_))))); repeat' (with_reducible refine And.intro ?_ ?_))
  (all_goals (repeat (first | (clear hK; clear K) | (clear hE; clear E) | (clear hF; clear F) | (clear hR; clear R))); all_goals (try simp only [decide_eq_true_eq, decide_eq_false_iff_not, Bool.not_eq_true', Bool.not_eq_false', Bool.not_eq_true, Bool.not_eq_false, decide_not, decide_true, decide_false, Bool.decide_and, Bool.and_eq_true, Bool.or_eq_true, Bool.and_eq_false_imp, Decidable.not_not] at *); all_goals (try omega); all_goals (try (first | exact u8w_lo _ | exact u8w_hi _ | exact (bits8 _ _ _).1 | exact (bits8 _ _ _).2 | exact Int.natCast_nonneg _ | exact u8_ltI _)))
  · rw [light_no (k := k) (by omega) (by simp only [liteB, Bool.and_eq_false_iff, decide_eq_false_iff_not]; omega)]
    (focus (refine ⟨_, _, Gh.refl, [], rfl, ?_⟩; (refine ⟨?_, ?_, ?_⟩ <;> simp only [go_sem, List.range, List.range.loop, List.nodup_cons, List.nodup_nil, List.mem_cons, List.not_mem_nil, or_false, or_self, Int.reduceToNat, Nat.min_eq_left, Nat.min_eq_right, Int.reducePow, Nat.reducePow, Int.reduceLE, Int.reduceLT, Int.reduceMul, Int.reduceAdd, Int.reduceSub, Int.reduceNeg, Bool.not_true, Bool.not_false, Bool.not_not, ↓reduceIte, Nat.reduceAdd, Nat.reduceSub, Nat.reduceMul, Nat.reduceEqDiff, reduceCtorEq, Nat.reduceLT, Nat.reduceLeDiff, Nat.reduceGT]); (try any_goals (refine ⟨?_, ?_⟩)); (try any_goals (with_reducible rfl))))
  · rw [light_no (k := k) (by omega) (by simp only [liteB, Bool.and_eq_false_iff, decide_eq_false_iff_not]; omega)]
    (focus (refine ⟨_, _, Gh.refl, [], rfl, ?_⟩; (refine ⟨?_, ?_, ?_⟩ <;> simp only [go_sem, List.range, List.range.loop, List.nodup_cons, List.nodup_nil, List.mem_cons, List.not_mem_nil, or_false, or_self, Int.reduceToNat, Nat.min_eq_left, Nat.min_eq_right, Int.reducePow, Nat.reducePow, Int.reduceLE, Int.reduceLT, Int.reduceMul, Int.reduceAdd, Int.reduceSub, Int.reduceNeg, Bool.not_true, Bool.not_false, Bool.not_not, ↓reduceIte, Nat.reduceAdd, Nat.reduceSub, Nat.reduceMul, Nat.reduceEqDiff, reduceCtorEq, Nat.reduceLT, Nat.reduceLeDiff, Nat.reduceGT]); (try any_goals (refine ⟨?_, ?_⟩)); (try any_goals (with_reducible rfl))))
  · refine ⟨k + 1, ⟨⟨by first | omega | (dsimp only; omega), ?n1⟩, by first | omega | (dsimp only; omega)⟩, ?n2⟩
    case n1 =>
      rw [ent_take (by omega), List.all_append, hx.2]
      simp only [List.all_cons, List.all_nil, Bool.and_true, liteB, Bool.and_eq_true, decide_eq_true_eq, Bool.true_and]
      omega
    (focus (refine ⟨_, _, Gh.refl, [], rfl, ?_⟩; (refine ⟨?_, ?_, ?_⟩ <;> simp only [go_sem, List.range, List.range.loop, List.nodup_cons, List.nodup_nil, List.mem_cons, List.not_mem_nil, or_false, or_self, Int.reduceToNat, Nat.min_eq_left, Nat.min_eq_right, Int.reducePow, Nat.reducePow, Int.reduceLE, Int.reduceLT, Int.reduceMul, Int.reduceAdd, Int.reduceSub, Int.reduceNeg, Bool.not_true, Bool.not_false, Bool.not_not, ↓reduceIte, Nat.reduceAdd, Nat.reduceSub, Nat.reduceMul, Nat.reduceEqDiff, reduceCtorEq, Nat.reduceLT, Nat.reduceLeDiff, Nat.reduceGT]); (try any_goals (refine ⟨?_, ?_⟩)); (try any_goals (with_reducible rfl))))
    all_goals first | (first | with_reducible rfl | omega | ((simp (disch := omega) only [wrap_i64]); first | done | omega) | (simp only [List.append_assoc, List.cons_append, List.nil_append]; done)) | skip
  · have h1 := hx.2
    rw [List.take_of_length_le (by omega)] at h1
    rw [h1, Bool.true_and]
    (focus (refine ⟨_, _, Gh.refl, [], rfl, ?_⟩; (refine ⟨?_, ?_, ?_⟩ <;> simp only [go_sem, List.range, List.range.loop, List.nodup_cons, List.nodup_nil, List.mem_cons, List.not_mem_nil, or_false, or_self, Int.reduceToNat, Nat.min_eq_left, Nat.min_eq_right, Int.reducePow, Nat.reducePow, Int.reduceLE, Int.reduceLT, Int.reduceMul, Int.reduceAdd, Int.reduceSub, Int.reduceNeg, Bool.not_true, Bool.not_false, Bool.not_not, ↓reduceIte, Nat.reduceAdd, Nat.reduceSub, Nat.reduceMul, Nat.reduceEqDiff, reduceCtorEq, Nat.reduceLT, Nat.reduceLeDiff, Nat.reduceGT]); (try any_goals (refine ⟨?_, ?_⟩)); (try any_goals (with_reducible rfl))))
  · rfl
  · (focus (refine ⟨_, _, Gh.refl, [], rfl, ?_⟩; (refine ⟨?_, ?_, ?_⟩ <;> simp only [go_sem, List.range, List.range.loop, List.nodup_cons, List.nodup_nil, List.mem_cons, List.not_mem_nil, or_false, or_self, Int.reduceToNat, Nat.min_eq_left, Nat.min_eq_right, Int.reducePow, Nat.reducePow, Int.reduceLE, Int.reduceLT, Int.reduceMul, Int.reduceAdd, Int.reduceSub, Int.reduceNeg, Bool.not_true, Bool.not_false, Bool.not_not, ↓reduceIte, Nat.reduceAdd, Nat.reduceSub, Nat.reduceMul, Nat.reduceEqDiff, reduceCtorEq, Nat.reduceLT, Nat.reduceLeDiff, Nat.reduceGT]); (try any_goals (refine ⟨?_, ?_⟩)); (try any_goals (with_reducible rfl))))
theorem c_esame {h : List Ch} {K : KT} {l m : List Ent} {a b : AV} (H : K (.bool (decide (l = m))) h) (b1 : brA [] h (.ro .ent l) a) (b2 : brA [] h (.ro .ent m) b) (s1 : l.length ≤ 1099511627776) (s2 : m.length ≤ 1099511627776) (s3 : litE l) : Does Try.prog 45 [a, b] h K :=
  frame_pure (b_esame l m s1 s2 s3) (br_cons b1 (br_cons b2 br_nil)) (.inr rfl) (fun _ => rfl) H
abbrev i_esame := Ctr.mk (i := 0) (g := 45) @c_esame
attribute [instance] i_esame
theorem c_elight {h : List Ch} {K : KT} {l : List Ent} {n : Int} {a : AV} (H : K (.bool (l.all liteB && decide ((l.length : Int) ≤ n))) h) (b1 : brA [] h (.ro .ent l) a) (s1 : l.length ≤ 140737488355328) : Does Try.prog 16 [a, .int .i64 n] h K :=
  frame_pure (b_elight l n s1) (br_cons b1 (br_cons br_int br_nil)) (.inr rfl) (fun _ => rfl) H
abbrev i_elight := Ctr.mk (i := 0) (g := 16) @c_elight
attribute [instance] i_elight
end Go.V

set_option maxRecDepth 100000
set_option maxHeartbeats 1000000
namespace Go.V
open Go.Proofs
theorem and1_u64 (m : Nat) : bitsI .and .u64 (m : Int) 1 = ((m % 2 : Nat) : Int) := by
  have h : (BitVec.ofInt 64 (m : Int) &&& BitVec.ofInt 64 1).toNat = m % 2 := by
    rw [BitVec.toNat_and, show BitVec.ofInt 64 (m : Int) = BitVec.ofNat 64 m from by simp, show (BitVec.ofInt 64 1).toNat = 1 from by decide, BitVec.toNat_ofNat, Nat.and_one_is_mod]
    omega
  show IntKind.u64.wrap (((BitVec.ofInt 64 (m : Int) &&& BitVec.ofInt 64 1).toNat : Nat) : Int) = _
  rw [h, wrap_u64]
  omega
theorem shr_nat (m n : Nat) (h1 : n < 64) : (m : Int).fdiv (2 ^ (min n 64)) = ((m / 2 ^ n : Nat) : Int) := by
  rw [Nat.min_eq_left (by omega)]
  rw [show ((2 : Int) ^ n) = ((2 ^ n : Nat) : Int) from by simp]
  rw [Int.fdiv_eq_ediv_of_nonneg _ (Int.natCast_nonneg _)]
  rfl
/-- a record that can be part of a ledger -/
def recOK (n m : Nat) : Bool := if n = 0 then decide (m = 0) else decide (m % 2 = 1) && (decide (64 ≤ n) || decide (m / 2 ^ n = 0))
theorem b_right (n m : Nat) : DoesK Try.prog 0 55 [.agg [.int .i64 n, .int .u64 m]] [] (EndF 0 (.bool (recOK n m)) []) := by
  refine DoesK.close ?_
  have ha := and1_u64 m
  by_cases h0 : n = 0
  · subst h0
    have hr : recOK 0 m = decide ((m : Int) = 0) := by unfold recOK; rw [if_pos rfl]; exact decide_eq_decide.2 (by omega)
    rw [hr]
    have hz : ((0 : Nat) : Int) = 0 := rfl
    refine w_body (rs := [.tmp 2]) (tm := [.agg [.int .i64 ((0 : Nat) : Int), .int .u64 m], .any, .any, .any, .any, .any, .any, .any, .any, .any, .any, .any, .any, .any, .any, .any, .any, .any, .any, .any, .any, .any, .any, .any, .any, .any]) fn_55 rfl rfl rfl rfl fun R hR => ?_
    (have zx1 := @hz; have zx2 := @decide_true; all_goals (try ((first | (with_reducible refine wp_id ?_) | (with_reducible refine does_id ?_)); refine walk ?_; (repeat' (first | exact trivial | with_reducible refine And.intro ?_ ?_)); all_goals (repeat (first | (with_reducible refine ImpB.mk fun hb => ?_) | (with_reducible refine ImpK.mk fun hK => ?_) | (with_reducible refine ImpF.mk fun hF => ?_) | (with_reducible refine AllK.mk fun K => ?_))))); repeat' (with_reducible refine And.intro ?_ ?_))
    all_goals ((focus (refine ⟨_, _, Gh.refl, [], rfl, ?_⟩; (refine ⟨?_, ?_, ?_⟩ <;> simp only [go_sem, List.range, List.range.loop, List.nodup_cons, List.nodup_nil, List.mem_cons, List.not_mem_nil, or_false, or_self, Int.reduceToNat, Nat.min_eq_left, Nat.min_eq_right, Int.reducePow, Nat.reducePow, Int.reduceLE, Int.reduceLT, Int.reduceMul, Int.reduceAdd, Int.reduceSub, Int.reduceNeg, Bool.not_true, Bool.not_false, Bool.not_not, ↓reduceIte, Nat.reduceAdd, Nat.reduceSub, Nat.reduceMul, Nat.reduceEqDiff, reduceCtorEq, Nat.reduceLT, Nat.reduceLeDiff, Nat.reduceGT]); (try any_goals (refine ⟨?_, ?_⟩)); (try any_goals (with_reducible rfl)))))
  · have hn : decide ((n : Int) = 0) = false := decide_eq_false (by omega)
    by_cases h1 : m % 2 = 1
    · have h1d : decide (((m % 2 : Nat) : Int) = 1) = true := decide_eq_true (by omega)
      by_cases h2 : 64 ≤ n
      · have h2d : decide ((64 : Int) ≤ n) = true := decide_eq_true (by omega)
        have hr : recOK n m = true := by unfold recOK; rw [if_neg h0]; simp [h1, h2]
        rw [hr]
        refine w_body (rs := [.tmp 2]) (tm := [.agg [.int .i64 n, .int .u64 m], .any, .any, .any, .any, .any, .any, .any, .any, .any, .any, .any, .any, .any, .any, .any, .any, .any, .any, .any, .any, .any, .any, .any, .any, .any]) fn_55 rfl rfl rfl rfl fun R hR => ?_
        (have zx1 := @hn; have zx2 := @ha; have zx3 := @h1d; have zx4 := @h2d; all_goals (try ((first | (with_reducible refine wp_id ?_) | (with_reducible refine does_id ?_)); refine walk ?_; (repeat' (first | exact trivial | with_reducible refine And.intro ?_ ?_)); all_goals (repeat (first | (with_reducible refine ImpB.mk fun hb => ?_) | (with_reducible refine ImpK.mk fun hK => ?_) | (with_reducible refine ImpF.mk fun hF => ?_) | (with_reducible refine AllK.mk fun K => ?_))))); repeat' (with_reducible refine And.intro ?_ ?_))
        all_goals ((focus (refine ⟨_, _, Gh.refl, [], rfl, ?_⟩; (refine ⟨?_, ?_, ?_⟩ <;> simp only [go_sem, List.range, List.range.loop, List.nodup_cons, List.nodup_nil, List.mem_cons, List.not_mem_nil, or_false, or_self, Int.reduceToNat, Nat.min_eq_left, Nat.min_eq_right, Int.reducePow, Nat.reducePow, Int.reduceLE, Int.reduceLT, Int.reduceMul, Int.reduceAdd, Int.reduceSub, Int.reduceNeg, Bool.not_true, Bool.not_false, Bool.not_not, ↓reduceIte, Nat.reduceAdd, Nat.reduceSub, Nat.reduceMul, Nat.reduceEqDiff, reduceCtorEq, Nat.reduceLT, Nat.reduceLeDiff, Nat.reduceGT]); (try any_goals (refine ⟨?_, ?_⟩)); (try any_goals (with_reducible rfl)))))
      · have h2d : decide ((64 : Int) ≤ n) = false := decide_eq_false (by omega)
        have hs := shr_nat m n (by omega)
        have hr : recOK n m = decide (((m / 2 ^ n : Nat) : Int) = 0) := by
          unfold recOK; rw [if_neg h0]
          simp only [h1, h2, decide_true, decide_false, Bool.true_and, Bool.false_or, Int.toNat_natCast]
          exact decide_eq_decide.2 (by omega)
        rw [hr]
        refine w_body (rs := [.tmp 2]) (tm := [.agg [.int .i64 n, .int .u64 m], .any, .any, .any, .any, .any, .any, .any, .any, .any, .any, .any, .any, .any, .any, .any, .any, .any, .any, .any, .any, .any, .any, .any, .any, .any]) fn_55 rfl rfl rfl rfl fun R hR => ?_
        (have zx1 := @hn; have zx2 := @ha; have zx3 := @h1d; have zx4 := @h2d; have zx5 := @hs; all_goals (try ((first | (with_reducible refine wp_id ?_) | (with_reducible refine does_id ?_)); refine walk ?_; (repeat' (first | exact trivial | with_reducible refine And.intro ?_ ?_)); all_goals (repeat (first | (with_reducible refine ImpB.mk fun hb => ?_) | (with_reducible refine ImpK.mk fun hK => ?_) | (with_reducible refine ImpF.mk fun hF => ?_) | (with_reducible refine AllK.mk fun K => ?_))))); repeat' (with_reducible refine And.intro ?_ ?_))
        all_goals first | (exact Int.natCast_nonneg _) | ((focus (refine ⟨_, _, Gh.refl, [], rfl, ?_⟩; (refine ⟨?_, ?_, ?_⟩ <;> simp only [go_sem, List.range, List.range.loop, List.nodup_cons, List.nodup_nil, List.mem_cons, List.not_mem_nil, or_false, or_self, Int.reduceToNat, Nat.min_eq_left, Nat.min_eq_right, Int.reducePow, Nat.reducePow, Int.reduceLE, Int.reduceLT, Int.reduceMul, Int.reduceAdd, Int.reduceSub, Int.reduceNeg, Bool.not_true, Bool.not_false, Bool.not_not, ↓reduceIte, Nat.reduceAdd, Nat.reduceSub, Nat.reduceMul, Nat.reduceEqDiff, reduceCtorEq, Nat.reduceLT, Nat.reduceLeDiff, Nat.reduceGT]); (try any_goals (refine ⟨?_, ?_⟩)); (try any_goals (with_reducible rfl)))))
    · have h1d : decide (((m % 2 : Nat) : Int) = 1) = false := decide_eq_false (by omega)
      have hr : recOK n m = false := by unfold recOK; rw [if_neg h0]; simp [h1]
      rw [hr]
      refine w_body (rs := [.tmp 2]) (tm := [.agg [.int .i64 n, .int .u64 m], .any, .any, .any, .any, .any, .any, .any, .any, .any, .any, .any, .any, .any, .any, .any, .any, .any, .any, .any, .any, .any, .any, .any, .any, .any]) fn_55 rfl rfl rfl rfl fun R hR => ?_
      (have zx1 := @hn; have zx2 := @ha; have zx3 := @h1d; all_goals (try ((first | (with_reducible refine wp_id ?_) | (with_reducible refine does_id ?_)); refine walk ?_; (repeat' (first | exact trivial | with_reducible refine And.intro ?_ ?_)); all_goals (repeat (first | (with_reducible refine ImpB.mk fun hb => ?_) | (with_reducible refine ImpK.mk fun hK => ?_) | (with_reducible refine ImpF.mk fun hF => ?_) | (with_reducible refine AllK.mk fun K => ?_))))); repeat' (with_reducible refine And.intro ?_ ?_))
      all_goals ((focus (refine ⟨_, _, Gh.refl, [], rfl, ?_⟩; (refine ⟨?_, ?_, ?_⟩ <;> simp only [go_sem, List.range, List.range.loop, List.nodup_cons, List.nodup_nil, List.mem_cons, List.not_mem_nil, or_false, or_self, Int.reduceToNat, Nat.min_eq_left, Nat.min_eq_right, Int.reducePow, Nat.reducePow, Int.reduceLE, Int.reduceLT, Int.reduceMul, Int.reduceAdd, Int.reduceSub, Int.reduceNeg, Bool.not_true, Bool.not_false, Bool.not_not, ↓reduceIte, Nat.reduceAdd, Nat.reduceSub, Nat.reduceMul, Nat.reduceEqDiff, reduceCtorEq, Nat.reduceLT, Nat.reduceLeDiff, Nat.reduceGT]); (try any_goals (refine ⟨?_, ?_⟩)); (try any_goals (with_reducible rfl)))))
theorem c_right {h : List Ch} {K : KT} {n m : Nat} (H : K (.bool (recOK n m)) h) : Does Try.prog 55 [.agg [.int .i64 n, .int .u64 m]] h K :=
  frame_pure (b_right n m) (br_cons (br_agg (br_cons br_int (br_cons br_int br_nil))) br_nil) (.inr rfl) (fun _ => rfl) H
abbrev i_right := Ctr.mk (i := 0) (g := 55) @c_right
attribute [instance] i_right
end Go.V

set_option maxRecDepth 100000
set_option maxHeartbeats 1000000
namespace Go.V
open Go.Proofs
/-- the cells of a ledger, whatever they hold -/
def ledC : List AV := .bool true :: List.replicate 32 .any
theorem ledC_len : ledC.length = 33 := rfl
theorem b_lnew : DoesK Try.prog 0 54 [] [] (EndF 0 (.ptr 0 0) [.cells ledC]) := by
  refine DoesK.close ?_
  refine w_body (rs := [.tmp 0]) (tm := [.any, .any, .any]) fn_54 rfl rfl rfl rfl fun R hR => ?_
  (all_goals (try ((first | (with_reducible refine wp_id ?_) | (with_reducible refine does_id ?_)); refine walk ?_; (repeat' (first | exact trivial | with_reducible refine And.intro ?_ ?_)); all_goals (repeat (first | (with_reducible refine ImpB.mk fun hb => ?_) | (with_reducible refine ImpK.mk fun hK => ?_) | (with_reducible refine ImpF.mk fun hF => ?_) | (with_reducible refine AllK.mk fun K => ?_))))); repeat' (with_reducible refine And.intro ?_ ?_))
  simp only [ledC, List.replicate]
  (focus (refine ⟨_, _, Gh.refl, [0], rfl, ?_⟩; (refine ⟨?_, ?_, ?_⟩ <;> simp only [go_sem, List.range, List.range.loop, List.nodup_cons, List.nodup_nil, List.mem_cons, List.not_mem_nil, or_false, or_self, Int.reduceToNat, Nat.min_eq_left, Nat.min_eq_right, Int.reducePow, Nat.reducePow, Int.reduceLE, Int.reduceLT, Int.reduceMul, Int.reduceAdd, Int.reduceSub, Int.reduceNeg, Bool.not_true, Bool.not_false, Bool.not_not, ↓reduceIte, Nat.reduceAdd, Nat.reduceSub, Nat.reduceMul, Nat.reduceEqDiff, reduceCtorEq, Nat.reduceLT, Nat.reduceLeDiff, Nat.reduceGT]); (try any_goals (refine ⟨?_, ?_⟩)); (try any_goals (with_reducible rfl))))
theorem c_lnew {h : List Ch} {K : KT} (H : K (.ptr h.length 0) (h ++ [.cells ledC])) : Does Try.prog 54 [] h K :=
  frame_new b_lnew br_nil (.inl rfl) (fun _ => rfl) rfl H
abbrev i_lnew := Ctr.mk (i := 0) (g := 54) @c_lnew
attribute [instance] i_lnew
/-- records that are read: are they right, and what is left -/
def ledR (r : Option (List UInt8)) : Nat → Bool × Option (List UInt8)
  | 0 => (true, r)
  | k + 1 => ((ledR r k).1 && recOK (uintR (ledR r k).2 2).1 (uintR (uintR (ledR r k).2 2).2 8).1, (uintR (uintR (ledR r k).2 2).2 8).2)
/-- the image of a ledger -/
def ledV (b : List UInt8) : Bool := decide (ledR (some b) 16 = (true, some []))
theorem ledR_step {b r : Option (List UInt8)} {k n m : Nat} {q1 q2 : Option (List UInt8)} (h : ledR b k = (true, r)) (e1 : uintR r 2 = (n, q1)) (e2 : uintR q1 8 = (m, q2)) : ledR b (k + 1) = (recOK n m, q2) := by
  rw [ledR, h]
  simp only [e1, e2, Bool.true_and]
theorem ledR_no {b : Option (List UInt8)} {k : Nat} (h : (ledR b k).1 = false) : ∀ j, (ledR b (k + j)).1 = false
  | 0 => h
  | j + 1 => by
    rw [← Nat.add_assoc, ledR]
    simp only [ledR_no h j, Bool.false_and]
theorem ledV_no {b : List UInt8} {k : Nat} (h : (ledR (some b) k).1 = false) (hk : k ≤ 16) : ledV b = false := by
  have := ledR_no h (16 - k)
  rw [show k + (16 - k) = 16 from by omega] at this
  unfold ledV
  rw [decide_eq_false_iff_not]
  intro q
  rw [q] at this
  cases this
theorem set_get2 {vs : List AV} {off : Nat} {a b : AV} (h : off + 2 ≤ vs.length) : (((vs.set off a).set (off + 1) b).drop off).take 2 = [a, b] := by
  induction vs generalizing off with
  | nil => simp at h
  | cons v vs ih =>
    cases off with
    | zero =>
      cases vs with
      | nil => simp at h
      | cons w vs => simp
    | succ off =>
      have := ih (off := off) (by simp at h; omega)
      simpa using this
theorem fit_any {σ : List Nat} : ∀ {n : Nat} {l : List AV}, l.length = n → fitL σ (List.replicate n .any) l
  | 0, [], _ => trivial
  | n + 1, a :: l, h => ⟨trivial, fit_any (by simpa using h)⟩
theorem fit_led {σ : List Nat} {off : Nat} {a b : AV} : fitL σ ledC ((ledC.set (1 + off) a).set (1 + off + 1) b) := by
  rw [Nat.add_comm 1 off]
  simp only [ledC, List.set_cons_succ]
  exact ⟨rfl, fit_any (by simp)⟩
theorem b_lload (b : List UInt8) (hb : b.length ≤ 1000000) : DoesK Try.prog 0 28 [.ro .byte b] [] (EndF 0 (.tup [.any, .int .i64 (if ledV b then 0 else 4)]) []) := by
  refine DoesK.close ?_
  refine w_body (rs := [.tmp 2, .tmp 3]) (tm := [.ro .byte b, .any, .any, .any, .any, .any, .any, .any, .any, .any, .any, .any, .any, .any, .any, .any, .any, .any, .any, .any, .any, .any, .any, .any, .any, .any, .any, .any, .any, .any, .any, .any, .any, .any, .any, .any, .any]) fn_28 rfl rfl rfl rfl fun R hR => ?_
  (all_goals (try ((first | (with_reducible refine wp_id ?_) | (with_reducible refine does_id ?_)); refine walk ?_; (repeat' (first | exact trivial | with_reducible refine And.intro ?_ ?_)); all_goals (repeat (first | (with_reducible refine ImpB.mk fun hb => ?_) | (with_reducible refine ImpK.mk fun hK => ?_) | (with_reducible refine ImpF.mk fun hF => ?_) | (with_reducible refine AllK.mk fun K => ?_))))); repeat' (with_reducible refine And.intro ?_ ?_))
  any_goals (refine w_loop (A := Nat × Option (List UInt8)) (fun p => ledR (some b) p.1 = (true, p.2) ∧ p.1 ≤ 16) (fun p => 16 - p.1) (fun p => [(10, .int .i64 p.1), (6, .any)]) (fun p => [(0, .pack (Rd p.2)), (1, .cells ledC)]) ((0, some b)) (ws := ?ws1) (tk := ?tk1) ?hw1 ?ht1 ?hi ?h0 ?LH1; (case hw1 => simp only [go_sem, Int.reduceToNat, Nat.min_eq_left, Nat.min_eq_right, Int.reducePow, Nat.reducePow, Int.reduceLE, Int.reduceLT, Int.reduceMul, Int.reduceAdd, Int.reduceSub, Int.reduceNeg, Bool.not_true, Bool.not_false, Bool.not_not, ↓reduceIte, Nat.reduceAdd, Nat.reduceSub, Nat.reduceMul, Nat.reduceEqDiff, reduceCtorEq, Nat.reduceLT, Nat.reduceLeDiff, Nat.reduceGT]; exact rfl); (case ht1 => simp only [go_sem, Int.reduceToNat, Nat.min_eq_left, Nat.min_eq_right, Int.reducePow, Nat.reducePow, Int.reduceLE, Int.reduceLT, Int.reduceMul, Int.reduceAdd, Int.reduceSub, Int.reduceNeg, Bool.not_true, Bool.not_false, Bool.not_not, ↓reduceIte, Nat.reduceAdd, Nat.reduceSub, Nat.reduceMul, Nat.reduceEqDiff, reduceCtorEq, Nat.reduceLT, Nat.reduceLeDiff, Nat.reduceGT]; exact rfl); (case' LH1 => rintro ⟨k, r⟩ E t hx hE ht; simp only [go_sem] at ht; subst ht; simp only [go_sem]; try dsimp only at hx))
  case LH1 =>
    by_cases hk : k < 16
    · have hkd : decide ((k : Int) < 16) = true := decide_eq_true (by omega)
      have hb1 := uintR_bd r 2
      rcases e1 : uintR r 2 with ⟨n, q1⟩
      rcases e2 : uintR q1 8 with ⟨m, q2⟩
      rw [e1] at hb1
      have hst := ledR_step hx.1 e1 e2
      have w1 : IntKind.i64.wrap (n : Int) = n := wrap_i64 _ (by omega) (by simp only at hb1; omega)
      have hg := set_get2 (vs := ledC) (off := 1 + k * 2) (a := .int .i64 n) (b := .int .u64 m) (by rw [ledC_len]; omega)
      (have zx1 := @hkd; have zx2 := @w1; have zx3 := @hg; have zx4 := @ledC_len; all_goals (try ((first | (with_reducible refine wp_id ?_) | (with_reducible refine does_id ?_)); refine walk ?_; (repeat' (first | exact trivial | with_reducible refine And.intro ?_ ?_)); all_goals (repeat (first | (with_reducible refine ImpB.mk fun hb => ?_) | (with_reducible refine ImpK.mk fun hK => ?_) | (with_reducible refine ImpF.mk fun hF => ?_) | (with_reducible refine AllK.mk fun K => ?_))))); repeat' (with_reducible refine And.intro ?_ ?_))
      · exact Int.natCast_nonneg _
      · exact_mod_cast hk
      · omega
      · have hr : recOK n m = false := by simpa using hb
        rw [ledV_no (k := k + 1) (by rw [hst]; exact hr) (by omega)]
        (focus (refine ⟨_, _, Gh.refl, [], rfl, ?_⟩; (refine ⟨?_, ?_, ?_⟩ <;> simp only [go_sem, List.range, List.range.loop, List.nodup_cons, List.nodup_nil, List.mem_cons, List.not_mem_nil, or_false, or_self, Int.reduceToNat, Nat.min_eq_left, Nat.min_eq_right, Int.reducePow, Nat.reducePow, Int.reduceLE, Int.reduceLT, Int.reduceMul, Int.reduceAdd, Int.reduceSub, Int.reduceNeg, Bool.not_true, Bool.not_false, Bool.not_not, ↓reduceIte, Nat.reduceAdd, Nat.reduceSub, Nat.reduceMul, Nat.reduceEqDiff, reduceCtorEq, Nat.reduceLT, Nat.reduceLeDiff, Nat.reduceGT]); (try any_goals (refine ⟨?_, ?_⟩)); (try any_goals (with_reducible rfl))))
      · have hr : recOK n m = true := by simpa using hb
        refine ⟨(k + 1, q2), ⟨⟨by rw [hst, hr], by dsimp only; omega⟩, by dsimp only; omega⟩, ?n2⟩
        refine ⟨_, _, Gh.refl, [0, 1], rfl, ?n3⟩
        refine ⟨?n4, ?n5, ?n6⟩
        case n4 => simp only [go_sem, Int.reduceToNat, Nat.min_eq_left, Nat.min_eq_right, Int.reducePow, Nat.reducePow, Int.reduceLE, Int.reduceLT, Int.reduceMul, Int.reduceAdd, Int.reduceSub, Int.reduceNeg, Bool.not_true, Bool.not_false, Bool.not_not, ↓reduceIte, Nat.reduceAdd, Nat.reduceSub, Nat.reduceMul, Nat.reduceEqDiff, reduceCtorEq, Nat.reduceLT, Nat.reduceLeDiff, Nat.reduceGT]; (first | with_reducible rfl | omega | ((simp (disch := omega) only [wrap_i64]); first | done | omega) | (simp only [List.append_assoc, List.cons_append, List.nil_append]; done))
        case n5 =>
          simp only [go_sem, Int.reduceToNat, Nat.min_eq_left, Nat.min_eq_right, Int.reducePow, Nat.reducePow, Int.reduceLE, Int.reduceLT, Int.reduceMul, Int.reduceAdd, Int.reduceSub, Int.reduceNeg, Bool.not_true, Bool.not_false, Bool.not_not, ↓reduceIte, Nat.reduceAdd, Nat.reduceSub, Nat.reduceMul, Nat.reduceEqDiff, reduceCtorEq, Nat.reduceLT, Nat.reduceLeDiff, Nat.reduceGT]
          exact fit_led
        case n6 => decide
    · have hkd : decide ((k : Int) < 16) = false := decide_eq_false (by omega)
      have hk16 : k = 16 := by omega
      subst hk16
      have hv : ledV b = decide (r = some []) := by
        unfold ledV
        rw [hx.1]
        exact decide_eq_decide.2 (by simp)
      (have zx1 := @hkd; all_goals (try ((first | (with_reducible refine wp_id ?_) | (with_reducible refine does_id ?_)); refine walk ?_; (repeat' (first | exact trivial | with_reducible refine And.intro ?_ ?_)); all_goals (repeat (first | (with_reducible refine ImpB.mk fun hb => ?_) | (with_reducible refine ImpK.mk fun hK => ?_) | (with_reducible refine ImpF.mk fun hF => ?_) | (with_reducible refine AllK.mk fun K => ?_))))); repeat' (with_reducible refine And.intro ?_ ?_))
      · rw [show ledV b = false from by rw [hv]; simpa using hb]
        (focus (refine ⟨_, _, Gh.refl, [], rfl, ?_⟩; (refine ⟨?_, ?_, ?_⟩ <;> simp only [go_sem, List.range, List.range.loop, List.nodup_cons, List.nodup_nil, List.mem_cons, List.not_mem_nil, or_false, or_self, Int.reduceToNat, Nat.min_eq_left, Nat.min_eq_right, Int.reducePow, Nat.reducePow, Int.reduceLE, Int.reduceLT, Int.reduceMul, Int.reduceAdd, Int.reduceSub, Int.reduceNeg, Bool.not_true, Bool.not_false, Bool.not_not, ↓reduceIte, Nat.reduceAdd, Nat.reduceSub, Nat.reduceMul, Nat.reduceEqDiff, reduceCtorEq, Nat.reduceLT, Nat.reduceLeDiff, Nat.reduceGT]); (try any_goals (refine ⟨?_, ?_⟩)); (try any_goals (with_reducible rfl))))
      · rw [show ledV b = true from by rw [hv]; simpa using hb]
        (focus (refine ⟨_, _, Gh.refl, [], rfl, ?_⟩; (refine ⟨?_, ?_, ?_⟩ <;> simp only [go_sem, List.range, List.range.loop, List.nodup_cons, List.nodup_nil, List.mem_cons, List.not_mem_nil, or_false, or_self, Int.reduceToNat, Nat.min_eq_left, Nat.min_eq_right, Int.reducePow, Nat.reducePow, Int.reduceLE, Int.reduceLT, Int.reduceMul, Int.reduceAdd, Int.reduceSub, Int.reduceNeg, Bool.not_true, Bool.not_false, Bool.not_not, ↓reduceIte, Nat.reduceAdd, Nat.reduceSub, Nat.reduceMul, Nat.reduceEqDiff, reduceCtorEq, Nat.reduceLT, Nat.reduceLeDiff, Nat.reduceGT]); (try any_goals (refine ⟨?_, ?_⟩)); (try any_goals (with_reducible rfl))))
  · exact ⟨rfl, Nat.zero_le _⟩
  · (focus (refine ⟨_, _, Gh.refl, [0, 1], rfl, ?_⟩; (refine ⟨?_, ?_, ?_⟩ <;> simp only [go_sem, List.range, List.range.loop, List.nodup_cons, List.nodup_nil, List.mem_cons, List.not_mem_nil, or_false, or_self, Int.reduceToNat, Nat.min_eq_left, Nat.min_eq_right, Int.reducePow, Nat.reducePow, Int.reduceLE, Int.reduceLT, Int.reduceMul, Int.reduceAdd, Int.reduceSub, Int.reduceNeg, Bool.not_true, Bool.not_false, Bool.not_not, ↓reduceIte, Nat.reduceAdd, Nat.reduceSub, Nat.reduceMul, Nat.reduceEqDiff, reduceCtorEq, Nat.reduceLT, Nat.reduceLeDiff, Nat.reduceGT]); (try any_goals (refine ⟨?_, ?_⟩)); (try any_goals (with_reducible rfl))))
    · rfl
    · exact fit_any rfl
theorem c_lload {h : List Ch} {K : KT} {b : List UInt8} {a : AV} (H : K (.tup [.any, .int .i64 (if ledV b then 0 else 4)]) h) (q1 : isRO .byte b a) (s1 : b.length ≤ 1000000) : Does Try.prog 28 [a] h K :=
  frame_pure (b_lload b s1) (br_cons q1.br br_nil) (.inl (by rw [brTL, q1.brT]; rfl)) (fun _ => rfl) H
abbrev i_lload := Ctr.mk (i := 0) (g := 28) @c_lload
attribute [instance] i_lload
end Go.V

set_option maxRecDepth 100000
set_option maxHeartbeats 1000000
namespace Go.V
open Go.Proofs
def recC (p : Int × List Int) : List AV := [.int .i64 p.1, .ro .int p.2]
def arrO (rs : List (Int × List Int)) : List AV := rs.flatMap recC ++ (List.replicate (16 - rs.length) [AV.int .i64 0, .lit (.slice none 0 0)]).flatten
def arrM (A B : List AV) (n : Int) (a : AV) : List AV := A ++ .int .i64 n :: a :: B
/-- one that lies as it is -/
def plainA (a : AV) : Prop := a.cell = true ∧ match a with | .int _ _ => True | .ro _ _ => True | .lit (.slice none 0 0) => True | _ => False
theorem recs_len : ∀ rs : List (Int × List Int), (rs.flatMap recC).length = rs.length * 2
  | [] => rfl
  | p :: rs => by simp only [List.flatMap_cons, List.length_append, recs_len rs, List.length_cons, recC, List.length_nil]; omega
theorem reps_len (l : List AV) : ∀ n : Nat, ((List.replicate n l).flatten).length = n * l.length
  | 0 => by simp
  | n + 1 => by rw [List.replicate_succ, List.flatten_cons, List.length_append, reps_len l n, Nat.succ_mul]; omega
theorem arrO_len {rs : List (Int × List Int)} (h : rs.length ≤ 16) : (arrO rs).length = 32 := by
  unfold arrO
  rw [List.length_append, recs_len, reps_len]
  simp only [List.length_cons, List.length_nil]
  omega
theorem recs_plain : ∀ rs : List (Int × List Int), ∀ a ∈ rs.flatMap recC, plainA a := by
  intro rs a ha
  rw [List.mem_flatMap] at ha
  obtain ⟨p, _, hp⟩ := ha
  simp only [recC, List.mem_cons, List.not_mem_nil, or_false] at hp
  rcases hp with rfl | rfl <;> exact ⟨rfl, trivial⟩
theorem reps_plain : ∀ n : Nat, ∀ a ∈ (List.replicate n [AV.int .i64 0, .lit (.slice none 0 0)]).flatten, plainA a := by
  intro n a ha
  rw [List.mem_flatten] at ha
  obtain ⟨l, hl, ha⟩ := ha
  rw [List.mem_replicate] at hl
  rw [hl.2] at ha
  simp only [List.mem_cons, List.not_mem_nil, or_false] at ha
  rcases ha with rfl | rfl <;> exact ⟨rfl, trivial⟩
theorem arrO_plain (rs : List (Int × List Int)) : ∀ a ∈ arrO rs, plainA a := by
  intro a ha
  rcases List.mem_append.1 ha with h | h
  · exact recs_plain _ _ h
  · exact reps_plain _ _ h
theorem arrO_split {rs : List (Int × List Int)} (h : rs.length < 16) : ∃ A B, arrO rs = arrM A B 0 (.lit (.slice none 0 0)) ∧ A.length = rs.length * 2 ∧ B.length = 30 - rs.length * 2 ∧ (∀ a ∈ A, plainA a) ∧ (∀ a ∈ B, plainA a) ∧ ∀ n ys, arrO (rs ++ [(n, ys)]) = arrM A B n (.ro .int ys) := by
  refine ⟨rs.flatMap recC, (List.replicate (15 - rs.length) [AV.int .i64 0, .lit (.slice none 0 0)]).flatten, ?_, recs_len rs, ?_, recs_plain rs, reps_plain _, fun n ys => ?_⟩
  · unfold arrO arrM
    rw [show 16 - rs.length = (15 - rs.length) + 1 from by omega, List.replicate_succ, List.flatten_cons]
    rfl
  · rw [reps_len]; simp only [List.length_cons, List.length_nil]; omega
  · unfold arrO arrM
    rw [List.flatMap_append, List.length_append, List.append_assoc]
    simp only [List.length_cons, List.length_nil, List.flatMap_cons, List.flatMap_nil, List.append_nil, recC]
    rw [show 16 - (rs.length + (0 + 1)) = 15 - rs.length from by omega]
    rfl
section
variable {A B : List AV} {s : Nat}
theorem arrM_len (hA : A.length = s * 2) (hB : B.length = 30 - s * 2) (hs : s < 16) (n : Int) (a : AV) : (arrM A B n a).length = 32 := by
  unfold arrM
  simp only [List.length_append, List.length_cons]
  omega
theorem arrM_set0 (hA : A.length = s * 2) (n m : Int) (a : AV) : (arrM A B n a).set (s * 2) (.int .i64 m) = arrM A B m a := by
  unfold arrM
  rw [← hA]
  simp
theorem arrM_set1 (hA : A.length = s * 2) (n : Int) (a b : AV) : (arrM A B n a).set (s * 2 + 1) b = arrM A B n b := by
  unfold arrM
  rw [← hA]
  simp
theorem nthA_app (A l : List AV) (i : Nat) : nthA (A ++ l) (A.length + i) = nthA l i := by
  induction A with
  | nil => simp
  | cons a A ih => rw [List.cons_append, List.length_cons, show A.length + 1 + i = (A.length + i) + 1 from by omega]; exact ih
theorem arrM_get1 (hA : A.length = s * 2) (n : Int) (a : AV) : nthA (arrM A B n a) (s * 2 + 1) = a := by
  unfold arrM
  rw [← hA, nthA_app]
  rfl
end
theorem plain_fr {t : Nat} {e : Ety} {xs : List e.T} : ∀ {l : List AV}, (∀ a ∈ l, plainA a) → frL t e xs l = l
  | [], _ => rfl
  | a :: l, h => by
    have h1 := h a (by simp)
    rw [frL, plain_fr (fun b hb => h b (by simp [hb]))]
    unfold plainA at h1
    cases a <;> first | rfl | exact h1.2.elim
theorem plain_frOb {t : Nat} {e : Ety} {m : Nat} : ∀ {l : List AV}, (∀ a ∈ l, plainA a) → frObL t e m l
  | [], _ => trivial
  | a :: l, h => by
    have h1 := h a (by simp)
    refine ⟨?_, plain_frOb (fun b hb => h b (by simp [hb]))⟩
    unfold plainA at h1
    cases a <;> first | trivial | exact h1.2.elim
theorem asE_refl (e : Ety) (xs : List e.T) : asE e e xs = some xs := by simp [asE]
theorem plain_fit {σ : List Nat} : ∀ {l : List AV}, (∀ a ∈ l, plainA a) → fitL σ l l
  | [], _ => trivial
  | a :: l, h => by
    have h1 := h a (by simp)
    refine ⟨?_, plain_fit (fun b hb => h b (by simp [hb]))⟩
    unfold plainA at h1
    cases a with
    | int => exact ⟨rfl, rfl⟩
    | ro e xs => unfold fitA; simp only [asE_refl]
    | lit => rfl
    | _ => exact h1.2.elim
theorem plain_ok : ∀ {l : List AV}, (∀ a ∈ l, plainA a) → okCells l
  | [], _ => trivial
  | a :: l, h => ⟨(h a (by simp)).1, plain_ok (fun b hb => h b (by simp [hb]))⟩
theorem frL_app {t : Nat} {e : Ety} {xs : List e.T} (l' : List AV) : ∀ l : List AV, frL t e xs (l ++ l') = frL t e xs l ++ frL t e xs l'
  | [] => rfl
  | a :: l => by rw [List.cons_append, frL, frL_app l' l, frL, List.cons_append]
theorem frOb_app {t : Nat} {e : Ety} {m : Nat} {l' : List AV} : ∀ {l : List AV}, frObL t e m l → frObL t e m l' → frObL t e m (l ++ l')
  | [], _, h => h
  | a :: l, h, h' => ⟨h.1, frOb_app h.2 h'⟩
theorem fitL_app {σ : List Nat} : ∀ {l m l' m' : List AV}, fitL σ l m → fitL σ l' m' → fitL σ (l ++ l') (m ++ m')
  | [], [], _, _, _, h => h
  | a :: l, b :: m, _, _, h, h' => ⟨h.1, fitL_app h.2 h'⟩
  | [], _ :: _, _, _, h, _ => h.elim
  | _ :: _, [], _, _, h, _ => h.elim
theorem arrM_fr {A B : List AV} (hA : ∀ a ∈ A, plainA a) (hB : ∀ a ∈ B, plainA a) (t : Nat) (n : Int) (ys : List Int) : frL t .int ys (arrM A B n (.sl t .int 0 ys.length)) = arrM A B n (.ro .int ys) := by
  unfold arrM
  rw [frL_app, plain_fr hA, frL, frL, plain_fr hB]
  simp only [frA]
  simp
theorem arrM_frOb {A B : List AV} (hA : ∀ a ∈ A, plainA a) (hB : ∀ a ∈ B, plainA a) (t : Nat) (n : Int) (ys : List Int) : frObL t .int ys.length (arrM A B n (.sl t .int 0 ys.length)) := by
  unfold arrM
  refine frOb_app (plain_frOb hA) ⟨trivial, ?_, plain_frOb hB⟩
  simp [frOb]
theorem arrM_fit {A B : List AV} {σ : List Nat} (hA : ∀ a ∈ A, plainA a) (hB : ∀ a ∈ B, plainA a) (n : Int) {a b : AV} (h : fitA σ a b) : fitL σ (arrM A B n a) (arrM A B n b) := by
  unfold arrM
  exact fitL_app (plain_fit hA) ⟨⟨rfl, rfl⟩, h, plain_fit hB⟩
end Go.V
