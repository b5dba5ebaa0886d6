/-
  ref42: Decode.
  ref42: Same, Light.
  From the arguments of a given statement to abstract values: what is read as data lies for good.
-/
import Derived.Test.YtnhhgmoadpiklaaPart18
import Derived.ChangeArms
import Derived.ChangeShapes
import Derived.ChangeReads
import Derived.DataReads
import Derived.Below
set_option linter.unusedVariables false
set_option linter.unusedSimpArgs false
set_option maxRecDepth 100000
set_option maxHeartbeats 1000000
namespace Go.V
open Go.Proofs
attribute [-go_sem] Wr
attribute [local go_sem] decA rdecA
theorem c_frcount_s {h : List Ch} {K : KT} {t : Nat} {ys : List UInt8} {most : Int} {n : Int} {r' : Option (List UInt8)} (H : K (.int .i64 n) (h.set t (.pack (Fd r')))) (o : hth h t = .pack [.cells [.ro .byte ys, .bool false]]) (e : countR (some ys) most = (n, r')) (s1 : ys.length ≤ 1099511627776) : Does Try.prog 66 [.ptr t 0, .int .i64 most] h K :=
  c_frcount (r := some ys) H o e s1
abbrev i_frcount_s := Ctr.mk (i := 1) (g := 66) @c_frcount_s
attribute [instance] i_frcount_s
theorem c_frint_s {h : List Ch} {K : KT} {t : Nat} {ys : List UInt8} {n : Int} {r' : Option (List UInt8)} (H : K (.int .i64 n) (h.set t (.pack (Fd r')))) (o : hth h t = .pack [.cells [.ro .byte ys, .bool false]]) (e : intR (some ys) = (n, r')) (s1 : ys.length ≤ 1099511627776) : Does Try.prog 67 [.ptr t 0] h K :=
  c_frint (r := some ys) H o e s1
abbrev i_frint_s := Ctr.mk (i := 1) (g := 67) @c_frint_s
attribute [instance] i_frint_s
/-- what the reference's decoding answers: the same -/
theorem rsdec_no {b : List UInt8} {n : Int} {r0 : Option (List UInt8)} {k : Nat} (e0 : countR (some b) 256 = (n, r0)) (h : (rdsE 4096 r0 k).1 = none) (hk : k ≤ n.toNat) : decE b = none := by
  rw [decE, decEm, e0]
  obtain ⟨j, hj⟩ := Nat.exists_eq_add_of_le hk
  have := rds_none h j
  rw [← hj] at this
  simp only
  split
  · rename_i l r e
    rw [e] at this
    cases this
  · rfl
theorem rsdec_end {b : List UInt8} {n : Int} {r0 r : Option (List UInt8)} {l : List Ent} (e0 : countR (some b) 256 = (n, r0)) (h : rdsE 4096 r0 n.toNat = (some l, r)) : decE b = if r = some [] ∧ chkE l 256 = 0 ∧ encE l = b then some l else none := by
  rw [decE, decEm, e0]
  simp only [h]
theorem rsdec_bad {b : List UInt8} {n : Int} {r0 : Option (List UInt8)} {k : Nat} {l : List Ent} (e0 : countR (some b) 256 = (n, r0)) (h : rdsE 4096 r0 k = (some l, none)) (hk : k < n.toNat) : decE b = none := by
  refine rsdec_no e0 (k := k + 1) ?_ (by omega)
  rw [rds_step h]
  have : (oneR 4096 none).1 = none := by decide
  rw [this]
  rfl
theorem b_rsdec (b : List UInt8) (hb : b.length ≤ 1000000) : DoesK Try.prog 0 29 [.ro .byte b] [] (EndF 0 (sdecA (decE b)) []) := by
  refine DoesK.close ?_
  have hL0 := countR_len (some b) 256
  rcases e0 : countR (some b) 256 with ⟨n, r0⟩
  rw [e0] at hL0
  have hn256 := countR_le (r := some b) (m := 256) (by decide)
  rw [e0] at hn256
  simp only at hn256
  have hLb : lenR (some b) = b.length := rfl
  simp only [hLb] at hL0
  refine w_body (rs := [.tmp 2, .tmp 3]) (tm := [.ro .byte b, .any, .any, .any, .any, .any, .any, .any, .any, .any, .any, .any, .any, .any, .any, .any, .any, .any, .any, .any, .any, .any, .any, .any, .any, .any, .any, .any, .any, .any, .any, .any, .any, .any, .any, .any, .any, .any, .any, .any, .any, .any, .any, .any, .any, .any, .any, .any, .any, .any, .any, .any, .any, .any, .any, .any, .any, .any, .any, .any, .any, .any, .any]) fn_29 rfl rfl rfl rfl fun R hR => ?_
  (all_goals (try ((first | (with_reducible refine wp_id ?_) | (with_reducible refine does_id ?_) | (with_reducible refine ops_id ?_)); refine walk ?_; (repeat' (first | exact trivial | with_reducible refine And.intro ?_ ?_)); all_goals (repeat (first | (with_reducible refine ImpB.mk fun hb => ?_) | (with_reducible refine ImpK.mk fun hK => ?_) | (with_reducible refine ImpF.mk fun hF => ?_) | (with_reducible refine ImpQ.mk fun hp => ?_) | (with_reducible refine AllE.mk fun p => ?_) | (with_reducible refine AllR.mk fun rest => ?_) | (with_reducible refine AllK.mk fun K => ?_))))); repeat' (with_reducible refine And.intro ?_ ?_))
  any_goals refine Wp.ghost (gh_adopt (s := 6) .ent trivial) ?_
  any_goals ((try (refine w_seq fun K hK => ?_)); (try (refine w_block ?_)); refine w_loop (A := Nat × List Ent × Option (List UInt8)) (fun p => rdsE 4096 r0 p.1 = (some p.2.1, p.2.2) ∧ p.1 ≤ n.toNat) (fun p => n.toNat - p.1) (fun p => [(7, .int .i64 p.1), (6, .sl 1 .ent 0 p.2.1.length)]) (fun p => [(0, .pack (Fd p.2.2)), (1, .rows .ent p.2.1)]) ((0, [], r0)) (ws := ?ws1) (tk := ?tk1) ?hw1 ?ht1 ?hi ?h0 ?LH1; (case hw1 => simp only [go_sem, decide_true, decide_false, Int.reduceToNat, Nat.min_eq_left, Nat.min_eq_right, Int.reducePow, Nat.reducePow, Int.reduceLE, Int.reduceLT, Int.reduceMul, Int.reduceAdd, Int.reduceSub, Int.reduceNeg, Bool.not_true, Bool.not_false, Bool.not_not, ↓reduceIte, Nat.reduceAdd, Nat.reduceSub, Nat.reduceMul, Nat.reduceEqDiff, reduceCtorEq, Nat.reduceLT, Nat.reduceLeDiff, Nat.reduceGT]; exact rfl); (case ht1 => simp only [go_sem, decide_true, decide_false, Int.reduceToNat, Nat.min_eq_left, Nat.min_eq_right, Int.reducePow, Nat.reducePow, Int.reduceLE, Int.reduceLT, Int.reduceMul, Int.reduceAdd, Int.reduceSub, Int.reduceNeg, Bool.not_true, Bool.not_false, Bool.not_not, ↓reduceIte, Nat.reduceAdd, Nat.reduceSub, Nat.reduceMul, Nat.reduceEqDiff, reduceCtorEq, Nat.reduceLT, Nat.reduceLeDiff, Nat.reduceGT]; exact rfl); (case' LH1 => rintro ⟨k, l, r⟩ E t hx hE ht; simp only [go_sem] at ht; subst ht; simp only [go_sem]; try dsimp only at hx))
  case LH1 =>
    have hlr := rds_lenR 4096 r0 k
    rw [hx.1] at hlr
    have hll := rds_length hx.1
    have hL1 : lenR r ≤ 1000000 := by simp only at hlr; omega
    by_cases hk : k < n.toNat
    · have hkd : decide ((k : Int) < n) = true := decide_eq_true (by omega)
      cases r with
      | none =>
        by_cases hc : chkE l 256 = 0
        · (have zx1 := @hkd; have zx2 := @hc; have zx3 := @Fd_none; all_goals (try ((first | (with_reducible refine wp_id ?_) | (with_reducible refine does_id ?_) | (with_reducible refine ops_id ?_)); refine walk ?_; (repeat' (first | exact trivial | with_reducible refine And.intro ?_ ?_)); all_goals (repeat (first | (with_reducible refine ImpB.mk fun hb => ?_) | (with_reducible refine ImpK.mk fun hK => ?_) | (with_reducible refine ImpF.mk fun hF => ?_) | (with_reducible refine ImpQ.mk fun hp => ?_) | (with_reducible refine AllE.mk fun p => ?_) | (with_reducible refine AllR.mk fun rest => ?_) | (with_reducible refine AllK.mk fun K => ?_))))); repeat' (with_reducible refine And.intro ?_ ?_))
          · rw [rsdec_bad e0 hx.1 hk]
            simp only [sdecA]
            (focus (refine ⟨_, _, Gh.refl, [], rfl, ?_⟩; (refine ⟨?_, ?_, ?_⟩ <;> simp only [go_sem, List.range, List.range.loop, List.nodup_cons, List.nodup_nil, List.mem_cons, List.not_mem_nil, or_false, or_self, decide_true, decide_false, Int.reduceToNat, Nat.min_eq_left, Nat.min_eq_right, Int.reducePow, Nat.reducePow, Int.reduceLE, Int.reduceLT, Int.reduceMul, Int.reduceAdd, Int.reduceSub, Int.reduceNeg, Bool.not_true, Bool.not_false, Bool.not_not, ↓reduceIte, Nat.reduceAdd, Nat.reduceSub, Nat.reduceMul, Nat.reduceEqDiff, reduceCtorEq, Nat.reduceLT, Nat.reduceLeDiff, Nat.reduceGT]); (try any_goals (refine ⟨?_, ?_⟩)); (try any_goals (with_reducible rfl))))
          · exact rds_lit hx.1
        · (have zx1 := @hkd; have zx2 := @Fd_none; all_goals (try ((first | (with_reducible refine wp_id ?_) | (with_reducible refine does_id ?_) | (with_reducible refine ops_id ?_)); refine walk ?_; (repeat' (first | exact trivial | with_reducible refine And.intro ?_ ?_)); all_goals (repeat (first | (with_reducible refine ImpB.mk fun hb => ?_) | (with_reducible refine ImpK.mk fun hK => ?_) | (with_reducible refine ImpF.mk fun hF => ?_) | (with_reducible refine ImpQ.mk fun hp => ?_) | (with_reducible refine AllE.mk fun p => ?_) | (with_reducible refine AllR.mk fun rest => ?_) | (with_reducible refine AllK.mk fun K => ?_))))); repeat' (with_reducible refine And.intro ?_ ?_))
          · rw [rsdec_bad e0 hx.1 hk]
            simp only [sdecA]
            (focus (refine ⟨_, _, Gh.refl, [], rfl, ?_⟩; (refine ⟨?_, ?_, ?_⟩ <;> simp only [go_sem, List.range, List.range.loop, List.nodup_cons, List.nodup_nil, List.mem_cons, List.not_mem_nil, or_false, or_self, decide_true, decide_false, Int.reduceToNat, Nat.min_eq_left, Nat.min_eq_right, Int.reducePow, Nat.reducePow, Int.reduceLE, Int.reduceLT, Int.reduceMul, Int.reduceAdd, Int.reduceSub, Int.reduceNeg, Bool.not_true, Bool.not_false, Bool.not_not, ↓reduceIte, Nat.reduceAdd, Nat.reduceSub, Nat.reduceMul, Nat.reduceEqDiff, reduceCtorEq, Nat.reduceLT, Nat.reduceLeDiff, Nat.reduceGT]); (try any_goals (refine ⟨?_, ?_⟩)); (try any_goals (with_reducible rfl))))
          · exact rds_lit hx.1
      | some ys =>
        have hst := rds_step hx.1
        have hM1 := intR_len (some ys)
        rcases e1 : intR (some ys) with ⟨i1, q1⟩
        have hM2 := intR_len q1
        rcases e2 : intR q1 with ⟨i2, q2⟩
        have hM3 := uintR_lenR q2 1
        have hb3 := uintR_bd q2 1
        rcases e3 : uintR q2 1 with ⟨g, q3⟩
        have hM4 := blobR_lens q3 4096
        rcases e4 : blobR q3 4096 with ⟨d, q4⟩
        simp only [oneR, e1, e2, e3, e4] at hst
        rw [e1] at hM1
        rw [e2] at hM2
        rw [e3] at hM3 hb3
        rw [e4] at hM4
        have hys : lenR (some ys) = ys.length := rfl
        simp only [hys] at hM1 hM2 hM3 hM4 hb3 hL1
        have w1 : IntKind.i64.wrap (g : Int) = g := wrap_i64 _ (by omega) (by omega)
        cases hd : decC d
        · rw [hd] at hst
          (have zx1 := @hkd; have zx2 := @w1; have zx3 := @hd; have zx4 := @Fd_some; all_goals (try ((first | (with_reducible refine wp_id ?_) | (with_reducible refine does_id ?_) | (with_reducible refine ops_id ?_)); refine walk ?_; (repeat' (first | exact trivial | with_reducible refine And.intro ?_ ?_)); all_goals (repeat (first | (with_reducible refine ImpB.mk fun hb => ?_) | (with_reducible refine ImpK.mk fun hK => ?_) | (with_reducible refine ImpF.mk fun hF => ?_) | (with_reducible refine ImpQ.mk fun hp => ?_) | (with_reducible refine AllE.mk fun p => ?_) | (with_reducible refine AllR.mk fun rest => ?_) | (with_reducible refine AllK.mk fun K => ?_))))); repeat' (with_reducible refine And.intro ?_ ?_))
          · omega
          · omega
          · rw [rsdec_no (k := k + 1) e0 (by rw [hst]; rfl) (by omega)]
            simp only [sdecA]
            (focus (refine ⟨_, _, Gh.refl, [], rfl, ?_⟩; (refine ⟨?_, ?_, ?_⟩ <;> simp only [go_sem, List.range, List.range.loop, List.nodup_cons, List.nodup_nil, List.mem_cons, List.not_mem_nil, or_false, or_self, decide_true, decide_false, Int.reduceToNat, Nat.min_eq_left, Nat.min_eq_right, Int.reducePow, Nat.reducePow, Int.reduceLE, Int.reduceLT, Int.reduceMul, Int.reduceAdd, Int.reduceSub, Int.reduceNeg, Bool.not_true, Bool.not_false, Bool.not_not, ↓reduceIte, Nat.reduceAdd, Nat.reduceSub, Nat.reduceMul, Nat.reduceEqDiff, reduceCtorEq, Nat.reduceLT, Nat.reduceLeDiff, Nat.reduceGT]); (try any_goals (refine ⟨?_, ?_⟩)); (try any_goals (with_reducible rfl))))
        · rename_i c
          rw [hd] at hst
          (have zx1 := @hkd; have zx2 := @w1; have zx3 := @hd; have zx4 := @Fd_some; all_goals (try ((first | (with_reducible refine wp_id ?_) | (with_reducible refine does_id ?_) | (with_reducible refine ops_id ?_)); refine walk ?_; (repeat' (first | exact trivial | with_reducible refine And.intro ?_ ?_)); all_goals (repeat (first | (with_reducible refine ImpB.mk fun hb => ?_) | (with_reducible refine ImpK.mk fun hK => ?_) | (with_reducible refine ImpF.mk fun hF => ?_) | (with_reducible refine ImpQ.mk fun hp => ?_) | (with_reducible refine AllE.mk fun p => ?_) | (with_reducible refine AllR.mk fun rest => ?_) | (with_reducible refine AllK.mk fun K => ?_))))); repeat' (with_reducible refine And.intro ?_ ?_))
          · omega
          · omega
          · refine ⟨(k + 1, l ++ [⟨i1, i2, g, c⟩], q4), ⟨⟨(show rdsE 4096 r0 (k + 1) = (some (l ++ [(⟨i1, i2, (g : Int), c⟩ : Ent)]), q4) from hst), by dsimp only; omega⟩, by dsimp only; omega⟩, ?_⟩
            (focus (refine ⟨_, _, Gh.refl, [0, 5], rfl, ?_⟩; (refine ⟨?_, ?_, ?_⟩ <;> simp only [go_sem, List.range, List.range.loop, List.nodup_cons, List.nodup_nil, List.mem_cons, List.not_mem_nil, or_false, or_self, decide_true, decide_false, Int.reduceToNat, Nat.min_eq_left, Nat.min_eq_right, Int.reducePow, Nat.reducePow, Int.reduceLE, Int.reduceLT, Int.reduceMul, Int.reduceAdd, Int.reduceSub, Int.reduceNeg, Bool.not_true, Bool.not_false, Bool.not_not, ↓reduceIte, Nat.reduceAdd, Nat.reduceSub, Nat.reduceMul, Nat.reduceEqDiff, reduceCtorEq, Nat.reduceLT, Nat.reduceLeDiff, Nat.reduceGT]); (try any_goals (refine ⟨?_, ?_⟩)); (try any_goals (with_reducible rfl))))
            all_goals first | (first | with_reducible rfl | omega | ((simp (disch := omega) only [wrap_i64]); first | done | omega) | (simp only [List.append_assoc, List.cons_append, List.nil_append]; done)) | skip
    · have hkd : decide ((k : Int) < n) = false := decide_eq_false (by omega)
      have hkn : k = n.toNat := by omega
      have hend := rsdec_end e0 (by rw [← hkn]; exact hx.1)
      cases r with
      | none =>
        by_cases hc : chkE l 256 = 0
        · (have zx1 := @hkd; have zx2 := @hc; have zx3 := @Fd_none; all_goals (try ((first | (with_reducible refine wp_id ?_) | (with_reducible refine does_id ?_) | (with_reducible refine ops_id ?_)); refine walk ?_; (repeat' (first | exact trivial | with_reducible refine And.intro ?_ ?_)); all_goals (repeat (first | (with_reducible refine ImpB.mk fun hb => ?_) | (with_reducible refine ImpK.mk fun hK => ?_) | (with_reducible refine ImpF.mk fun hF => ?_) | (with_reducible refine ImpQ.mk fun hp => ?_) | (with_reducible refine AllE.mk fun p => ?_) | (with_reducible refine AllR.mk fun rest => ?_) | (with_reducible refine AllK.mk fun K => ?_))))); repeat' (with_reducible refine And.intro ?_ ?_))
          · rw [hend, if_neg (by rintro ⟨q, _⟩; cases q)]
            simp only [sdecA]
            (focus (refine ⟨_, _, Gh.refl, [], rfl, ?_⟩; (refine ⟨?_, ?_, ?_⟩ <;> simp only [go_sem, List.range, List.range.loop, List.nodup_cons, List.nodup_nil, List.mem_cons, List.not_mem_nil, or_false, or_self, decide_true, decide_false, Int.reduceToNat, Nat.min_eq_left, Nat.min_eq_right, Int.reducePow, Nat.reducePow, Int.reduceLE, Int.reduceLT, Int.reduceMul, Int.reduceAdd, Int.reduceSub, Int.reduceNeg, Bool.not_true, Bool.not_false, Bool.not_not, ↓reduceIte, Nat.reduceAdd, Nat.reduceSub, Nat.reduceMul, Nat.reduceEqDiff, reduceCtorEq, Nat.reduceLT, Nat.reduceLeDiff, Nat.reduceGT]); (try any_goals (refine ⟨?_, ?_⟩)); (try any_goals (with_reducible rfl))))
          · exact rds_lit hx.1
        · (have zx1 := @hkd; have zx2 := @Fd_none; all_goals (try ((first | (with_reducible refine wp_id ?_) | (with_reducible refine does_id ?_) | (with_reducible refine ops_id ?_)); refine walk ?_; (repeat' (first | exact trivial | with_reducible refine And.intro ?_ ?_)); all_goals (repeat (first | (with_reducible refine ImpB.mk fun hb => ?_) | (with_reducible refine ImpK.mk fun hK => ?_) | (with_reducible refine ImpF.mk fun hF => ?_) | (with_reducible refine ImpQ.mk fun hp => ?_) | (with_reducible refine AllE.mk fun p => ?_) | (with_reducible refine AllR.mk fun rest => ?_) | (with_reducible refine AllK.mk fun K => ?_))))); repeat' (with_reducible refine And.intro ?_ ?_))
          · rw [hend, if_neg (by rintro ⟨q, _⟩; cases q)]
            simp only [sdecA]
            (focus (refine ⟨_, _, Gh.refl, [], rfl, ?_⟩; (refine ⟨?_, ?_, ?_⟩ <;> simp only [go_sem, List.range, List.range.loop, List.nodup_cons, List.nodup_nil, List.mem_cons, List.not_mem_nil, or_false, or_self, decide_true, decide_false, Int.reduceToNat, Nat.min_eq_left, Nat.min_eq_right, Int.reducePow, Nat.reducePow, Int.reduceLE, Int.reduceLT, Int.reduceMul, Int.reduceAdd, Int.reduceSub, Int.reduceNeg, Bool.not_true, Bool.not_false, Bool.not_not, ↓reduceIte, Nat.reduceAdd, Nat.reduceSub, Nat.reduceMul, Nat.reduceEqDiff, reduceCtorEq, Nat.reduceLT, Nat.reduceLeDiff, Nat.reduceGT]); (try any_goals (refine ⟨?_, ?_⟩)); (try any_goals (with_reducible rfl))))
          · exact rds_lit hx.1
      | some ys =>
        by_cases hc : chkE l 256 = 0
        · (have zx1 := @hkd; have zx2 := @hc; have zx3 := @Fd_some; all_goals (try ((first | (with_reducible refine wp_id ?_) | (with_reducible refine does_id ?_) | (with_reducible refine ops_id ?_)); refine walk ?_; (repeat' (first | exact trivial | with_reducible refine And.intro ?_ ?_)); all_goals (repeat (first | (with_reducible refine ImpB.mk fun hb => ?_) | (with_reducible refine ImpK.mk fun hK => ?_) | (with_reducible refine ImpF.mk fun hF => ?_) | (with_reducible refine ImpQ.mk fun hp => ?_) | (with_reducible refine AllE.mk fun p => ?_) | (with_reducible refine AllR.mk fun rest => ?_) | (with_reducible refine AllK.mk fun K => ?_))))); repeat' (with_reducible refine And.intro ?_ ?_))
          all_goals try exact absurd hb (by decide)
          · exact Nat.le_refl _
          · rw [hend, if_neg (by rintro ⟨_, _, q⟩; simp [q] at hb)]
            simp only [sdecA]
            (focus (refine ⟨_, _, Gh.refl, [], rfl, ?_⟩; (refine ⟨?_, ?_, ?_⟩ <;> simp only [go_sem, List.range, List.range.loop, List.nodup_cons, List.nodup_nil, List.mem_cons, List.not_mem_nil, or_false, or_self, decide_true, decide_false, Int.reduceToNat, Nat.min_eq_left, Nat.min_eq_right, Int.reducePow, Nat.reducePow, Int.reduceLE, Int.reduceLT, Int.reduceMul, Int.reduceAdd, Int.reduceSub, Int.reduceNeg, Bool.not_true, Bool.not_false, Bool.not_not, ↓reduceIte, Nat.reduceAdd, Nat.reduceSub, Nat.reduceMul, Nat.reduceEqDiff, reduceCtorEq, Nat.reduceLT, Nat.reduceLeDiff, Nat.reduceGT]); (try any_goals (refine ⟨?_, ?_⟩)); (try any_goals (with_reducible rfl))))
          · rw [decE_iff.2 ⟨hc, by simpa using hb⟩]
            simp only [sdecA]
            refine ⟨_, _, gh_frz (t := 1) (e := .ent) (xs := l) rfl ?f1 ?f2, [], rfl, ?ft⟩
            case' ft => (refine ⟨?_, ?_, ?_⟩ <;> simp only [go_sem, List.range, List.range.loop, List.nodup_cons, List.nodup_nil, List.mem_cons, List.not_mem_nil, or_false, or_self, decide_true, decide_false, Int.reduceToNat, Nat.min_eq_left, Nat.min_eq_right, Int.reducePow, Nat.reducePow, Int.reduceLE, Int.reduceLT, Int.reduceMul, Int.reduceAdd, Int.reduceSub, Int.reduceNeg, Bool.not_true, Bool.not_false, Bool.not_not, ↓reduceIte, Nat.reduceAdd, Nat.reduceSub, Nat.reduceMul, Nat.reduceEqDiff, reduceCtorEq, Nat.reduceLT, Nat.reduceLeDiff, Nat.reduceGT])
            case' f1 => simp only [go_sem, decide_true, decide_false, Int.reduceToNat, Nat.min_eq_left, Nat.min_eq_right, Int.reducePow, Nat.reducePow, Int.reduceLE, Int.reduceLT, Int.reduceMul, Int.reduceAdd, Int.reduceSub, Int.reduceNeg, Bool.not_true, Bool.not_false, Bool.not_not, ↓reduceIte, Nat.reduceAdd, Nat.reduceSub, Nat.reduceMul, Nat.reduceEqDiff, reduceCtorEq, Nat.reduceLT, Nat.reduceLeDiff, Nat.reduceGT]
            case' f2 => simp only [go_sem, decide_true, decide_false, Int.reduceToNat, Nat.min_eq_left, Nat.min_eq_right, Int.reducePow, Nat.reducePow, Int.reduceLE, Int.reduceLT, Int.reduceMul, Int.reduceAdd, Int.reduceSub, Int.reduceNeg, Bool.not_true, Bool.not_false, Bool.not_not, ↓reduceIte, Nat.reduceAdd, Nat.reduceSub, Nat.reduceMul, Nat.reduceEqDiff, reduceCtorEq, Nat.reduceLT, Nat.reduceLeDiff, Nat.reduceGT]
            all_goals exact Nat.le_refl _
          · exact rds_lit hx.1
        · have hcd : decide (chkE l 256 = 0) = false := decide_eq_false hc
          (have zx1 := @hkd; have zx2 := @hcd; have zx3 := @Fd_some; all_goals (try ((first | (with_reducible refine wp_id ?_) | (with_reducible refine does_id ?_) | (with_reducible refine ops_id ?_)); refine walk ?_; (repeat' (first | exact trivial | with_reducible refine And.intro ?_ ?_)); all_goals (repeat (first | (with_reducible refine ImpB.mk fun hb => ?_) | (with_reducible refine ImpK.mk fun hK => ?_) | (with_reducible refine ImpF.mk fun hF => ?_) | (with_reducible refine ImpQ.mk fun hp => ?_) | (with_reducible refine AllE.mk fun p => ?_) | (with_reducible refine AllR.mk fun rest => ?_) | (with_reducible refine AllK.mk fun K => ?_))))); repeat' (with_reducible refine And.intro ?_ ?_))
          · rw [hend, if_neg (by rintro ⟨_, q, _⟩; exact hc q)]
            simp only [sdecA]
            (focus (refine ⟨_, _, Gh.refl, [], rfl, ?_⟩; (refine ⟨?_, ?_, ?_⟩ <;> simp only [go_sem, List.range, List.range.loop, List.nodup_cons, List.nodup_nil, List.mem_cons, List.not_mem_nil, or_false, or_self, decide_true, decide_false, Int.reduceToNat, Nat.min_eq_left, Nat.min_eq_right, Int.reducePow, Nat.reducePow, Int.reduceLE, Int.reduceLT, Int.reduceMul, Int.reduceAdd, Int.reduceSub, Int.reduceNeg, Bool.not_true, Bool.not_false, Bool.not_not, ↓reduceIte, Nat.reduceAdd, Nat.reduceSub, Nat.reduceMul, Nat.reduceEqDiff, reduceCtorEq, Nat.reduceLT, Nat.reduceLeDiff, Nat.reduceGT]); (try any_goals (refine ⟨?_, ?_⟩)); (try any_goals (with_reducible rfl))))
          · rw [hend, if_neg (by rintro ⟨_, q, _⟩; exact hc q)]
            simp only [sdecA]
            (focus (refine ⟨_, _, Gh.refl, [], rfl, ?_⟩; (refine ⟨?_, ?_, ?_⟩ <;> simp only [go_sem, List.range, List.range.loop, List.nodup_cons, List.nodup_nil, List.mem_cons, List.not_mem_nil, or_false, or_self, decide_true, decide_false, Int.reduceToNat, Nat.min_eq_left, Nat.min_eq_right, Int.reducePow, Nat.reducePow, Int.reduceLE, Int.reduceLT, Int.reduceMul, Int.reduceAdd, Int.reduceSub, Int.reduceNeg, Bool.not_true, Bool.not_false, Bool.not_not, ↓reduceIte, Nat.reduceAdd, Nat.reduceSub, Nat.reduceMul, Nat.reduceEqDiff, reduceCtorEq, Nat.reduceLT, Nat.reduceLeDiff, Nat.reduceGT]); (try any_goals (refine ⟨?_, ?_⟩)); (try any_goals (with_reducible rfl))))
          · exfalso; simp_all
          · exact rds_lit hx.1
  · exact ⟨rfl, Nat.zero_le _⟩
  · (focus (refine ⟨_, _, Gh.refl, [0, 1], rfl, ?_⟩; (refine ⟨?_, ?_, ?_⟩ <;> simp only [go_sem, List.range, List.range.loop, List.nodup_cons, List.nodup_nil, List.mem_cons, List.not_mem_nil, or_false, or_self, decide_true, decide_false, Int.reduceToNat, Nat.min_eq_left, Nat.min_eq_right, Int.reducePow, Nat.reducePow, Int.reduceLE, Int.reduceLT, Int.reduceMul, Int.reduceAdd, Int.reduceSub, Int.reduceNeg, Bool.not_true, Bool.not_false, Bool.not_not, ↓reduceIte, Nat.reduceAdd, Nat.reduceSub, Nat.reduceMul, Nat.reduceEqDiff, reduceCtorEq, Nat.reduceLT, Nat.reduceLeDiff, Nat.reduceGT]); (try any_goals (refine ⟨?_, ?_⟩)); (try any_goals (with_reducible rfl))))
    all_goals rfl
theorem c_rsdec {h : List Ch} {K : KT} {b : List UInt8} {a : AV} (H : K (sdecA (decE b)) h) (q1 : isRO .byte b a) (s1 : b.length ≤ 1000000) : Does Try.prog 29 [a] h K :=
  frame_pure (b_rsdec b s1) (br_cons q1.br br_nil) (.inl (by rw [brTL, q1.brT]; rfl)) (fun _ => by unfold sdecA; cases decE b <;> rfl) H
abbrev i_rsdec := Ctr.mk (i := 0) (g := 29) @c_rsdec
attribute [instance] i_rsdec
end Go.V

set_option maxRecDepth 100000
set_option maxHeartbeats 1000000
namespace Go.V
open Go.Proofs
theorem ent_ext {l m : List Ent} (hl : l.length = m.length) (h : ∀ j, j < l.length → l.getD j Ent.zero = m.getD j Ent.zero) : l = m := by
  apply List.ext_getElem hl
  intro j h1 h2
  have := h j h1
  rw [List.getD_eq_getElem?_getD, List.getD_eq_getElem?_getD, List.getElem?_eq_getElem h1, List.getElem?_eq_getElem h2] at this
  exact this
theorem ent_eq {x y : Ent} (h1 : x.id = y.id) (h2 : x.time = y.time) (h3 : x.group = y.group) (h4 : x.c = y.c) : x = y := by
  cases x; cases y
  simp only at h1 h2 h3 h4
  subst h1; subst h2; subst h3; subst h4
  rfl
theorem b_esame (l m : List Ent) (hl : l.length ≤ 1099511627776) (hm : m.length ≤ 1099511627776) (ha : litE l) : DoesK Try.prog 0 15 [.ro .ent l, .ro .ent m] [] (EndF 0 (.bool (decide (l = m))) []) := by
  refine DoesK.close ?_
  by_cases hlm : l.length = m.length
  · have hld : decide ((l.length : Int) = m.length) = true := decide_eq_true (by omega)
    refine w_body (rs := [.tmp 4]) (tm := [.ro .ent l, .ro .ent m, .any, .any, .any, .any, .any, .any, .any, .any, .any, .any, .any, .any, .any, .any, .any, .any, .any, .any, .any, .any, .any, .any, .any, .any, .any, .any, .any, .any, .any, .any, .any, .any, .any, .any, .any, .any, .any, .any, .any, .any, .any, .any, .any, .any, .any, .any, .any, .any, .any, .any, .any, .any, .any, .any, .any, .any, .any, .any, .any, .any, .any, .any, .any, .any, .any, .any]) fn_15 rfl rfl rfl rfl fun R hR => ?_
    (all_goals (try ((first | (with_reducible refine wp_id ?_) | (with_reducible refine does_id ?_) | (with_reducible refine ops_id ?_)); refine walk ?_; (repeat' (first | exact trivial | with_reducible refine And.intro ?_ ?_)); all_goals (repeat (first | (with_reducible refine ImpB.mk fun hb => ?_) | (with_reducible refine ImpK.mk fun hK => ?_) | (with_reducible refine ImpF.mk fun hF => ?_) | (with_reducible refine ImpQ.mk fun hp => ?_) | (with_reducible refine AllE.mk fun p => ?_) | (with_reducible refine AllR.mk fun rest => ?_) | (with_reducible refine AllK.mk fun K => ?_))))); repeat' (with_reducible refine And.intro ?_ ?_))
    all_goals try (exfalso; simp [hlm] at hb; done)
    any_goals ((try (refine w_seq fun K hK => ?_)); (try (refine w_block ?_)); refine w_loop (A := Nat) (fun k => k ≤ l.length ∧ (∀ j, j < k → l.getD j Ent.zero = m.getD j Ent.zero)) (fun k => l.length - k) (fun k => [(5, .int .i64 k)]) (fun _ => []) (0) (ws := ?ws1) (tk := ?tk1) ?hw1 ?ht1 ?hi ?h0 ?LH1; (case hw1 => simp only [go_sem, decide_true, decide_false, Int.reduceToNat, Nat.min_eq_left, Nat.min_eq_right, Int.reducePow, Nat.reducePow, Int.reduceLE, Int.reduceLT, Int.reduceMul, Int.reduceAdd, Int.reduceSub, Int.reduceNeg, Bool.not_true, Bool.not_false, Bool.not_not, ↓reduceIte, Nat.reduceAdd, Nat.reduceSub, Nat.reduceMul, Nat.reduceEqDiff, reduceCtorEq, Nat.reduceLT, Nat.reduceLeDiff, Nat.reduceGT]; exact rfl); (case ht1 => simp only [go_sem, decide_true, decide_false, Int.reduceToNat, Nat.min_eq_left, Nat.min_eq_right, Int.reducePow, Nat.reducePow, Int.reduceLE, Int.reduceLT, Int.reduceMul, Int.reduceAdd, Int.reduceSub, Int.reduceNeg, Bool.not_true, Bool.not_false, Bool.not_not, ↓reduceIte, Nat.reduceAdd, Nat.reduceSub, Nat.reduceMul, Nat.reduceEqDiff, reduceCtorEq, Nat.reduceLT, Nat.reduceLeDiff, Nat.reduceGT]; exact rfl); (case' LH1 => rintro k E t hx hE ht; simp only [go_sem] at ht; subst ht; simp only [go_sem]; try dsimp only at hx))
    case LH1 =>
      have hak := litE_get ha k
      by_cases hk : k < l.length
      · have hkd : decide ((k : Int) < l.length) = true := decide_eq_true (by omega)
        (have zx1 := @hkd; all_goals (try ((first | (with_reducible refine wp_id ?_) | (with_reducible refine does_id ?_) | (with_reducible refine ops_id ?_)); refine walk ?_; (repeat' (first | exact trivial | with_reducible refine And.intro ?_ ?_)); all_goals (repeat (first | (with_reducible refine ImpB.mk fun hb => ?_) | (with_reducible refine ImpK.mk fun hK => ?_) | (with_reducible refine ImpF.mk fun hF => ?_) | (with_reducible refine ImpQ.mk fun hp => ?_) | (with_reducible refine AllE.mk fun p => ?_) | (with_reducible refine AllR.mk fun rest => ?_) | (with_reducible refine AllK.mk fun K => ?_))))); repeat' (with_reducible refine And.intro ?_ ?_))
        all_goals try first | omega | (with_reducible exact Int.natCast_nonneg _)
        · rw [decide_eq_false (fun q => by subst q; simp at hb)]
          (focus (refine ⟨_, _, Gh.refl, [], rfl, ?_⟩; (refine ⟨?_, ?_, ?_⟩ <;> simp only [go_sem, List.range, List.range.loop, List.nodup_cons, List.nodup_nil, List.mem_cons, List.not_mem_nil, or_false, or_self, decide_true, decide_false, Int.reduceToNat, Nat.min_eq_left, Nat.min_eq_right, Int.reducePow, Nat.reducePow, Int.reduceLE, Int.reduceLT, Int.reduceMul, Int.reduceAdd, Int.reduceSub, Int.reduceNeg, Bool.not_true, Bool.not_false, Bool.not_not, ↓reduceIte, Nat.reduceAdd, Nat.reduceSub, Nat.reduceMul, Nat.reduceEqDiff, reduceCtorEq, Nat.reduceLT, Nat.reduceLeDiff, Nat.reduceGT]); (try any_goals (refine ⟨?_, ?_⟩)); (try any_goals (with_reducible rfl))))
        · rw [decide_eq_false (fun q => by subst q; simp at hb)]
          (focus (refine ⟨_, _, Gh.refl, [], rfl, ?_⟩; (refine ⟨?_, ?_, ?_⟩ <;> simp only [go_sem, List.range, List.range.loop, List.nodup_cons, List.nodup_nil, List.mem_cons, List.not_mem_nil, or_false, or_self, decide_true, decide_false, Int.reduceToNat, Nat.min_eq_left, Nat.min_eq_right, Int.reducePow, Nat.reducePow, Int.reduceLE, Int.reduceLT, Int.reduceMul, Int.reduceAdd, Int.reduceSub, Int.reduceNeg, Bool.not_true, Bool.not_false, Bool.not_not, ↓reduceIte, Nat.reduceAdd, Nat.reduceSub, Nat.reduceMul, Nat.reduceEqDiff, reduceCtorEq, Nat.reduceLT, Nat.reduceLeDiff, Nat.reduceGT]); (try any_goals (refine ⟨?_, ?_⟩)); (try any_goals (with_reducible rfl))))
        · rw [decide_eq_false (fun q => by subst q; simp at hb)]
          (focus (refine ⟨_, _, Gh.refl, [], rfl, ?_⟩; (refine ⟨?_, ?_, ?_⟩ <;> simp only [go_sem, List.range, List.range.loop, List.nodup_cons, List.nodup_nil, List.mem_cons, List.not_mem_nil, or_false, or_self, decide_true, decide_false, Int.reduceToNat, Nat.min_eq_left, Nat.min_eq_right, Int.reducePow, Nat.reducePow, Int.reduceLE, Int.reduceLT, Int.reduceMul, Int.reduceAdd, Int.reduceSub, Int.reduceNeg, Bool.not_true, Bool.not_false, Bool.not_not, ↓reduceIte, Nat.reduceAdd, Nat.reduceSub, Nat.reduceMul, Nat.reduceEqDiff, reduceCtorEq, Nat.reduceLT, Nat.reduceLeDiff, Nat.reduceGT]); (try any_goals (refine ⟨?_, ?_⟩)); (try any_goals (with_reducible rfl))))
        · rw [decide_eq_false (fun q => by subst q; simp at hb)]
          (focus (refine ⟨_, _, Gh.refl, [], rfl, ?_⟩; (refine ⟨?_, ?_, ?_⟩ <;> simp only [go_sem, List.range, List.range.loop, List.nodup_cons, List.nodup_nil, List.mem_cons, List.not_mem_nil, or_false, or_self, decide_true, decide_false, Int.reduceToNat, Nat.min_eq_left, Nat.min_eq_right, Int.reducePow, Nat.reducePow, Int.reduceLE, Int.reduceLT, Int.reduceMul, Int.reduceAdd, Int.reduceSub, Int.reduceNeg, Bool.not_true, Bool.not_false, Bool.not_not, ↓reduceIte, Nat.reduceAdd, Nat.reduceSub, Nat.reduceMul, Nat.reduceEqDiff, reduceCtorEq, Nat.reduceLT, Nat.reduceLeDiff, Nat.reduceGT]); (try any_goals (refine ⟨?_, ?_⟩)); (try any_goals (with_reducible rfl))))
        · (try simp only [decide_eq_true_eq, decide_eq_false_iff_not, Bool.not_eq_true', Bool.not_eq_false', Bool.not_eq_true, Bool.not_eq_false, decide_not, decide_true, decide_false, Bool.decide_and, Bool.and_eq_true, Bool.or_eq_true, Bool.and_eq_false_imp, Decidable.not_not] at *)
          have heq := ent_eq (by assumption) (by assumption) (by assumption) hb
          refine ⟨k + 1, ⟨⟨by first | omega | (dsimp only; omega), fun j hj => ?n1⟩, by first | omega | (dsimp only; omega)⟩, ?n2⟩
          case n1 =>
            by_cases hjk : j < k
            · exact hx.2 j hjk
            · obtain rfl : j = k := by omega
              exact heq
          (focus (refine ⟨_, _, Gh.refl, [], rfl, ?_⟩; (refine ⟨?_, ?_, ?_⟩ <;> simp only [go_sem, List.range, List.range.loop, List.nodup_cons, List.nodup_nil, List.mem_cons, List.not_mem_nil, or_false, or_self, decide_true, decide_false, Int.reduceToNat, Nat.min_eq_left, Nat.min_eq_right, Int.reducePow, Nat.reducePow, Int.reduceLE, Int.reduceLT, Int.reduceMul, Int.reduceAdd, Int.reduceSub, Int.reduceNeg, Bool.not_true, Bool.not_false, Bool.not_not, ↓reduceIte, Nat.reduceAdd, Nat.reduceSub, Nat.reduceMul, Nat.reduceEqDiff, reduceCtorEq, Nat.reduceLT, Nat.reduceLeDiff, Nat.reduceGT]); (try any_goals (refine ⟨?_, ?_⟩)); (try any_goals (with_reducible rfl))))
          all_goals (simp (disch := omega) only [wrap_i64])
          all_goals first | done | omega
      · have hkd : decide ((k : Int) < l.length) = false := decide_eq_false (by omega)
        (have zx1 := @hkd; all_goals (try ((first | (with_reducible refine wp_id ?_) | (with_reducible refine does_id ?_) | (with_reducible refine ops_id ?_)); refine walk ?_; (repeat' (first | exact trivial | with_reducible refine And.intro ?_ ?_)); all_goals (repeat (first | (with_reducible refine ImpB.mk fun hb => ?_) | (with_reducible refine ImpK.mk fun hK => ?_) | (with_reducible refine ImpF.mk fun hF => ?_) | (with_reducible refine ImpQ.mk fun hp => ?_) | (with_reducible refine AllE.mk fun p => ?_) | (with_reducible refine AllR.mk fun rest => ?_) | (with_reducible refine AllK.mk fun K => ?_))))); repeat' (with_reducible refine And.intro ?_ ?_))
        rw [decide_eq_true (ent_ext hlm fun j hj => hx.2 j (by omega))]
        (focus (refine ⟨_, _, Gh.refl, [], rfl, ?_⟩; (refine ⟨?_, ?_, ?_⟩ <;> simp only [go_sem, List.range, List.range.loop, List.nodup_cons, List.nodup_nil, List.mem_cons, List.not_mem_nil, or_false, or_self, decide_true, decide_false, Int.reduceToNat, Nat.min_eq_left, Nat.min_eq_right, Int.reducePow, Nat.reducePow, Int.reduceLE, Int.reduceLT, Int.reduceMul, Int.reduceAdd, Int.reduceSub, Int.reduceNeg, Bool.not_true, Bool.not_false, Bool.not_not, ↓reduceIte, Nat.reduceAdd, Nat.reduceSub, Nat.reduceMul, Nat.reduceEqDiff, reduceCtorEq, Nat.reduceLT, Nat.reduceLeDiff, Nat.reduceGT]); (try any_goals (refine ⟨?_, ?_⟩)); (try any_goals (with_reducible rfl))))
    · exact ⟨Nat.zero_le _, fun j hj => by omega⟩
    · (focus (refine ⟨_, _, Gh.refl, [], rfl, ?_⟩; (refine ⟨?_, ?_, ?_⟩ <;> simp only [go_sem, List.range, List.range.loop, List.nodup_cons, List.nodup_nil, List.mem_cons, List.not_mem_nil, or_false, or_self, decide_true, decide_false, Int.reduceToNat, Nat.min_eq_left, Nat.min_eq_right, Int.reducePow, Nat.reducePow, Int.reduceLE, Int.reduceLT, Int.reduceMul, Int.reduceAdd, Int.reduceSub, Int.reduceNeg, Bool.not_true, Bool.not_false, Bool.not_not, ↓reduceIte, Nat.reduceAdd, Nat.reduceSub, Nat.reduceMul, Nat.reduceEqDiff, reduceCtorEq, Nat.reduceLT, Nat.reduceLeDiff, Nat.reduceGT]); (try any_goals (refine ⟨?_, ?_⟩)); (try any_goals (with_reducible rfl))))
  · have hld : decide ((l.length : Int) = m.length) = false := decide_eq_false (by omega)
    refine w_body (rs := [.tmp 4]) (tm := [.ro .ent l, .ro .ent m, .any, .any, .any, .any, .any, .any, .any, .any, .any, .any, .any, .any, .any, .any, .any, .any, .any, .any, .any, .any, .any, .any, .any, .any, .any, .any, .any, .any, .any, .any, .any, .any, .any, .any, .any, .any, .any, .any, .any, .any, .any, .any, .any, .any, .any, .any, .any, .any, .any, .any, .any, .any, .any, .any, .any, .any, .any, .any, .any, .any, .any, .any, .any, .any, .any, .any]) fn_15 rfl rfl rfl rfl fun R hR => ?_
    (all_goals (try ((first | (with_reducible refine wp_id ?_) | (with_reducible refine does_id ?_) | (with_reducible refine ops_id ?_)); refine walk ?_; (repeat' (first | exact trivial | with_reducible refine And.intro ?_ ?_)); all_goals (repeat (first | (with_reducible refine ImpB.mk fun hb => ?_) | (with_reducible refine ImpK.mk fun hK => ?_) | (with_reducible refine ImpF.mk fun hF => ?_) | (with_reducible refine ImpQ.mk fun hp => ?_) | (with_reducible refine AllE.mk fun p => ?_) | (with_reducible refine AllR.mk fun rest => ?_) | (with_reducible refine AllK.mk fun K => ?_))))); repeat' (with_reducible refine And.intro ?_ ?_))
    all_goals try (exfalso; simp at hb; omega)
    rw [decide_eq_false (fun q => hlm (by rw [q]))]
    (focus (refine ⟨_, _, Gh.refl, [], rfl, ?_⟩; (refine ⟨?_, ?_, ?_⟩ <;> simp only [go_sem, List.range, List.range.loop, List.nodup_cons, List.nodup_nil, List.mem_cons, List.not_mem_nil, or_false, or_self, decide_true, decide_false, Int.reduceToNat, Nat.min_eq_left, Nat.min_eq_right, Int.reducePow, Nat.reducePow, Int.reduceLE, Int.reduceLT, Int.reduceMul, Int.reduceAdd, Int.reduceSub, Int.reduceNeg, Bool.not_true, Bool.not_false, Bool.not_not, ↓reduceIte, Nat.reduceAdd, Nat.reduceSub, Nat.reduceMul, Nat.reduceEqDiff, reduceCtorEq, Nat.reduceLT, Nat.reduceLeDiff, Nat.reduceGT]); (try any_goals (refine ⟨?_, ?_⟩)); (try any_goals (with_reducible rfl))))
def liteB (x : Ent) : Bool := decide (x.c.args.length ≤ 40) && decide (x.c.data.length ≤ 1000)
theorem light_no {l : List Ent} {k : Nat} {n : Int} (hk : k < l.length) (h : liteB (l.getD k Ent.zero) = false) : (l.all liteB && decide ((l.length : Int) ≤ n)) = false := by
  rw [Bool.and_eq_false_iff]
  left
  rw [Bool.eq_false_iff]
  intro q
  rw [List.all_eq_true] at q
  have := q _ (List.getElem_mem hk)
  rw [List.getD_eq_getElem?_getD, List.getElem?_eq_getElem hk] at h
  simp only [Option.getD_some] at h
  rw [h] at this
  cases this
theorem b_elight (l : List Ent) (n : Int) (hl : l.length ≤ 9223372036854775807) : DoesK Try.prog 0 23 [.ro .ent l, .int .i64 n] [] (EndF 0 (.bool (l.all liteB && decide ((l.length : Int) ≤ n))) []) := by
  refine DoesK.close ?_
  refine w_body (rs := [.tmp 4]) (tm := [.ro .ent l, .int .i64 n, .any, .any, .any, .any, .any, .any, .any, .any, .any, .any, .any, .any, .any, .any, .any, .any, .any, .any, .any, .any, .any, .any, .any, .any, .any, .any, .any, .any, .any, .any, .any, .any]) fn_23 rfl rfl rfl rfl fun R hR => ?_
  (all_goals (try ((first | (with_reducible refine wp_id ?_) | (with_reducible refine does_id ?_) | (with_reducible refine ops_id ?_)); refine walk ?_; (repeat' (first | exact trivial | with_reducible refine And.intro ?_ ?_)); all_goals (repeat (first | (with_reducible refine ImpB.mk fun hb => ?_) | (with_reducible refine ImpK.mk fun hK => ?_) | (with_reducible refine ImpF.mk fun hF => ?_) | (with_reducible refine ImpQ.mk fun hp => ?_) | (with_reducible refine AllE.mk fun p => ?_) | (with_reducible refine AllR.mk fun rest => ?_) | (with_reducible refine AllK.mk fun K => ?_))))); repeat' (with_reducible refine And.intro ?_ ?_))
  any_goals ((try (refine w_seq fun K hK => ?_)); (try (refine w_block ?_)); refine w_loop (A := Nat) (fun k => k ≤ l.length ∧ (l.take k).all liteB = true) (fun k => l.length - k) (fun k => [(5, .int .i64 k)]) (fun _ => []) (0) (ws := ?ws2) (tk := ?tk2) ?hw2 ?ht2 ?hi ?h0 ?LH2; (case hw2 => simp only [go_sem, decide_true, decide_false, Int.reduceToNat, Nat.min_eq_left, Nat.min_eq_right, Int.reducePow, Nat.reducePow, Int.reduceLE, Int.reduceLT, Int.reduceMul, Int.reduceAdd, Int.reduceSub, Int.reduceNeg, Bool.not_true, Bool.not_false, Bool.not_not, ↓reduceIte, Nat.reduceAdd, Nat.reduceSub, Nat.reduceMul, Nat.reduceEqDiff, reduceCtorEq, Nat.reduceLT, Nat.reduceLeDiff, Nat.reduceGT]; exact rfl); (case ht2 => simp only [go_sem, decide_true, decide_false, Int.reduceToNat, Nat.min_eq_left, Nat.min_eq_right, Int.reducePow, Nat.reducePow, Int.reduceLE, Int.reduceLT, Int.reduceMul, Int.reduceAdd, Int.reduceSub, Int.reduceNeg, Bool.not_true, Bool.not_false, Bool.not_not, ↓reduceIte, Nat.reduceAdd, Nat.reduceSub, Nat.reduceMul, Nat.reduceEqDiff, reduceCtorEq, Nat.reduceLT, Nat.reduceLeDiff, Nat.reduceGT]; exact rfl); (case' LH2 => rintro k E t hx hE ht; simp only [go_sem] at ht; subst ht; simp only [go_sem]; try dsimp only at hx))
  (all_goals (try ((first | (with_reducible refine wp_id ?_) | (with_reducible refine does_id ?_) | (with_reducible refine ops_id ?_)); refine walk ?_; (repeat' (first | exact trivial | with_reducible refine And.intro ?_ ?_)); all_goals (repeat (first | (with_reducible refine ImpB.mk fun hb => ?_) | (with_reducible refine ImpK.mk fun hK => ?_) | (with_reducible refine ImpF.mk fun hF => ?_) | (with_reducible refine ImpQ.mk fun hp => ?_) | (with_reducible refine AllE.mk fun p => ?_) | (with_reducible refine AllR.mk fun rest => ?_) | (with_reducible refine AllK.mk fun K => ?_))))); repeat' (with_reducible refine And.intro ?_ ?_))
  (all_goals (repeat (first | (clear hK; clear K) | (clear hE; clear E) | (clear hF; clear F) | (clear hR; clear R))); all_goals (try simp only [decide_eq_true_eq, decide_eq_false_iff_not, Bool.not_eq_true', Bool.not_eq_false', Bool.not_eq_true, Bool.not_eq_false, decide_not, decide_true, decide_false, Bool.decide_and, Bool.and_eq_true, Bool.or_eq_true, Bool.and_eq_false_imp, Decidable.not_not] at *); all_goals (try omega); all_goals (try (first | exact u8w_lo _ | exact u8w_hi _ | exact (bits8 _ _ _).1 | exact (bits8 _ _ _).2 | exact Int.natCast_nonneg _ | exact u8_ltI _)))
  · rw [light_no (k := k) (by omega) (by simp only [liteB, Bool.and_eq_false_iff, decide_eq_false_iff_not]; omega)]
    (focus (refine ⟨_, _, Gh.refl, [], rfl, ?_⟩; (refine ⟨?_, ?_, ?_⟩ <;> simp only [go_sem, List.range, List.range.loop, List.nodup_cons, List.nodup_nil, List.mem_cons, List.not_mem_nil, or_false, or_self, decide_true, decide_false, Int.reduceToNat, Nat.min_eq_left, Nat.min_eq_right, Int.reducePow, Nat.reducePow, Int.reduceLE, Int.reduceLT, Int.reduceMul, Int.reduceAdd, Int.reduceSub, Int.reduceNeg, Bool.not_true, Bool.not_false, Bool.not_not, ↓reduceIte, Nat.reduceAdd, Nat.reduceSub, Nat.reduceMul, Nat.reduceEqDiff, reduceCtorEq, Nat.reduceLT, Nat.reduceLeDiff, Nat.reduceGT]); (try any_goals (refine ⟨?_, ?_⟩)); (try any_goals (with_reducible rfl))))
  · rw [light_no (k := k) (by omega) (by simp only [liteB, Bool.and_eq_false_iff, decide_eq_false_iff_not]; omega)]
    (focus (refine ⟨_, _, Gh.refl, [], rfl, ?_⟩; (refine ⟨?_, ?_, ?_⟩ <;> simp only [go_sem, List.range, List.range.loop, List.nodup_cons, List.nodup_nil, List.mem_cons, List.not_mem_nil, or_false, or_self, decide_true, decide_false, Int.reduceToNat, Nat.min_eq_left, Nat.min_eq_right, Int.reducePow, Nat.reducePow, Int.reduceLE, Int.reduceLT, Int.reduceMul, Int.reduceAdd, Int.reduceSub, Int.reduceNeg, Bool.not_true, Bool.not_false, Bool.not_not, ↓reduceIte, Nat.reduceAdd, Nat.reduceSub, Nat.reduceMul, Nat.reduceEqDiff, reduceCtorEq, Nat.reduceLT, Nat.reduceLeDiff, Nat.reduceGT]); (try any_goals (refine ⟨?_, ?_⟩)); (try any_goals (with_reducible rfl))))
  · refine ⟨k + 1, ⟨⟨by first | omega | (dsimp only; omega), ?n1⟩, by first | omega | (dsimp only; omega)⟩, ?n2⟩
    case n1 =>
      rw [ent_take (by omega), List.all_append, hx.2]
      simp only [List.all_cons, List.all_nil, Bool.and_true, liteB, Bool.and_eq_true, decide_eq_true_eq, Bool.true_and]
      omega
    (focus (refine ⟨_, _, Gh.refl, [], rfl, ?_⟩; (refine ⟨?_, ?_, ?_⟩ <;> simp only [go_sem, List.range, List.range.loop, List.nodup_cons, List.nodup_nil, List.mem_cons, List.not_mem_nil, or_false, or_self, decide_true, decide_false, Int.reduceToNat, Nat.min_eq_left, Nat.min_eq_right, Int.reducePow, Nat.reducePow, Int.reduceLE, Int.reduceLT, Int.reduceMul, Int.reduceAdd, Int.reduceSub, Int.reduceNeg, Bool.not_true, Bool.not_false, Bool.not_not, ↓reduceIte, Nat.reduceAdd, Nat.reduceSub, Nat.reduceMul, Nat.reduceEqDiff, reduceCtorEq, Nat.reduceLT, Nat.reduceLeDiff, Nat.reduceGT]); (try any_goals (refine ⟨?_, ?_⟩)); (try any_goals (with_reducible rfl))))
    all_goals first | (first | with_reducible rfl | omega | ((simp (disch := omega) only [wrap_i64]); first | done | omega) | (simp only [List.append_assoc, List.cons_append, List.nil_append]; done)) | skip
  · have h1 := hx.2
    rw [List.take_of_length_le (by omega)] at h1
    rw [h1, Bool.true_and]
    (focus (refine ⟨_, _, Gh.refl, [], rfl, ?_⟩; (refine ⟨?_, ?_, ?_⟩ <;> simp only [go_sem, List.range, List.range.loop, List.nodup_cons, List.nodup_nil, List.mem_cons, List.not_mem_nil, or_false, or_self, decide_true, decide_false, Int.reduceToNat, Nat.min_eq_left, Nat.min_eq_right, Int.reducePow, Nat.reducePow, Int.reduceLE, Int.reduceLT, Int.reduceMul, Int.reduceAdd, Int.reduceSub, Int.reduceNeg, Bool.not_true, Bool.not_false, Bool.not_not, ↓reduceIte, Nat.reduceAdd, Nat.reduceSub, Nat.reduceMul, Nat.reduceEqDiff, reduceCtorEq, Nat.reduceLT, Nat.reduceLeDiff, Nat.reduceGT]); (try any_goals (refine ⟨?_, ?_⟩)); (try any_goals (with_reducible rfl))))
  · rfl
  · (focus (refine ⟨_, _, Gh.refl, [], rfl, ?_⟩; (refine ⟨?_, ?_, ?_⟩ <;> simp only [go_sem, List.range, List.range.loop, List.nodup_cons, List.nodup_nil, List.mem_cons, List.not_mem_nil, or_false, or_self, decide_true, decide_false, Int.reduceToNat, Nat.min_eq_left, Nat.min_eq_right, Int.reducePow, Nat.reducePow, Int.reduceLE, Int.reduceLT, Int.reduceMul, Int.reduceAdd, Int.reduceSub, Int.reduceNeg, Bool.not_true, Bool.not_false, Bool.not_not, ↓reduceIte, Nat.reduceAdd, Nat.reduceSub, Nat.reduceMul, Nat.reduceEqDiff, reduceCtorEq, Nat.reduceLT, Nat.reduceLeDiff, Nat.reduceGT]); (try any_goals (refine ⟨?_, ?_⟩)); (try any_goals (with_reducible rfl))))
theorem c_esame {h : List Ch} {K : KT} {l m : List Ent} {a b : AV} (H : K (.bool (decide (l = m))) h) (b1 : brA [] h (.ro .ent l) a) (b2 : brA [] h (.ro .ent m) b) (s1 : l.length ≤ 1099511627776) (s2 : m.length ≤ 1099511627776) (s3 : litE l) : Does Try.prog 15 [a, b] h K :=
  frame_pure (b_esame l m s1 s2 s3) (br_cons b1 (br_cons b2 br_nil)) (.inr rfl) (fun _ => rfl) H
abbrev i_esame := Ctr.mk (i := 0) (g := 15) @c_esame
attribute [instance] i_esame
theorem c_elight {h : List Ch} {K : KT} {l : List Ent} {n : Int} {a : AV} (H : K (.bool (l.all liteB && decide ((l.length : Int) ≤ n))) h) (b1 : brA [] h (.ro .ent l) a) (s1 : l.length ≤ 9223372036854775807) : Does Try.prog 23 [a, .int .i64 n] h K :=
  frame_pure (b_elight l n s1) (br_cons b1 (br_cons br_int br_nil)) (.inr rfl) (fun _ => rfl) H
abbrev i_elight := Ctr.mk (i := 0) (g := 23) @c_elight
attribute [instance] i_elight
end Go.V

namespace Go.V
/-- all that lies in the memory at the start lies for good -/
def oldR (w : World) : RO := fun b => w.heap[b]?
theorem old_ok (w : World) : HOk (oldR w) [] [] w := ⟨trivial, by simp [ownH], fun b hb => by simp [ownH] at hb, fun _ _ h => h⟩
theorem cell_of {w : World} {a : Addr} {v : Value} (h : w.cell? a = some v) : a.spot = none ∧ ∃ arr ty fr, w.heap[a.block]? = some (.cells arr ty fr) ∧ arr[a.off]? = some v := by
  unfold World.cell? at h
  split at h
  · rename_i c ty fr hc
    split at h
    · simp at h
    · rename_i hs
      exact ⟨by simpa using hs, c, ty, fr, hc, h⟩
  · simp at h
theorem add_block (a : Addr) (i : Nat) : (a.add i).block = a.block := by
  unfold Addr.add
  split <;> rfl
theorem add_off (a : Addr) (i : Nat) : (a.add i).off = a.off + i := by
  unfold Addr.add
  split
  · simp_all
  · rfl
/-- some cells in a row -/
theorem cells_of {w : World} {base : Nat} {a : Addr} {n : Nat} {cs : List Value} (h : w.cells? base a n = some cs) (hn : 0 < n) : a.spot = none ∧ ∃ arr ty fr, w.heap[a.block]? = some (.cells arr ty fr) ∧ (arr.toList.drop a.off).take n = cs := by
  obtain ⟨_, hl, hg⟩ := World.cells?_some h
  have h0 := hg 0 hn
  rw [List.getElem?_eq_getElem (by omega)] at h0
  obtain ⟨hs, arr, ty, fr, hb, _⟩ := cell_of h0
  rw [add_block] at hb
  refine ⟨by simpa [Addr.add] using hs, arr, ty, fr, hb, ?_⟩
  apply List.ext_getElem?
  intro i
  by_cases hi : i < n
  · have h1 := hg i hi
    rw [List.getElem?_eq_getElem (show i < cs.length by omega)] at h1
    obtain ⟨_, arr', ty', fr', hb', h2⟩ := cell_of h1
    rw [add_block, hb] at hb'
    cases hb'
    rw [add_off] at h2
    rw [List.getElem?_take_of_lt hi, List.getElem?_drop, List.getElem?_eq_getElem (show i < cs.length by omega)]
    simpa using h2
  · rw [List.getElem?_eq_none (by simp; omega), List.getElem?_eq_none (by omega)]
/-- a type: what reads as data of it lies as one of these lists of abstract values -/
def Opens (P : Program) (w : World) (t : TypeId) (S : List AV → Prop) : Prop :=
  ∀ (H : Type) (enc : TypeId × Value → H) (base : Nat) (spare : Nat → Bool) (held : Bool) (fuel : Nat) (cs : List Value) (x : DataW H × List MemPlace), DataW.trod enc P w base spare held fuel t cs = some x → ∃ l, S l ∧ LRel (oldR w) [] l cs
section
variable {P : Program} {w : World}
theorem Opens.mono {t : TypeId} {S S' : List AV → Prop} (h : Opens P w t S) (hs : ∀ l, S l → S' l) : Opens P w t S' := fun H enc base spare held fuel cs x hx => by
  obtain ⟨l, h1, h2⟩ := h H enc base spare held fuel cs x hx
  exact ⟨l, hs l h1, h2⟩
theorem Opens.int {t : TypeId} {k : IntKind} (ht : P.underlying t = some (.int k)) : Opens P w t fun l => ∃ n, k.has n ∧ l = [.int k n] := fun H enc base spare held fuel cs x hx => by
  cases fuel with
  | zero => simp [DataW.trod] at hx
  | succ fuel =>
    unfold DataW.trod at hx
    simp only [ht] at hx
    split at hx
    all_goals first | (rename_i h1 _; cases h1; done) | skip
    all_goals simp_all
    rename_i k' n h1
    subst h1
    obtain ⟨⟨rfl, h2⟩, _⟩ := hx
    exact ⟨_, ⟨n, by simpa [Lit.wf, IntKind.has] using h2, rfl⟩, .cons .int .nil⟩
theorem Opens.bool {t : TypeId} (ht : P.underlying t = some .bool) : Opens P w t fun l => ∃ b, l = [.bool b] := fun H enc base spare held fuel cs x hx => by
  cases fuel with
  | zero => simp [DataW.trod] at hx
  | succ fuel =>
    unfold DataW.trod at hx
    simp only [ht] at hx
    split at hx
    all_goals simp_all
    rename_i b
    cases b
    · exact .inl (.cons .bool .nil)
    · exact .inr (.cons .bool .nil)
theorem Opens.struct {t : TypeId} {fs : Array Field} {Ss : List (List AV → Prop)} (ht : P.underlying t = some (.struct fs)) (hl : fs.size = Ss.length)
    (hS : ∀ (i : Nat) (f : Field) (S : List AV → Prop), fs[i]? = some f → Ss[i]? = some S → Opens P w f.type S)
    (hoff : ∀ (i : Nat) (f : Field), fs[i]? = some f → f.offset = ((fs.toList.take i).map fun g => P.cellsOf g.type).sum) (hsz : P.cellsOf t = (fs.toList.map fun g => P.cellsOf g.type).sum) :
    Opens P w t fun l => ∃ ls : List (List AV), ls.length = Ss.length ∧ (∀ (i : Nat) (S : List AV → Prop) (m : List AV), Ss[i]? = some S → ls[i]? = some m → S m) ∧ l = ls.flatten := fun H enc base spare held fuel cs x hx => by
  obtain ⟨xs, n, _, _, hlen, hxs, hf⟩ := DataW.trod_struct ht hx
  have key : ∀ k, k ≤ fs.size → ∃ ls : List (List AV), ls.length = k ∧ (∀ (i : Nat) (S : List AV → Prop) (m : List AV), Ss[i]? = some S → ls[i]? = some m → S m) ∧ LRel (oldR w) [] ls.flatten (cs.take (((fs.toList.take k).map fun g => P.cellsOf g.type).sum)) := by
    intro k
    induction k with
    | zero => intro _; exact ⟨[], rfl, fun i S m _ h => by simp at h, by simp; exact .nil⟩
    | succ k ih =>
      intro hk
      obtain ⟨ls, h1, h2, h3⟩ := ih (by omega)
      have hfk : fs[k]? = some fs[k] := by simp [show k < fs.size by omega]
      have hSk : Ss[k]? = some (Ss[k]'(by omega)) := by simp [show k < Ss.length by omega]
      have hx := hf k _ hfk
      rw [List.getElem?_eq_getElem (by omega)] at hx
      obtain ⟨m, h4, h5⟩ := hS k _ _ hfk hSk H enc base spare held n _ _ hx
      refine ⟨ls ++ [m], by simp [h1], fun i S m' hS' hm' => ?_, ?_⟩
      · by_cases hi : i < ls.length
        · rw [List.getElem?_append_left hi] at hm'
          exact h2 i S m' hS' hm'
        · have : i = k := by
            have := (List.getElem?_eq_some_iff.1 hm').1
            simp at this
            omega
          subst this
          rw [List.getElem?_append_right (by omega), h1] at hm'
          simp at hm'
          subst hm'
          rw [hSk] at hS'
          cases hS'
          exact h4
      · rw [List.flatten_append, List.flatten_singleton, List.take_succ_eq_append_getElem (show k < fs.toList.length by simp; omega), List.map_append, List.sum_append, List.take_add]
        rw [hoff k _ hfk] at h5
        have e : fs.toList[k] = fs[k] := by simp
        rw [e]
        simp only [List.map_cons, List.map_nil, List.sum_cons, List.sum_nil, Nat.add_zero]
        exact h3.app h5
  obtain ⟨ls, h1, h2, h3⟩ := key fs.size (Nat.le_refl _)
  refine ⟨ls.flatten, ⟨ls, by omega, h2, rfl⟩, ?_⟩
  rw [List.take_of_length_le (l := fs.toList) (by simp), ← hsz, ← hlen, List.take_length] at h3
  exact h3
def OpL (P : Program) (w : World) : List Field → List (List AV → Prop) → Prop
  | [], [] => True
  | f :: fs, S :: Ss => Opens P w f.type S ∧ OpL P w fs Ss
  | _, _ => False
def offB (P : Program) : List Field → Nat → Bool
  | [], _ => true
  | f :: fs, n => (f.offset == n) && offB P fs (n + P.cellsOf f.type)
theorem OpL.len : ∀ {fs : List Field} {Ss : List (List AV → Prop)}, OpL P w fs Ss → fs.length = Ss.length
  | [], [], _ => rfl
  | _ :: _, _ :: _, h => by simp [OpL.len h.2]
  | [], _ :: _, h => h.elim
  | _ :: _, [], h => h.elim
theorem OpL.get : ∀ {fs : List Field} {Ss : List (List AV → Prop)} (i : Nat) {f : Field} {S : List AV → Prop}, OpL P w fs Ss → fs[i]? = some f → Ss[i]? = some S → Opens P w f.type S
  | _ :: _, _ :: _, 0, _, _, h, e1, e2 => by simp at e1 e2; subst e1; subst e2; exact h.1
  | _ :: _, _ :: _, i + 1, _, _, h, e1, e2 => OpL.get i h.2 (by simpa using e1) (by simpa using e2)
  | [], [], _, _, _, _, e1, _ => by simp at e1
  | [], _ :: _, _, _, _, h, _, _ => h.elim
  | _ :: _, [], _, _, _, h, _, _ => h.elim
theorem offB_get : ∀ {fs : List Field} {n : Nat} (i : Nat) {f : Field}, offB P fs n = true → fs[i]? = some f → f.offset = n + ((fs.take i).map fun g => P.cellsOf g.type).sum
  | _ :: _, _, 0, _, h, e => by
    simp at e
    subst e
    simp only [offB, Bool.and_eq_true, beq_iff_eq] at h
    simpa using h.1
  | g :: fs, n, i + 1, _, h, e => by
    simp only [offB, Bool.and_eq_true, beq_iff_eq] at h
    have := offB_get i h.2 (by simpa using e)
    simp only [List.take_succ_cons, List.map_cons, List.sum_cons]
    omega
  | [], _, _, _, _, e => by simp at e
/-- a struct's fields lie one behind the other -/
theorem Opens.fields {t : TypeId} {fl : List Field} {Ss : List (List AV → Prop)} (ht : P.underlying t = some (.struct fl.toArray)) (hS : OpL P w fl Ss) (ho : offB P fl 0 = true) (hsz : P.cellsOf t = (fl.map fun g => P.cellsOf g.type).sum) :
    Opens P w t fun l => ∃ ls : List (List AV), ls.length = Ss.length ∧ (∀ (i : Nat) (S : List AV → Prop) (m : List AV), Ss[i]? = some S → ls[i]? = some m → S m) ∧ l = ls.flatten :=
  Opens.struct ht (by simpa using hS.len) (fun i f S h1 h2 => hS.get i (by simpa using h1) h2) (fun i f h => by simpa using offB_get i ho (by simpa using h)) hsz
/-- slices: of the kind of elements e, each as `ok` says -/
theorem Opens.slice {t te : TypeId} {e : Ety} {S : List AV → Prop} {ok : e.T → Prop} (ht : P.underlying t = some (.slice te)) (hsz : P.cellsOf te = e.sz) (he : Opens P w te S) (hok : ∀ l, S l → ∃ x : e.T, e.enc x = l ∧ ok x) :
    Opens P w t fun l => ∃ xs : List e.T, xs.length ≤ maxLen ∧ (∀ x ∈ xs, ok x) ∧ l = [.ro e xs] := fun H enc base spare held fuel cs x hx => by
  rcases DataW.trod_slice ht hx with ⟨rfl, _⟩ | ⟨a, len, cap, elems, rest, n, _, rfl, _, _, hlc, hcm, hel, hg, _⟩
  · exact ⟨[.ro e []], ⟨[], by simp, by simp, rfl⟩, .cons (.ro0 (Nat.zero_le _)) .nil⟩
  · by_cases h0 : len = 0
    · subst h0
      exact ⟨[.ro e []], ⟨[], by simp, by simp, rfl⟩, .cons (.ro0 hcm) .nil⟩
    · have hz := e.sz_pos
      have each : ∀ i, i < len → ∃ (m : e.T) (cs' : List Value), ok m ∧ LRel (oldR w) [] (e.enc m) cs' ∧ w.cells? base (a.add (i * e.sz)) e.sz = some cs' := by
        intro i hi
        have h1 := hg i hi
        rw [List.getElem?_eq_getElem (by omega), hsz] at h1
        obtain ⟨cs', h2, h3⟩ := Option.bind_eq_some_iff.1 h1
        obtain ⟨l, h4, h5⟩ := he H enc base spare held n _ _ h3
        obtain ⟨m, rfl, h6⟩ := hok l h4
        exact ⟨m, cs', h6, h5, h2⟩
      obtain ⟨_, _, _, _, hc0⟩ := each 0 (by omega)
      obtain ⟨hs, arr, ty, fr, hb, _⟩ := cells_of hc0 hz
      have hs0 : a.spot = none := by
        rw [Nat.zero_mul] at hs
        simpa [Addr.add] using hs
      rw [add_block] at hb
      have key : ∀ k, k ≤ len → ∃ xs : List e.T, xs.length = k ∧ (∀ x ∈ xs, ok x) ∧ LRel (oldR w) [] (xs.flatMap e.enc) ((arr.toList.drop a.off).take (k * e.sz)) := by
        intro k
        induction k with
        | zero => intro _; exact ⟨[], rfl, by simp, by simp; exact .nil⟩
        | succ k ih =>
          intro hk
          obtain ⟨xs, h1, h2, h3⟩ := ih (by omega)
          obtain ⟨m, cs', h4, h5, h6⟩ := each k (by omega)
          obtain ⟨_, arr', ty', fr', hb', h7⟩ := cells_of h6 hz
          rw [add_block, hb] at hb'
          cases hb'
          rw [add_off] at h7
          refine ⟨xs ++ [m], by simp [h1], fun x hx => ?_, ?_⟩
          · rcases List.mem_append.1 hx with hx | hx
            · exact h2 x hx
            · rw [List.mem_singleton] at hx
              subst hx
              exact h4
          · rw [List.flatMap_append, List.flatMap_singleton, Nat.succ_mul, List.take_add, List.drop_drop, h7]
            exact h3.app h5
      obtain ⟨xs, h1, h2, h3⟩ := key len (Nat.le_refl _)
      refine ⟨[.ro e xs], ⟨xs, by omega, h2, rfl⟩, .cons ?_ .nil⟩
      obtain ⟨ab, ao, sp⟩ := a
      simp only at hs0
      subst hs0
      rw [← h1]
      exact .ro hb (by rw [h1]; exact h3) (by omega) hcm
/-! ### Arguments -/
def OpensV (P : Program) (w : World) (t : TypeId) (S : AV → Prop) : Prop :=
  ∀ (H : Type) (enc : TypeId × Value → H) (r : Reach) (b0 : Nat) (v : Value) (d : DataW H) (p : List MemPlace), Value.okWide P w r b0 t v → DataW.Trod enc P w 0 (fun _ => true) true t v d p → ∃ a, S a ∧ Rel (oldR w) [] a v
theorem Opens.arg1 {t : TypeId} {S : List AV → Prop} (h : Opens P w t S) (ht : ∀ v r b0, Value.okWide P w r b0 t v → v.cells = #[v]) : OpensV P w t fun a => S [a] := fun H enc r b0 v d p hv hd => by
  obtain ⟨fuel, hd⟩ := hd
  obtain ⟨l, h1, h2⟩ := h H enc _ _ _ fuel _ _ hd
  rw [ht v r b0 hv] at h2
  cases h2 with
  | cons h3 h4 =>
    cases h4
    exact ⟨_, h1, h3⟩
theorem one_of {t : TypeId} {u : TypeDesc} (ht : P.underlying t = some u) (hu : (match u with | .bool | .int _ | .string | .slice _ => true | _ => false) = true) (v : Value) (r : Reach) (b0 : Nat) (hv : Value.okWide P w r b0 t v) : v.cells = #[v] := by
  unfold Value.okWide at hv
  cases u <;> simp at hu <;> simp only [ht] at hv <;> unfold Cell.okWide Cell.ok at hv <;> simp only [ht] at hv <;> cases v <;> first | rfl | (simp at hv; done)
end
/-- a call over nothing but what lies for good leaves what lay there as it is -/
theorem does_calls {P : Program} {g : FuncId} {xs : List AV} {S : AV → Prop} {vs : List Value} {w : World} (H : Does P g xs [] fun a _ => S a) (hr : LRel (oldR w) [] xs vs) : Calls P g vs.toArray w fun e w' => (∃ v a R μ, e = .returned v ∧ S a ∧ Rel R μ a v) ∧ Go.RowKit.Below w.heap.size w w' :=
  (H.run (oldR w) [] w vs hr (old_ok w)).mono fun e w' hx => by
    obtain ⟨v, R', μ', h', av, rfl, h1, h2, _, _, h3⟩ := hx
    exact ⟨⟨v, av, R', μ', rfl, h1, h2⟩, h3.os, h3.tape, h3.output, h3.size, fun k hk => h3.out k hk (by simp [ownH])⟩
theorem does_true {P : Program} {g : FuncId} {xs : List AV} {vs : List Value} {w : World} (H : Does P g xs [] fun a _ => a = .bool true) (hr : LRel (oldR w) [] xs vs) : Calls P g vs.toArray w fun e w' => e = .returned (.bool true) ∧ Go.RowKit.Below w.heap.size w w' :=
  (does_calls H hr).mono fun e w' hx => by
    obtain ⟨⟨v, a, R, μ, rfl, rfl, h2⟩, hb⟩ := hx
    cases h2
    exact ⟨rfl, hb⟩
end Go.V
