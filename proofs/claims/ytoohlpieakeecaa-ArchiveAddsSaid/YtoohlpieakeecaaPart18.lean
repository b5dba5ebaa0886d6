/-
  archive.Add of an item of a known application process.
  archive: contracts at any number of application processes; Lists, few.
-/
import Derived.Test.YtoohlpieakeecaaPart17
set_option linter.unusedVariables false
set_option linter.unusedSimpArgs false
set_option maxRecDepth 100000
set_option maxHeartbeats 8000000
namespace Go.V
open Go.Proofs
attribute [-go_sem] AE AO
theorem Arc.upd {h : List Ch} {ts : List Nat} {ps : List Prc} {i m T : Nat} {p' : Prc} {B X C : Ch} (A : Arc h 1 ts ps) (hT : ts.getD i 0 = T) (hi : i < ps.length) (hp : p'.apid = (pAt ps i).apid) (hm : m = p'.list.length) : Arc ((h.set T .gone).set 1 (.crow ((flatP ts ps).set (i * 2 + 1) (.sl (h.length + 3) .ent 0 m))) ++ [B, X, C, .rows .ent p'.list]) 1 (ts.set i (h.length + 3)) (ps.set i p') := by
  subst hm
  have hln := A.lt
  have hti : i < ts.length := by rw [A.len]; exact hi
  have hTm : T ∈ ts := by
    rw [← hT, List.getD_eq_getElem?_getD, List.getElem?_eq_getElem hti]; exact List.getElem_mem hti
  have hnd := A.nd
  have hnt : ∀ t ∈ ts, t ≠ 0 ∧ t ≠ 1 ∧ t < h.length := fun t ht => by
    obtain ⟨n1, n2⟩ := List.nodup_cons.1 hnd
    obtain ⟨n3, n4⟩ := List.nodup_cons.1 n2
    exact ⟨fun q => n1 (by rw [q] at ht; simp [ht]), fun q => n3 (by rw [q] at ht; exact ht), hln t (by simp [ht])⟩
  have hts : ts.Nodup := (List.nodup_cons.1 (List.nodup_cons.1 hnd).2).2
  have hh1 := hln 1 (by simp)
  obtain ⟨h2, hh2⟩ : ∃ h2, (h.set T .gone).set 1 (.crow ((flatP ts ps).set (i * 2 + 1) (.sl (h.length + 3) .ent 0 p'.list.length))) = h2 := ⟨_, rfl⟩
  have hl2 : h2.length = h.length := by rw [← hh2]; simp
  have hr : ∀ t, t ≠ T → t ≠ 1 → hth h2 t = hth h t := fun t q0 q1 => by rw [← hh2, hth_set_ne (Ne.symm q1), hth_set_ne (Ne.symm q0)]
  have h1 : hth h2 1 = .crow ((flatP ts ps).set (i * 2 + 1) (.sl (h.length + 3) .ent 0 p'.list.length)) := by rw [← hh2]; exact hth_set_eq (by simpa using hh1)
  obtain ⟨q0, q1, q2⟩ := hnt T hTm
  rw [hh2]
  refine ⟨by simp; exact A.pos, ?_, ?_, by simp [A.len], fun j hj => ?_, ?_⟩
  · rw [hth_app (by have := hln 0 (by simp); omega), hr 0 (Ne.symm q0) (by decide), A.o]; simp
  · rw [hth_app (by omega), h1, flatP_set A.len hi hp]
  · rw [List.length_set] at hj
    by_cases c : j = i
    · subst c
      have e1 : (ts.set j (h.length + 3)).getD j 0 = h.length + 3 := by rw [List.getD_eq_getElem?_getD, List.getElem?_set_self hti]; rfl
      have e2 : pAt (ps.set j p') j = p' := by show (ps.set j p').getD j Prc.zero = _; rw [List.getD_eq_getElem?_getD, List.getElem?_set_self hi]; rfl
      rw [e1, e2, ← hl2, hth_app_r]; rfl
    · have e1 : (ts.set i (h.length + 3)).getD j 0 = ts.getD j 0 := by rw [List.getD_eq_getElem?_getD, List.getElem?_set_ne (Ne.symm c), List.getD_eq_getElem?_getD]
      have e2 : pAt (ps.set i p') j = pAt ps j := by show (ps.set i p').getD j Prc.zero = ps.getD j Prc.zero; rw [List.getD_eq_getElem?_getD, List.getElem?_set_ne (Ne.symm c), List.getD_eq_getElem?_getD]
      have hj2 : j < ts.length := by rw [A.len]; exact hj
      have hm : ts.getD j 0 ∈ ts := by
        rw [List.getD_eq_getElem?_getD, List.getElem?_eq_getElem hj2]; exact List.getElem_mem hj2
      obtain ⟨r0, r1, r2⟩ := hnt _ hm
      have hne : ts.getD j 0 ≠ T := fun q => c (by
        rw [← hT, List.getD_eq_getElem?_getD, List.getD_eq_getElem?_getD, List.getElem?_eq_getElem hj2, List.getElem?_eq_getElem hti] at q
        exact (List.getElem_inj hts).1 q)
      rw [e1, e2, hth_app (by omega), hr _ hne r1, A.rows j hj]
  · refine List.nodup_cons.2 ⟨fun q => ?_, List.nodup_cons.2 ⟨fun q => ?_, ?_⟩⟩
    · rcases List.mem_cons.1 q with q | q
      · omega
      · rcases List.mem_or_eq_of_mem_set q with q | q
        · exact (hnt _ q).1 rfl
        · omega
    · rcases List.mem_or_eq_of_mem_set q with q | q
      · exact (hnt _ q).2.1 rfl
      · omega
    · rw [List.set_eq_take_append_cons_drop, if_pos hti]
      have hp2 : (ts.take i ++ (h.length + 3) :: ts.drop (i + 1)).Perm ((h.length + 3) :: (ts.take i ++ ts.drop (i + 1))) := List.perm_middle
      refine hp2.nodup_iff.2 (List.nodup_cons.2 ⟨fun q => ?_, ?_⟩)
      · rcases List.mem_append.1 q with q | q
        · have := hnt _ (List.mem_of_mem_take q); omega
        · have := hnt _ (List.mem_of_mem_drop q); omega
      · have hsub : (ts.take i ++ ts.drop (i + 1)).Sublist ts := by
          conv => rhs; rw [← List.take_append_drop i ts]
          exact (List.Sublist.refl _).append (List.drop_sublist_drop_left _ (by omega))
        exact hts.sublist hsub
theorem fit_ro (σ : List Nat) (e : Ety) (xs : List e.T) : fitA σ (.ro e xs) (.ro e xs) := by
  show (match asE e e xs with | some ys => xs = ys | none => False)
  rw [asE_self]
theorem at_sameS {k : Nat} {gt tm : List AV} {h : List Ch} (hk : k ≤ h.length) (hs : SelfFit h) (ht : ∀ σ : List Nat, (∀ t, t < h.length → σ[t]? = some t) → fitL σ gt tm) : At k gt h tm h :=
  at_same hk hs (ht _ fun _ h => rng_at2 h)
theorem b_addMI (i : Itm) (ps : List Prc) (hm : ps.length ≤ 900000) (hr : rightB i = true) (e2 : isP ps i.apid = true) (hd : i.data.length ≤ 1099511627776)
    (hl : 0 < (getP ps i.apid).length) (hl2 : (getP ps i.apid).length ≤ 1000000) (hg : -1099511627776 ≤ (eAt (getP ps i.apid) ((getP ps i.apid).length - 1)).count ∧ (eAt (getP ps i.apid) ((getP ps i.apid).length - 1)).count ≤ 1099511627776) (hc : 0 ≤ i.count ∧ i.count < 16384) :
    DoesK Try.prog 1 10 [.ptr 0 0, .agg (itL i)] [.pack (AM ps)] (EndF 1 (.int .i64 (addQ i (ext (eAt (getP ps i.apid) ((getP ps i.apid).length - 1)).count i.count) (getP ps i.apid)).2) ([.pack (AM (ps.set (findP ps i.apid) ⟨i.apid, (addQ i (ext (eAt (getP ps i.apid) ((getP ps i.apid).length - 1)).count i.count) (getP ps i.apid)).1⟩))] ++ [])) := by
  refine DoesK.close ?_
  have hpp : 0 < ps.length := by have := (isP_at e2).1; omega
  have hgp : getP ps i.apid = (pAt ps (findP ps i.apid)).list := if_pos e2
  obtain ⟨xs, hxs⟩ : ∃ xs, getP ps i.apid = xs := ⟨_, rfl⟩
  rw [hxs] at hl hl2 hg hgp ⊢
  obtain ⟨a, c, t, d⟩ := i
  dsimp only at hd e2 hgp hxs hc ⊢
  obtain ⟨e, he⟩ : ∃ e, ext (eAt xs (xs.length - 1)).count c = e := ⟨_, rfl⟩
  rw [he]
  have hgg : ((xs.getD (xs.length - 1) Ent.zero).count) = (eAt xs (xs.length - 1)).count := rfl
  generalize eAt xs (xs.length - 1) = gE at *
  have hw1 : IntKind.i64.wrap ((xs.length : Int) - 1) = ((xs.length - 1 : Nat) : Int) := by rw [wrap_i64 _ (by omega) (by omega)]; omega
  refine w_body (rs := [.tmp 4]) (tm := [.ptr 0 0, .agg [.int .i64 a, .int .i64 c, .int .i64 t, .ro .byte d], .any, .any, .any, .any, .any, .any, .any, .any, .any, .any, .any, .any, .any, .any, .any, .any, .any, .any, .any, .any, .any, .any, .any, .any, .any, .any, .any, .any, .any, .any, .any, .any, .any, .any, .any, .any, .any, .any, .any, .any, .any, .any, .any, .any, .any, .any, .any, .any, .any, .any, .any, .any, .any, .any, .any, .any, .any, .any, .any, .any, .any, .any, .any, .any, .any, .any, .any, .any, .any, .any, .any, .any, .any, .any, .any, .any, .any, .any, .any, .any, .any, .any, .any, .any, .any, .any, .any, .any, .any, .any, .any, .any, .any, .any, .any, .any, .any, .any, .any, .any, .any, .any, .any, .any, .any, .any, .any, .any, .any, .any, .any, .any, .any, .any, .any, .any, .any, .any, .any, .any, .any, .any, .any, .any, .any, .any, .any, .any, .any, .any, .any, .any, .any, .any, .any, .any, .any, .any, .any, .any, .any, .any, .any, .any, .any, .any, .any]) fn_10 rfl rfl rfl rfl fun R hR => ?_
  refine w_openM hpp ?_
  have A := arc_open hpp
  have S := AM_self hpp
  generalize AM ps = h at A S ⊢
  obtain ⟨ts, hts⟩ : ∃ ts, List.range' 2 ps.length = ts := ⟨_, rfl⟩
  rw [hts] at A
  have hln : ∀ t ∈ 0 :: 1 :: ts, t < h.length := A.lt
  have hh0 : 0 < h.length := hln 0 (by simp)
  have hh1 : 1 < h.length := hln 1 (by simp)
  have e1 : PL ts ps ps.length := ⟨A.len, rfl, Nat.le_trans hm (by decide)⟩
  obtain ⟨f1, f2⟩ := isP_at e2
  obtain ⟨at_, hat⟩ : ∃ at_, findP ps a = at_ := ⟨_, rfl⟩
  rw [hat] at f1 f2 hgp
  have hrow := A.rows at_ f1
  obtain ⟨T, hT⟩ : ∃ T, ts.getD at_ 0 = T := ⟨_, rfl⟩
  rw [hT, ← hgp] at hrow
  have hTl : T < h.length := hth_lt (by rw [hrow]; simp)
  have hT1 : T ≠ 1 := fun q => by rw [q, A.o1] at hrow; cases hrow
  have hgp2 : (pAt ps at_).list.length = xs.length := by rw [hgp]
  obtain ⟨n1, n2⟩ := flatP_at A.len f1
  rw [hT, hgp2] at n2
  have o : (hth h 0 = .cells [.bool true, .csl 1 ps.length 2] ∧ hth h 1 = .crow (flatP ts ps) ∧ hth h T = .rows .ent xs) ∧ (∀ l, hth (h ++ l) 0 = .cells [.bool true, .csl 1 ps.length 2]) ∧ (∀ l, hth (h ++ l) 1 = .crow (flatP ts ps)) ∧ ∀ l, hth (h ++ l) T = .rows .ent xs := ⟨⟨A.o, A.o1, hrow⟩, fun l => (A.app l).o, fun l => (A.app l).o1, fun l => by rw [hth_app hTl, hrow]⟩
  have t2 := symH h
  have hfl := flatP_len A.len
  have F : findP ps a = at_ ∧ (nthA (flatP ts ps) (at_ * 2 + 1) = .sl T .ent 0 xs.length ∧ (flatP ts ps).length = ps.length * 2) := ⟨hat, n2, hfl⟩
  (have zx1 := @hr; have zx2 := @e2; have zx3 := @o; have zx4 := @t2; have zx5 := @F; have zx6 := @hw1; have zx7 := @hgg; have zx8 := @he; all_goals (try ((first | (with_reducible refine wp_id ?_) | (with_reducible refine does_id ?_) | (with_reducible refine ops_id ?_)); refine walk ?_; (repeat' (first | exact trivial | with_reducible refine And.intro ?_ ?_)); all_goals (repeat (first | (with_reducible refine ImpB.mk fun hb => ?_) | (with_reducible refine ImpK.mk fun hK => ?_) | (with_reducible refine ImpF.mk fun hF => ?_) | (with_reducible refine ImpQ.mk fun hp => ?_) | (with_reducible refine AllE.mk fun p => ?_) | (with_reducible refine AllR.mk fun rest => ?_) | (with_reducible refine AllK.mk fun K => ?_))))); repeat' (with_reducible refine And.intro ?_ ?_))
  any_goals first | exact Int.natCast_nonneg _ | (show (at_ : Int) < (ps.length : Int); omega) | (show at_ * 2 + 1 < ps.length * 2; omega) | (show ((xs.length - 1 : Nat) : Int) < (xs.length : Int); omega) | (show xs.length - 1 < xs.length; omega)
  have S2 : SelfFit (h ++ [.cells [.int .i64 a, .int .i64 c, .int .i64 t, .ro .byte d], .cells [.int .i64 e, .int .i64 a, .int .i64 c, .int .i64 t, .ro .byte d]]) := S.app (by
    intro x hx σ
    rcases List.mem_cons.1 hx with rfl | hx
    · exact ⟨⟨rfl, rfl⟩, ⟨rfl, rfl⟩, ⟨rfl, rfl⟩, fit_ro _ _ _, trivial⟩
    rcases List.mem_cons.1 hx with rfl | hx
    · exact ⟨⟨rfl, rfl⟩, ⟨rfl, rfl⟩, ⟨rfl, rfl⟩, ⟨rfl, rfl⟩, fit_ro _ _ _, trivial⟩
    · cases hx)
  any_goals (refine w_meet (A := Nat) (fun k => k ≤ xs.length ∧ posE xs e xs.length = k) (fun k => [(9, .int .i64 k)]) (fun k => []) (ws := ?ws2) (tk := ?tk2) ?hw2 ?ht2 ?HM1 ?HN1; (case hw2 => simp only [go_sem, decide_true, decide_false, Int.reduceToNat, Nat.min_eq_left, Nat.min_eq_right, Int.reducePow, Nat.reducePow, Int.reduceLE, Int.reduceLT, Int.reduceMul, Int.reduceAdd, Int.reduceSub, Int.reduceNeg, Bool.not_true, Bool.not_false, Bool.not_not, ↓reduceIte, Nat.reduceAdd, Nat.reduceSub, Nat.reduceMul, Nat.reduceEqDiff, reduceCtorEq, Nat.reduceLT, Nat.reduceLeDiff, Nat.reduceGT]; exact rfl); (case ht2 => simp only [go_sem, decide_true, decide_false, Int.reduceToNat, Nat.min_eq_left, Nat.min_eq_right, Int.reducePow, Nat.reducePow, Int.reduceLE, Int.reduceLT, Int.reduceMul, Int.reduceAdd, Int.reduceSub, Int.reduceNeg, Bool.not_true, Bool.not_false, Bool.not_not, ↓reduceIte, Nat.reduceAdd, Nat.reduceSub, Nat.reduceMul, Nat.reduceEqDiff, reduceCtorEq, Nat.reduceLT, Nat.reduceLeDiff, Nat.reduceGT]; exact rfl); (case' HM1 => intro K hK); (case' HN1 => rintro k t hx ht; simp only [go_sem] at ht; subst ht; simp only [go_sem]; try dsimp only at hx))
  case' HM1 => any_goals ((try (refine w_seq fun K hK => ?_)); (try (refine w_block ?_)); refine w_loopS (A := Nat) (fun k => k ≤ xs.length ∧ posE xs e xs.length = posE xs e k) (fun k => k) (fun k => [(9, .int .i64 k)]) (xs.length) (ws := ?ws1) (tk := ?tk1) ?hw1 ?ht1 ?hi ?h0 ?LH1; (case hw1 => simp only [go_sem, decide_true, decide_false, Int.reduceToNat, Nat.min_eq_left, Nat.min_eq_right, Int.reducePow, Nat.reducePow, Int.reduceLE, Int.reduceLT, Int.reduceMul, Int.reduceAdd, Int.reduceSub, Int.reduceNeg, Bool.not_true, Bool.not_false, Bool.not_not, ↓reduceIte, Nat.reduceAdd, Nat.reduceSub, Nat.reduceMul, Nat.reduceEqDiff, reduceCtorEq, Nat.reduceLT, Nat.reduceLeDiff, Nat.reduceGT]; exact rfl); (case ht1 => simp only [go_sem, decide_true, decide_false, Int.reduceToNat, Nat.min_eq_left, Nat.min_eq_right, Int.reducePow, Nat.reducePow, Int.reduceLE, Int.reduceLT, Int.reduceMul, Int.reduceAdd, Int.reduceSub, Int.reduceNeg, Bool.not_true, Bool.not_false, Bool.not_not, ↓reduceIte, Nat.reduceAdd, Nat.reduceSub, Nat.reduceMul, Nat.reduceEqDiff, reduceCtorEq, Nat.reduceLT, Nat.reduceLeDiff, Nat.reduceGT]; exact rfl); (case' LH1 => rintro k E t hx hE ht; simp only [go_sem] at ht; subst ht; simp only [go_sem]; try dsimp only at hx))
  case hi => exact ⟨Nat.le_refl _, rfl⟩
  case h0 => (focus (simp only [go_sem]; (repeat' (first | exact sub_nil | refine sub_cons ?_ ?_)); (any_goals (first | exact .inl rfl | exact .inr rfl)); (try any_goals (refine .inr ?_)); (try any_goals (refine congrArg _ ?_))))
  case LH1 =>
    obtain ⟨hk0, hkp⟩ := hx
    by_cases hk : 0 < k
    · have hw : IntKind.i64.wrap ((k : Int) - 1) = ((k - 1 : Nat) : Int) := by rw [wrap_i64 _ (by omega) (by omega)]; omega
      have hkd : decide (0 < (k : Int)) = true := decide_eq_true (by omega)
      by_cases hc3 : e ≤ (xs.getD (k - 1) Ent.zero).count
      · have d3 : decide (e ≤ (xs.getD (k - 1) Ent.zero).count) = true := decide_eq_true hc3
        (have zx1 := @o; have zx2 := @t2; have zx3 := @F; have zx4 := @hkd; have zx5 := @hw; have zx6 := @d3; all_goals (try ((first | (with_reducible refine wp_id ?_) | (with_reducible refine does_id ?_) | (with_reducible refine ops_id ?_)); refine walk ?_; (repeat' (first | exact trivial | with_reducible refine And.intro ?_ ?_)); all_goals (repeat (first | (with_reducible refine ImpB.mk fun hb => ?_) | (with_reducible refine ImpK.mk fun hK => ?_) | (with_reducible refine ImpF.mk fun hF => ?_) | (with_reducible refine ImpQ.mk fun hp => ?_) | (with_reducible refine AllE.mk fun p => ?_) | (with_reducible refine AllR.mk fun rest => ?_) | (with_reducible refine AllK.mk fun K => ?_))))); repeat' (with_reducible refine And.intro ?_ ?_))
        any_goals first | exact Int.natCast_nonneg _ | (show ((k - 1 : Nat) : Int) < (xs.length : Int); omega) | (show k - 1 < xs.length; omega) | (show at_ * 2 + 1 < ps.length * 2; omega)
        refine ⟨k - 1, ⟨⟨(by omega : k - 1 ≤ xs.length), hkp.trans (posE_dn xs e ⟨hk, hc3⟩)⟩, (by omega : k - 1 < k)⟩, ?_, rfl⟩
        (focus (simp only [go_sem]; (repeat' (first | exact sub_nil | refine sub_cons ?_ ?_)); (any_goals (first | exact .inl rfl | exact .inr rfl)); (try any_goals (refine .inr ?_)); (try any_goals (refine congrArg _ ?_))))
      · have d3 : decide (e ≤ (xs.getD (k - 1) Ent.zero).count) = false := decide_eq_false hc3
        have hP : posE xs e xs.length = k := hkp.trans (posE_eq xs e fun q => hc3 q.2)
        (have zx1 := @o; have zx2 := @t2; have zx3 := @F; have zx4 := @hkd; have zx5 := @hw; have zx6 := @d3; all_goals (try ((first | (with_reducible refine wp_id ?_) | (with_reducible refine does_id ?_) | (with_reducible refine ops_id ?_)); refine walk ?_; (repeat' (first | exact trivial | with_reducible refine And.intro ?_ ?_)); all_goals (repeat (first | (with_reducible refine ImpB.mk fun hb => ?_) | (with_reducible refine ImpK.mk fun hK => ?_) | (with_reducible refine ImpF.mk fun hF => ?_) | (with_reducible refine ImpQ.mk fun hp => ?_) | (with_reducible refine AllE.mk fun p => ?_) | (with_reducible refine AllR.mk fun rest => ?_) | (with_reducible refine AllK.mk fun K => ?_))))); repeat' (with_reducible refine And.intro ?_ ?_))
        any_goals first | exact Int.natCast_nonneg _ | (show ((k - 1 : Nat) : Int) < (xs.length : Int); omega) | (show k - 1 < xs.length; omega) | (show at_ * 2 + 1 < ps.length * 2; omega)
        refine ⟨k, ⟨hk0, hP⟩, at_sameS (show 1 ≤ (h ++ _).length by rw [List.length_append]; omega) S2 fun σ hσ => ?_⟩
        have hσ2 : ∀ t, t < h.length + 2 → σ[t]? = some t := fun z hz => hσ z (show z < (h ++ [_, _]).length by rw [List.length_append]; exact hz)
        simp only [go_sem]
        (repeat' (first | (refine And.intro ?_ ?_) | (with_reducible rfl) | exact hσ2 _ (by omega) | exact trivial))
    · have hkd : decide (0 < (k : Int)) = false := decide_eq_false (by omega)
      have hP : posE xs e xs.length = k := hkp.trans (posE_eq xs e fun q => hk q.1)
      (have zx1 := @o; have zx2 := @t2; have zx3 := @F; have zx4 := @hkd; all_goals (try ((first | (with_reducible refine wp_id ?_) | (with_reducible refine does_id ?_) | (with_reducible refine ops_id ?_)); refine walk ?_; (repeat' (first | exact trivial | with_reducible refine And.intro ?_ ?_)); all_goals (repeat (first | (with_reducible refine ImpB.mk fun hb => ?_) | (with_reducible refine ImpK.mk fun hK => ?_) | (with_reducible refine ImpF.mk fun hF => ?_) | (with_reducible refine ImpQ.mk fun hp => ?_) | (with_reducible refine AllE.mk fun p => ?_) | (with_reducible refine AllR.mk fun rest => ?_) | (with_reducible refine AllK.mk fun K => ?_))))); repeat' (with_reducible refine And.intro ?_ ?_))
      refine ⟨k, ⟨hk0, hP⟩, at_sameS (show 1 ≤ (h ++ _).length by rw [List.length_append]; omega) S2 fun σ hσ => ?_⟩
      have hσ2 : ∀ t, t < h.length + 2 → σ[t]? = some t := fun z hz => hσ z (show z < (h ++ [_, _]).length by rw [List.length_append]; exact hz)
      simp only [go_sem]
      (repeat' (first | (refine And.intro ?_ ?_) | (with_reducible rfl) | exact hσ2 _ (by omega) | exact trivial))
  case HN1 =>
    obtain ⟨hk0, hP⟩ := hx
    obtain ⟨y, hy⟩ : ∃ y, xs.getD k Ent.zero = y := ⟨_, rfl⟩
    have hsame : ps.set at_ ⟨a, xs⟩ = ps := by
      have e0 : ps[at_]'f1 = ⟨a, xs⟩ := by
        have e3 : pAt ps at_ = ps[at_]'f1 := by show ps.getD at_ Prc.zero = _; rw [List.getD_eq_getElem?_getD, List.getElem?_eq_getElem f1]; rfl
        rw [← e3]
        rw [← f2, hgp]
      rw [← e0]
      exact List.set_getElem_self f1
    have t3 : ∀ l l', hth ((h ++ l).set T .gone ++ l') 1 = .crow (flatP ts ps) := fun l l' => by
      rw [hth_app (by simp; omega), hth_set_ne hT1, hth_app hh1, A.o1]
    have t4 : ∀ l l' c, ((h ++ l).set T .gone ++ l').set 1 c = (h.set T .gone).set 1 c ++ (l ++ l') := fun l l' c => by
      rw [List.set_append_left _ _ hTl, List.append_assoc, List.set_append_left _ _ (by simpa using hh1)]
    by_cases c5 : k < xs.length
    · have d5 : decide ((k : Int) < (xs.length : Int)) = true := decide_eq_true (by omega)
      by_cases c6 : y.count = e
      · have d6 : decide (y.count = e) = true := decide_eq_true c6
        by_cases c7 : y.time = t
        · have d7 : decide (y.time = t) = true := decide_eq_true c7
          by_cases c8 : y.data = d
          · have d8 : decide (y.data = d) = true := decide_eq_true c8
            have hr2 : addQ ⟨a, c, t, d⟩ e xs = (xs, 9) := by
              unfold addQ
              rw [hP]
              show (if k < xs.length ∧ (xs.getD k Ent.zero).count = e then (xs, if (xs.getD k Ent.zero).time = t ∧ (xs.getD k Ent.zero).data = d then (9 : Int) else 4) else _) = _
              rw [hy, if_pos ⟨c5, c6⟩, if_pos ⟨c7, c8⟩]
            (have zx1 := @o; have zx2 := @t2; have zx3 := @F; have zx4 := @d5; have zx5 := @hy; have zx6 := @d6; have zx7 := @d7; have zx8 := @d8; all_goals (try ((first | (with_reducible refine wp_id ?_) | (with_reducible refine does_id ?_) | (with_reducible refine ops_id ?_)); refine walk ?_; (repeat' (first | exact trivial | with_reducible refine And.intro ?_ ?_)); all_goals (repeat (first | (with_reducible refine ImpB.mk fun hb => ?_) | (with_reducible refine ImpK.mk fun hK => ?_) | (with_reducible refine ImpF.mk fun hF => ?_) | (with_reducible refine ImpQ.mk fun hp => ?_) | (with_reducible refine AllE.mk fun p => ?_) | (with_reducible refine AllR.mk fun rest => ?_) | (with_reducible refine AllK.mk fun K => ?_))))); repeat' (with_reducible refine And.intro ?_ ?_))
            try any_goals first | exact Int.natCast_nonneg _ | (show (k : Int) < (xs.length : Int); omega) | (show k < xs.length; omega) | (show at_ * 2 + 1 < ps.length * 2; omega) | (show T ≠ h.length + 2; omega) | (show xs.length ≤ (_ : Nat); omega)
            rw [hr2]
            dsimp only
            rw [hsame]
            exact end_arc (r := .int .i64 9) (A.app _) (show fitA [0] (.int .i64 9) (.int .i64 9) from ⟨rfl, rfl⟩)
          · have d8 : decide (y.data = d) = false := decide_eq_false c8
            have hr2 : addQ ⟨a, c, t, d⟩ e xs = (xs, 4) := by
              unfold addQ
              rw [hP]
              show (if k < xs.length ∧ (xs.getD k Ent.zero).count = e then (xs, if (xs.getD k Ent.zero).time = t ∧ (xs.getD k Ent.zero).data = d then (9 : Int) else 4) else _) = _
              rw [hy, if_pos ⟨c5, c6⟩, if_neg (fun q => c8 q.2)]
            (have zx1 := @o; have zx2 := @t2; have zx3 := @F; have zx4 := @d5; have zx5 := @hy; have zx6 := @d6; have zx7 := @d7; have zx8 := @d8; all_goals (try ((first | (with_reducible refine wp_id ?_) | (with_reducible refine does_id ?_) | (with_reducible refine ops_id ?_)); refine walk ?_; (repeat' (first | exact trivial | with_reducible refine And.intro ?_ ?_)); all_goals (repeat (first | (with_reducible refine ImpB.mk fun hb => ?_) | (with_reducible refine ImpK.mk fun hK => ?_) | (with_reducible refine ImpF.mk fun hF => ?_) | (with_reducible refine ImpQ.mk fun hp => ?_) | (with_reducible refine AllE.mk fun p => ?_) | (with_reducible refine AllR.mk fun rest => ?_) | (with_reducible refine AllK.mk fun K => ?_))))); repeat' (with_reducible refine And.intro ?_ ?_))
            try any_goals first | exact Int.natCast_nonneg _ | (show (k : Int) < (xs.length : Int); omega) | (show k < xs.length; omega) | (show at_ * 2 + 1 < ps.length * 2; omega) | (show T ≠ h.length + 2; omega) | (show xs.length ≤ (_ : Nat); omega)
            rw [hr2]
            dsimp only
            rw [hsame]
            exact end_arc (r := .int .i64 4) (A.app _) (show fitA [0] (.int .i64 4) (.int .i64 4) from ⟨rfl, rfl⟩)
        · have d7 : decide (y.time = t) = false := decide_eq_false c7
          have hr2 : addQ ⟨a, c, t, d⟩ e xs = (xs, 4) := by
            unfold addQ
            rw [hP]
            show (if k < xs.length ∧ (xs.getD k Ent.zero).count = e then (xs, if (xs.getD k Ent.zero).time = t ∧ (xs.getD k Ent.zero).data = d then (9 : Int) else 4) else _) = _
            rw [hy, if_pos ⟨c5, c6⟩, if_neg (fun q => c7 q.1)]
          (have zx1 := @o; have zx2 := @t2; have zx3 := @F; have zx4 := @d5; have zx5 := @hy; have zx6 := @d6; have zx7 := @d7; all_goals (try ((first | (with_reducible refine wp_id ?_) | (with_reducible refine does_id ?_) | (with_reducible refine ops_id ?_)); refine walk ?_; (repeat' (first | exact trivial | with_reducible refine And.intro ?_ ?_)); all_goals (repeat (first | (with_reducible refine ImpB.mk fun hb => ?_) | (with_reducible refine ImpK.mk fun hK => ?_) | (with_reducible refine ImpF.mk fun hF => ?_) | (with_reducible refine ImpQ.mk fun hp => ?_) | (with_reducible refine AllE.mk fun p => ?_) | (with_reducible refine AllR.mk fun rest => ?_) | (with_reducible refine AllK.mk fun K => ?_))))); repeat' (with_reducible refine And.intro ?_ ?_))
          try any_goals first | exact Int.natCast_nonneg _ | (show (k : Int) < (xs.length : Int); omega) | (show k < xs.length; omega) | (show at_ * 2 + 1 < ps.length * 2; omega) | (show T ≠ h.length + 2; omega) | (show xs.length ≤ (_ : Nat); omega)
          rw [hr2]
          dsimp only
          rw [hsame]
          exact end_arc (r := .int .i64 4) (A.app _) (show fitA [0] (.int .i64 4) (.int .i64 4) from ⟨rfl, rfl⟩)
      · have d6 : decide (y.count = e) = false := decide_eq_false c6
        have hr2 : addQ ⟨a, c, t, d⟩ e xs = (xs.take k ++ newE ⟨a, c, t, d⟩ e :: xs.drop k, 0) := by
          unfold addQ
          rw [hP]
          show (if k < xs.length ∧ (xs.getD k Ent.zero).count = e then _ else _) = _
          rw [hy, if_neg (fun q => c6 q.2)]
        have hlen : xs.length + 1 = (xs.take k ++ newE ⟨a, c, t, d⟩ e :: xs.drop k).length := by simp; omega
        (have zx1 := @o; have zx2 := @t2; have zx3 := @F; have zx4 := @d5; have zx5 := @hy; have zx6 := @d6; have zx7 := @t3; all_goals (try ((first | (with_reducible refine wp_id ?_) | (with_reducible refine does_id ?_) | (with_reducible refine ops_id ?_)); refine walk ?_; (repeat' (first | exact trivial | with_reducible refine And.intro ?_ ?_)); all_goals (repeat (first | (with_reducible refine ImpB.mk fun hb => ?_) | (with_reducible refine ImpK.mk fun hK => ?_) | (with_reducible refine ImpF.mk fun hF => ?_) | (with_reducible refine ImpQ.mk fun hp => ?_) | (with_reducible refine AllE.mk fun p => ?_) | (with_reducible refine AllR.mk fun rest => ?_) | (with_reducible refine AllK.mk fun K => ?_))))); repeat' (with_reducible refine And.intro ?_ ?_))
        try any_goals first | exact Int.natCast_nonneg _ | (show (k : Int) < (xs.length : Int); omega) | (show k < xs.length; omega) | (show at_ * 2 + 1 < ps.length * 2; omega) | (show T ≠ h.length + 2; omega) | (show xs.length ≤ (_ : Nat); omega)
        rw [hr2, t4]
        dsimp only
        exact end_arc (r := .int .i64 0) (A.upd hT (p' := ⟨a, xs.take k ++ newE ⟨a, c, t, d⟩ e :: xs.drop k⟩) f1 f2.symm hlen) (show fitA [0] (.int .i64 0) (.int .i64 0) from ⟨rfl, rfl⟩)
    · have d5 : decide ((k : Int) < (xs.length : Int)) = false := decide_eq_false (by omega)
      have hr2 : addQ ⟨a, c, t, d⟩ e xs = (xs.take k ++ newE ⟨a, c, t, d⟩ e :: xs.drop k, 0) := by
        unfold addQ
        rw [hP]
        show (if k < xs.length ∧ (xs.getD k Ent.zero).count = e then _ else _) = _
        rw [hy, if_neg (fun q => c5 q.1)]
      have hlen : xs.length + 1 = (xs.take k ++ newE ⟨a, c, t, d⟩ e :: xs.drop k).length := by simp; omega
      (have zx1 := @o; have zx2 := @t2; have zx3 := @F; have zx4 := @d5; have zx5 := @hy; have zx6 := @t3; all_goals (try ((first | (with_reducible refine wp_id ?_) | (with_reducible refine does_id ?_) | (with_reducible refine ops_id ?_)); refine walk ?_; (repeat' (first | exact trivial | with_reducible refine And.intro ?_ ?_)); all_goals (repeat (first | (with_reducible refine ImpB.mk fun hb => ?_) | (with_reducible refine ImpK.mk fun hK => ?_) | (with_reducible refine ImpF.mk fun hF => ?_) | (with_reducible refine ImpQ.mk fun hp => ?_) | (with_reducible refine AllE.mk fun p => ?_) | (with_reducible refine AllR.mk fun rest => ?_) | (with_reducible refine AllK.mk fun K => ?_))))); repeat' (with_reducible refine And.intro ?_ ?_))
      try any_goals first | exact Int.natCast_nonneg _ | (show (k : Int) < (xs.length : Int); omega) | (show k < xs.length; omega) | (show at_ * 2 + 1 < ps.length * 2; omega) | (show T ≠ h.length + 2; omega) | (show xs.length ≤ (_ : Nat); omega)
      rw [hr2, t4]
      dsimp only
      exact end_arc (r := .int .i64 0) (A.upd hT (p' := ⟨a, xs.take k ++ newE ⟨a, c, t, d⟩ e :: xs.drop k⟩) f1 f2.symm hlen) (show fitA [0] (.int .i64 0) (.int .i64 0) from ⟨rfl, rfl⟩)
end Go.V

set_option maxRecDepth 100000
set_option maxHeartbeats 8000000
namespace Go.V
open Go.Proofs
attribute [-go_sem] AE AO
structure okAdd (ps : List Prc) : Prop where
  max : ps.length ≤ 900000
  lst : ∀ a, isP ps a = true → 0 < (getP ps a).length ∧ (getP ps a).length ≤ 1000000 ∧ -1099511627776 ≤ (eAt (getP ps a) ((getP ps a).length - 1)).count ∧ (eAt (getP ps a) ((getP ps a).length - 1)).count ≤ 1099511627776
theorem rightB_of {i : Itm} (h : rightB i = true) : 0 ≤ i.apid ∧ i.apid ≤ 2046 ∧ 0 ≤ i.count ∧ i.count < 16384 ∧ 0 ≤ i.time ∧ i.time ≤ 1099511627776 ∧ (i.data.length : Int) ≤ 4096 := by
  unfold rightB at h
  simpa only [Bool.and_eq_true, decide_eq_true_eq] using h
theorem c_addM {h : List Ch} {K : KT} {u : Nat} {a c t r : Int} {d : List UInt8} {ps qs : List Prc} (H : K (.int .i64 r) (h.set u (.pack (AM qs)))) (o : hth h u = .pack (AM ps)) (e1 : okAdd ps) (e3 : addM ⟨a, c, t, d⟩ ps = (qs, r)) : Does Try.prog 10 [.ptr u 0, .agg [.int .i64 a, .int .i64 c, .int .i64 t, .ro .byte d]] h K := by
  have hbr : brL [u] h [.ptr 0 0, .agg (itL ⟨a, c, t, d⟩)] [.ptr u 0, .agg (itL ⟨a, c, t, d⟩)] := br_cons (br_ptr rfl) (br_cons (br_it _) br_nil)
  unfold addM at e3
  cases hr : rightB ⟨a, c, t, d⟩ with
  | false =>
    rw [if_pos hr] at e3
    obtain ⟨rfl, rfl⟩ := Prod.mk.inj e3
    exact frame_obj0 (b_addMW ⟨a, c, t, d⟩ ps hr) o (by simp) (fitC_pack _) hbr (.inl rfl) (fun _ => rfl) rfl H
  | true =>
    have R := rightB_of hr
    have hd : (⟨a, c, t, d⟩ : Itm).data.length ≤ 1099511627776 := by have := R.2.2.2.2.2.2; omega
    rw [if_neg (by rw [hr]; decide)] at e3
    cases hi : isP ps (⟨a, c, t, d⟩ : Itm).apid with
    | true =>
      obtain ⟨q1, q2, q3, q4⟩ := e1.lst _ hi
      rw [if_pos hi] at e3
      have e5 : addL ⟨a, c, t, d⟩ (getP ps (⟨a, c, t, d⟩ : Itm).apid) = addQ ⟨a, c, t, d⟩ (ext (eAt (getP ps (⟨a, c, t, d⟩ : Itm).apid) ((getP ps (⟨a, c, t, d⟩ : Itm).apid).length - 1)).count (⟨a, c, t, d⟩ : Itm).count) (getP ps (⟨a, c, t, d⟩ : Itm).apid) := if_neg (by omega)
      rw [e5] at e3
      obtain ⟨rfl, rfl⟩ := Prod.mk.inj e3
      exact frame_obj0 (b_addMI ⟨a, c, t, d⟩ ps e1.max hr hi hd q1 q2 ⟨q3, q4⟩ ⟨R.2.2.1, R.2.2.2.1⟩) o (by simp) (fitC_pack _) hbr (.inl rfl) (fun _ => rfl) rfl H
    | false =>
      rw [if_neg (by rw [hi]; decide)] at e3
      obtain ⟨rfl, rfl⟩ := Prod.mk.inj e3
      by_cases hn : ps.length = 0
      · obtain rfl := List.eq_nil_of_length_eq_zero hn
        exact frame_obj0 (b_addMZ ⟨a, c, t, d⟩ hr hd) o (by simp) (fitC_pack _) hbr (.inl rfl) (fun _ => rfl) rfl H
      · exact frame_obj0 (b_addMN ⟨a, c, t, d⟩ ps (by omega) e1.max hr hi hd) o (by simp) (fitC_pack _) hbr (.inl rfl) (fun _ => rfl) rfl H
abbrev i_addM := Ctr.mk (i := 3) (g := 10) @c_addM
attribute [instance] i_addM
theorem b_itmX (ps : List Prc) (a : Int) (e2 : isP ps a = false) (hm : ps.length ≤ 1000000) :
    DoesK Try.prog 1 20 [.ptr 0 0, .int .i64 a] [.pack (AM ps)] (EndF 1 (.lit (.slice none 0 0)) ([.pack (AM ps)] ++ [])) := by
  refine DoesK.close ?_
  by_cases hn : ps.length = 0
  · obtain rfl := List.eq_nil_of_length_eq_zero hn
    rw [show AM [] = AE from rfl]
    refine w_body (rs := [.tmp 4]) (tm := [.ptr 0 0, .int .i64 a, .any, .any, .any, .any, .any, .any, .any, .any, .any, .any, .any, .any, .any, .any, .any, .any, .any, .any, .any, .any, .any, .any]) fn_20 rfl rfl rfl rfl fun R hR => ?_
    unfold AE
    refine w_open 0 rfl rfl ?_
    simp only [go_sem, decide_true, decide_false, Int.reduceToNat, Nat.min_eq_left, Nat.min_eq_right, Int.reducePow, Nat.reducePow, Int.reduceLE, Int.reduceLT, Int.reduceMul, Int.reduceAdd, Int.reduceSub, Int.reduceNeg, Bool.not_true, Bool.not_false, Bool.not_not, ↓reduceIte, Nat.reduceAdd, Nat.reduceSub, Nat.reduceMul, Nat.reduceEqDiff, reduceCtorEq, Nat.reduceLT, Nat.reduceLeDiff, Nat.reduceGT]
    (all_goals (try ((first | (with_reducible refine wp_id ?_) | (with_reducible refine does_id ?_) | (with_reducible refine ops_id ?_)); refine walk ?_; (repeat' (first | exact trivial | with_reducible refine And.intro ?_ ?_)); all_goals (repeat (first | (with_reducible refine ImpB.mk fun hb => ?_) | (with_reducible refine ImpK.mk fun hK => ?_) | (with_reducible refine ImpF.mk fun hF => ?_) | (with_reducible refine ImpQ.mk fun hp => ?_) | (with_reducible refine AllE.mk fun p => ?_) | (with_reducible refine AllR.mk fun rest => ?_) | (with_reducible refine AllK.mk fun K => ?_))))); repeat' (with_reducible refine And.intro ?_ ?_))
    any_goals ((try (refine w_seq fun K hK => ?_)); (try (refine w_block ?_)); refine w_loop (A := Nat) (fun k => k = 0) (fun k => 0) (fun k => [(5, .lit (.slice none 0 0)), (12, .int .i64 k)]) (fun k => []) (0) (ws := ?ws1) (tk := ?tk1) ?hw1 ?ht1 ?hi ?h0 ?LH1; (case hw1 => simp only [go_sem, decide_true, decide_false, Int.reduceToNat, Nat.min_eq_left, Nat.min_eq_right, Int.reducePow, Nat.reducePow, Int.reduceLE, Int.reduceLT, Int.reduceMul, Int.reduceAdd, Int.reduceSub, Int.reduceNeg, Bool.not_true, Bool.not_false, Bool.not_not, ↓reduceIte, Nat.reduceAdd, Nat.reduceSub, Nat.reduceMul, Nat.reduceEqDiff, reduceCtorEq, Nat.reduceLT, Nat.reduceLeDiff, Nat.reduceGT]; exact rfl); (case ht1 => simp only [go_sem, decide_true, decide_false, Int.reduceToNat, Nat.min_eq_left, Nat.min_eq_right, Int.reducePow, Nat.reducePow, Int.reduceLE, Int.reduceLT, Int.reduceMul, Int.reduceAdd, Int.reduceSub, Int.reduceNeg, Bool.not_true, Bool.not_false, Bool.not_not, ↓reduceIte, Nat.reduceAdd, Nat.reduceSub, Nat.reduceMul, Nat.reduceEqDiff, reduceCtorEq, Nat.reduceLT, Nat.reduceLeDiff, Nat.reduceGT]; exact rfl); (case' LH1 => rintro k E t hx hE ht; simp only [go_sem] at ht; subst ht; simp only [go_sem]; try dsimp only at hx))
    case hi => exact rfl
    case h0 =>
      (focus (refine ⟨_, _, Gh.refl, [0], rfl, ?_⟩; (refine fitq ?_ ?_ ?_ <;> try exact trivial); (try any_goals (refine ⟨?_, ?_⟩)); (try any_goals (with_reducible rfl))))
      all_goals (repeat' (first | (refine And.intro ?_ ?_) | rfl))
    case LH1 =>
      obtain rfl : k = 0 := hx
      have hkd : decide (((0 : Nat) : Int) < 0) = false := by decide
      (have zx1 := @hkd; all_goals (try ((first | (with_reducible refine wp_id ?_) | (with_reducible refine does_id ?_) | (with_reducible refine ops_id ?_)); refine walk ?_; (repeat' (first | exact trivial | with_reducible refine And.intro ?_ ?_)); all_goals (repeat (first | (with_reducible refine ImpB.mk fun hb => ?_) | (with_reducible refine ImpK.mk fun hK => ?_) | (with_reducible refine ImpF.mk fun hF => ?_) | (with_reducible refine ImpQ.mk fun hp => ?_) | (with_reducible refine AllE.mk fun p => ?_) | (with_reducible refine AllR.mk fun rest => ?_) | (with_reducible refine AllK.mk fun K => ?_))))); repeat' (with_reducible refine And.intro ?_ ?_))
      (focus (refine ⟨_, _, gh_close (t := 0) (ts := []) (l := AE) ⟨⟨_, _, rfl⟩, ?_, by simp⟩, [0], rfl, ?_⟩; all_goals (refine fitq ?_ ?_ ?_ <;> try exact trivial); (try any_goals (refine ⟨?_, ?_⟩)); (try any_goals (with_reducible rfl))))
      all_goals (repeat' (first | (refine And.intro ?_ ?_) | rfl))
  · refine w_body (rs := [.tmp 4]) (tm := [.ptr 0 0, .int .i64 a, .any, .any, .any, .any, .any, .any, .any, .any, .any, .any, .any, .any, .any, .any, .any, .any, .any, .any, .any, .any, .any, .any]) fn_20 rfl rfl rfl rfl fun R hR => ?_
    refine w_openM (by omega) ?_
    have A := arc_open (ps := ps) (by omega)
    generalize AM ps = h at A ⊢
    have o := A.o
    have o1 := A.o1
    have e1 : PL (List.range' 2 ps.length) ps ps.length := ⟨by simp, rfl, hm⟩
    (have zx1 := @o; have zx2 := @o1; all_goals (try ((first | (with_reducible refine wp_id ?_) | (with_reducible refine does_id ?_) | (with_reducible refine ops_id ?_)); refine walk ?_; (repeat' (first | exact trivial | with_reducible refine And.intro ?_ ?_)); all_goals (repeat (first | (with_reducible refine ImpB.mk fun hb => ?_) | (with_reducible refine ImpK.mk fun hK => ?_) | (with_reducible refine ImpF.mk fun hF => ?_) | (with_reducible refine ImpQ.mk fun hp => ?_) | (with_reducible refine AllE.mk fun p => ?_) | (with_reducible refine AllR.mk fun rest => ?_) | (with_reducible refine AllK.mk fun K => ?_))))); repeat' (with_reducible refine And.intro ?_ ?_))
    any_goals ((try (refine w_seq fun K hK => ?_)); (try (refine w_block ?_)); refine w_loopS (A := Nat) (fun k => k = 0) (fun k => 0) (fun k => [(5, .lit (.slice none 0 0)), (12, .int .i64 k)]) (0) (ws := ?ws4) (tk := ?tk4) ?hw4 ?ht4 ?hi ?h0 ?LH4; (case hw4 => simp only [go_sem, decide_true, decide_false, Int.reduceToNat, Nat.min_eq_left, Nat.min_eq_right, Int.reducePow, Nat.reducePow, Int.reduceLE, Int.reduceLT, Int.reduceMul, Int.reduceAdd, Int.reduceSub, Int.reduceNeg, Bool.not_true, Bool.not_false, Bool.not_not, ↓reduceIte, Nat.reduceAdd, Nat.reduceSub, Nat.reduceMul, Nat.reduceEqDiff, reduceCtorEq, Nat.reduceLT, Nat.reduceLeDiff, Nat.reduceGT]; exact rfl); (case ht4 => simp only [go_sem, decide_true, decide_false, Int.reduceToNat, Nat.min_eq_left, Nat.min_eq_right, Int.reducePow, Nat.reducePow, Int.reduceLE, Int.reduceLT, Int.reduceMul, Int.reduceAdd, Int.reduceSub, Int.reduceNeg, Bool.not_true, Bool.not_false, Bool.not_not, ↓reduceIte, Nat.reduceAdd, Nat.reduceSub, Nat.reduceMul, Nat.reduceEqDiff, reduceCtorEq, Nat.reduceLT, Nat.reduceLeDiff, Nat.reduceGT]; exact rfl); (case' LH4 => rintro k E t hx hE ht; simp only [go_sem] at ht; subst ht; simp only [go_sem]; try dsimp only at hx))
    case hi => exact rfl
    case h0 => (focus (simp only [go_sem]; (repeat' (first | exact sub_nil | refine sub_cons ?_ ?_)); (any_goals (first | exact .inl rfl | exact .inr rfl)); (try any_goals (refine .inr ?_)); (try any_goals (refine congrArg _ ?_))))
    case LH4 =>
      obtain rfl : k = 0 := hx
      have hkd : decide (((0 : Nat) : Int) < 0) = false := by decide
      (have zx1 := @hkd; all_goals (try ((first | (with_reducible refine wp_id ?_) | (with_reducible refine does_id ?_) | (with_reducible refine ops_id ?_)); refine walk ?_; (repeat' (first | exact trivial | with_reducible refine And.intro ?_ ?_)); all_goals (repeat (first | (with_reducible refine ImpB.mk fun hb => ?_) | (with_reducible refine ImpK.mk fun hK => ?_) | (with_reducible refine ImpF.mk fun hF => ?_) | (with_reducible refine ImpQ.mk fun hp => ?_) | (with_reducible refine AllE.mk fun p => ?_) | (with_reducible refine AllR.mk fun rest => ?_) | (with_reducible refine AllK.mk fun K => ?_))))); repeat' (with_reducible refine And.intro ?_ ?_))
      exact end_arc (r := .lit (.slice none 0 0)) A (show fitA [0] (.lit (.slice none 0 0)) (.lit (.slice none 0 0)) from rfl)
theorem c_itmMT {h : List Ch} {K : KT} {u : Nat} {a : Int} {ps : List Prc} (H : K (.ro .itm ((getP ps a).map toI)) h) (o : hth h u = .pack (AM ps)) (e1 : okM ps a) (e2 : isP ps a = true) : Does Try.prog 20 [.ptr u 0, .int .i64 a] h K :=
  frame_obj0 (b_itmM ps a e2 (Nat.le_trans e1.max (by decide)) e1.c.len e1.d) o (by simp) (fitC_pack _) (br_cons (br_ptr rfl) (br_cons br_int br_nil)) (.inl rfl) (fun _ => rfl) rfl (by rw [set_hth o (by simp)]; exact H)
abbrev i_itmMT := Ctr.mk (i := 1) (g := 20) @c_itmMT
attribute [instance] i_itmMT
theorem c_itmMF {h : List Ch} {K : KT} {u : Nat} {a : Int} {ps : List Prc} (H : K (.lit (.slice none 0 0)) h) (o : hth h u = .pack (AM ps)) (e1 : okM ps a) (e2 : isP ps a = false) : Does Try.prog 20 [.ptr u 0, .int .i64 a] h K :=
  frame_obj0 (b_itmX ps a e2 (Nat.le_trans e1.max (by decide))) o (by simp) (fitC_pack _) (br_cons (br_ptr rfl) (br_cons br_int br_nil)) (.inl rfl) (fun _ => rfl) rfl (by rw [set_hth o (by simp)]; exact H)
abbrev i_itmMF := Ctr.mk (i := 2) (g := 20) @c_itmMF
attribute [instance] i_itmMF
def sameI (x y : Itm) : Bool := decide (x.apid = y.apid) && (decide (x.count = y.count) && (decide (x.time = y.time) && decide (x.data = y.data)))
theorem b_same52 (x y : Itm) : DoesK Try.prog 0 40 [.agg (itL x), .agg (itL y)] [] (EndF 0 (.bool (sameI x y)) []) := by
  refine DoesK.close ?_
  unfold sameI
  obtain ⟨a, c, t, d⟩ := x
  obtain ⟨a2, c2, t2, d2⟩ := y
  dsimp only [itL]
  cases d1 : decide (a = a2)
  · refine w_body (rs := [.tmp 4]) (tm := [.agg [.int .i64 a, .int .i64 c, .int .i64 t, .ro .byte d], .agg [.int .i64 a2, .int .i64 c2, .int .i64 t2, .ro .byte d2], .any, .any, .any, .any, .any, .any, .any, .any, .any, .any, .any, .any, .any, .any, .any, .any, .any, .any, .any, .any, .any, .any, .any, .any, .any, .any, .any, .any, .any, .any, .any]) fn_40 rfl rfl rfl rfl fun R hR => ?_
    (have zx1 := @d1; all_goals (try ((first | (with_reducible refine wp_id ?_) | (with_reducible refine does_id ?_) | (with_reducible refine ops_id ?_)); refine walk ?_; (repeat' (first | exact trivial | with_reducible refine And.intro ?_ ?_)); all_goals (repeat (first | (with_reducible refine ImpB.mk fun hb => ?_) | (with_reducible refine ImpK.mk fun hK => ?_) | (with_reducible refine ImpF.mk fun hF => ?_) | (with_reducible refine ImpQ.mk fun hp => ?_) | (with_reducible refine AllE.mk fun p => ?_) | (with_reducible refine AllR.mk fun rest => ?_) | (with_reducible refine AllK.mk fun K => ?_))))); repeat' (with_reducible refine And.intro ?_ ?_))
    (focus (refine ⟨_, _, Gh.refl, [], rfl, ?_⟩; (refine fitq ?_ ?_ ?_ <;> try exact trivial); (try any_goals (refine ⟨?_, ?_⟩)); (try any_goals (with_reducible rfl))))
    all_goals (repeat' (first | (refine And.intro ?_ ?_) | rfl))
  cases d2_ : decide (c = c2)
  · refine w_body (rs := [.tmp 4]) (tm := [.agg [.int .i64 a, .int .i64 c, .int .i64 t, .ro .byte d], .agg [.int .i64 a2, .int .i64 c2, .int .i64 t2, .ro .byte d2], .any, .any, .any, .any, .any, .any, .any, .any, .any, .any, .any, .any, .any, .any, .any, .any, .any, .any, .any, .any, .any, .any, .any, .any, .any, .any, .any, .any, .any, .any, .any]) fn_40 rfl rfl rfl rfl fun R hR => ?_
    (have zx1 := @d1; have zx2 := @d2_; all_goals (try ((first | (with_reducible refine wp_id ?_) | (with_reducible refine does_id ?_) | (with_reducible refine ops_id ?_)); refine walk ?_; (repeat' (first | exact trivial | with_reducible refine And.intro ?_ ?_)); all_goals (repeat (first | (with_reducible refine ImpB.mk fun hb => ?_) | (with_reducible refine ImpK.mk fun hK => ?_) | (with_reducible refine ImpF.mk fun hF => ?_) | (with_reducible refine ImpQ.mk fun hp => ?_) | (with_reducible refine AllE.mk fun p => ?_) | (with_reducible refine AllR.mk fun rest => ?_) | (with_reducible refine AllK.mk fun K => ?_))))); repeat' (with_reducible refine And.intro ?_ ?_))
    (focus (refine ⟨_, _, Gh.refl, [], rfl, ?_⟩; (refine fitq ?_ ?_ ?_ <;> try exact trivial); (try any_goals (refine ⟨?_, ?_⟩)); (try any_goals (with_reducible rfl))))
    all_goals (repeat' (first | (refine And.intro ?_ ?_) | rfl))
  cases d3 : decide (t = t2)
  · refine w_body (rs := [.tmp 4]) (tm := [.agg [.int .i64 a, .int .i64 c, .int .i64 t, .ro .byte d], .agg [.int .i64 a2, .int .i64 c2, .int .i64 t2, .ro .byte d2], .any, .any, .any, .any, .any, .any, .any, .any, .any, .any, .any, .any, .any, .any, .any, .any, .any, .any, .any, .any, .any, .any, .any, .any, .any, .any, .any, .any, .any, .any, .any]) fn_40 rfl rfl rfl rfl fun R hR => ?_
    (have zx1 := @d1; have zx2 := @d2_; have zx3 := @d3; all_goals (try ((first | (with_reducible refine wp_id ?_) | (with_reducible refine does_id ?_) | (with_reducible refine ops_id ?_)); refine walk ?_; (repeat' (first | exact trivial | with_reducible refine And.intro ?_ ?_)); all_goals (repeat (first | (with_reducible refine ImpB.mk fun hb => ?_) | (with_reducible refine ImpK.mk fun hK => ?_) | (with_reducible refine ImpF.mk fun hF => ?_) | (with_reducible refine ImpQ.mk fun hp => ?_) | (with_reducible refine AllE.mk fun p => ?_) | (with_reducible refine AllR.mk fun rest => ?_) | (with_reducible refine AllK.mk fun K => ?_))))); repeat' (with_reducible refine And.intro ?_ ?_))
    (focus (refine ⟨_, _, Gh.refl, [], rfl, ?_⟩; (refine fitq ?_ ?_ ?_ <;> try exact trivial); (try any_goals (refine ⟨?_, ?_⟩)); (try any_goals (with_reducible rfl))))
    all_goals (repeat' (first | (refine And.intro ?_ ?_) | rfl))
  · refine w_body (rs := [.tmp 4]) (tm := [.agg [.int .i64 a, .int .i64 c, .int .i64 t, .ro .byte d], .agg [.int .i64 a2, .int .i64 c2, .int .i64 t2, .ro .byte d2], .any, .any, .any, .any, .any, .any, .any, .any, .any, .any, .any, .any, .any, .any, .any, .any, .any, .any, .any, .any, .any, .any, .any, .any, .any, .any, .any, .any, .any, .any, .any]) fn_40 rfl rfl rfl rfl fun R hR => ?_
    (have zx1 := @d1; have zx2 := @d2_; have zx3 := @d3; all_goals (try ((first | (with_reducible refine wp_id ?_) | (with_reducible refine does_id ?_) | (with_reducible refine ops_id ?_)); refine walk ?_; (repeat' (first | exact trivial | with_reducible refine And.intro ?_ ?_)); all_goals (repeat (first | (with_reducible refine ImpB.mk fun hb => ?_) | (with_reducible refine ImpK.mk fun hK => ?_) | (with_reducible refine ImpF.mk fun hF => ?_) | (with_reducible refine ImpQ.mk fun hp => ?_) | (with_reducible refine AllE.mk fun p => ?_) | (with_reducible refine AllR.mk fun rest => ?_) | (with_reducible refine AllK.mk fun K => ?_))))); repeat' (with_reducible refine And.intro ?_ ?_))
    (focus (refine ⟨_, _, Gh.refl, [], rfl, ?_⟩; (refine fitq ?_ ?_ ?_ <;> try exact trivial); (try any_goals (refine ⟨?_, ?_⟩)); (try any_goals (with_reducible rfl))))
    all_goals (repeat' (first | (refine And.intro ?_ ?_) | rfl))
theorem c_same52 {h : List Ch} {K : KT} {a c t a2 c2 t2 : Int} {d d2 : List UInt8} (H : K (.bool (sameI ⟨a, c, t, d⟩ ⟨a2, c2, t2, d2⟩)) h) : Does Try.prog 40 [.agg [.int .i64 a, .int .i64 c, .int .i64 t, .ro .byte d], .agg [.int .i64 a2, .int .i64 c2, .int .i64 t2, .ro .byte d2]] h K :=
  frame_pure (b_same52 ⟨a, c, t, d⟩ ⟨a2, c2, t2, d2⟩) (br_cons (br_it ⟨a, c, t, d⟩) (br_cons (br_it ⟨a2, c2, t2, d2⟩) br_nil)) (.inr rfl) (fun _ => rfl) H
abbrev i_same52 := Ctr.mk (i := 0) (g := 40) @c_same52
attribute [instance] i_same52
theorem sameI_iff {x y : Itm} : sameI x y = true ↔ x = y := by
  obtain ⟨a, c, t, d⟩ := x
  obtain ⟨a2, c2, t2, d2⟩ := y
  unfold sameI
  simp [Bool.and_eq_true]
theorem b_lists (a b : List Itm) (ha : a.length ≤ 1099511627776) (hb0 : b.length ≤ 1099511627776) : DoesK Try.prog 0 19 [.ro .itm a, .ro .itm b] [] (EndF 0 (.bool (decide (a = b))) []) := by
  refine DoesK.close ?_
  refine w_body (rs := [.tmp 4]) (tm := [.ro .itm a, .ro .itm b, .any, .any, .any, .any, .any, .any, .any, .any, .any, .any, .any, .any, .any, .any, .any, .any, .any, .any, .any, .any, .any, .any, .any, .any, .any]) fn_19 rfl rfl rfl rfl fun R hR => ?_
  by_cases hlen : a.length = b.length
  · have hld : decide (¬ (a.length : Int) = (b.length : Int)) = false := decide_eq_false (by omega)
    (have zx1 := @hld; all_goals (try ((first | (with_reducible refine wp_id ?_) | (with_reducible refine does_id ?_) | (with_reducible refine ops_id ?_)); refine walk ?_; (repeat' (first | exact trivial | with_reducible refine And.intro ?_ ?_)); all_goals (repeat (first | (with_reducible refine ImpB.mk fun hb => ?_) | (with_reducible refine ImpK.mk fun hK => ?_) | (with_reducible refine ImpF.mk fun hF => ?_) | (with_reducible refine ImpQ.mk fun hp => ?_) | (with_reducible refine AllE.mk fun p => ?_) | (with_reducible refine AllR.mk fun rest => ?_) | (with_reducible refine AllK.mk fun K => ?_))))); repeat' (with_reducible refine And.intro ?_ ?_))
    any_goals ((try (refine w_seq fun K hK => ?_)); (try (refine w_block ?_)); refine w_loop (A := Nat) (fun k => k ≤ a.length ∧ ∀ i, i < k → a.getD i Itm.zero = b.getD i Itm.zero) (fun k => a.length - k) (fun k => [(5, .int .i64 k)]) (fun _ => []) (0) (ws := ?ws2) (tk := ?tk2) ?hw2 ?ht2 ?hi ?h0 ?LH2; (case hw2 => simp only [go_sem, decide_true, decide_false, Int.reduceToNat, Nat.min_eq_left, Nat.min_eq_right, Int.reducePow, Nat.reducePow, Int.reduceLE, Int.reduceLT, Int.reduceMul, Int.reduceAdd, Int.reduceSub, Int.reduceNeg, Bool.not_true, Bool.not_false, Bool.not_not, ↓reduceIte, Nat.reduceAdd, Nat.reduceSub, Nat.reduceMul, Nat.reduceEqDiff, reduceCtorEq, Nat.reduceLT, Nat.reduceLeDiff, Nat.reduceGT]; exact rfl); (case ht2 => simp only [go_sem, decide_true, decide_false, Int.reduceToNat, Nat.min_eq_left, Nat.min_eq_right, Int.reducePow, Nat.reducePow, Int.reduceLE, Int.reduceLT, Int.reduceMul, Int.reduceAdd, Int.reduceSub, Int.reduceNeg, Bool.not_true, Bool.not_false, Bool.not_not, ↓reduceIte, Nat.reduceAdd, Nat.reduceSub, Nat.reduceMul, Nat.reduceEqDiff, reduceCtorEq, Nat.reduceLT, Nat.reduceLeDiff, Nat.reduceGT]; exact rfl); (case' LH2 => rintro k E t hx hE ht; simp only [go_sem] at ht; subst ht; simp only [go_sem]; try dsimp only at hx))
    case hi => exact ⟨Nat.zero_le _, fun i hi => absurd hi (by omega)⟩
    case h0 =>
      (focus (refine ⟨_, _, Gh.refl, [], rfl, ?_⟩; (refine fitq ?_ ?_ ?_ <;> try exact trivial); (try any_goals (refine ⟨?_, ?_⟩)); (try any_goals (with_reducible rfl))))
      all_goals rfl
    case LH2 =>
      obtain ⟨hk0, hke⟩ := hx
      have hw : IntKind.i64.wrap ((k : Int) + 1) = ((k + 1 : Nat) : Int) := by rw [wrap_i64 _ (by omega) (by omega)]; omega
      by_cases hk : k < a.length
      · have hkd : decide ((k : Int) < (a.length : Int)) = true := decide_eq_true (by omega)
        obtain ⟨x, hxx⟩ : ∃ x, a.getD k Itm.zero = x := ⟨_, rfl⟩
        obtain ⟨y, hyy⟩ : ∃ y, b.getD k Itm.zero = y := ⟨_, rfl⟩
        cases hs : sameI x y with
        | true =>
          have hs2 : sameI ⟨x.apid, x.count, x.time, x.data⟩ ⟨y.apid, y.count, y.time, y.data⟩ = true := hs
          (have zx1 := @hkd; have zx2 := @hw; have zx3 := @hxx; have zx4 := @hyy; have zx5 := @hs2; all_goals (try ((first | (with_reducible refine wp_id ?_) | (with_reducible refine does_id ?_) | (with_reducible refine ops_id ?_)); refine walk ?_; (repeat' (first | exact trivial | with_reducible refine And.intro ?_ ?_)); all_goals (repeat (first | (with_reducible refine ImpB.mk fun hb => ?_) | (with_reducible refine ImpK.mk fun hK => ?_) | (with_reducible refine ImpF.mk fun hF => ?_) | (with_reducible refine ImpQ.mk fun hp => ?_) | (with_reducible refine AllE.mk fun p => ?_) | (with_reducible refine AllR.mk fun rest => ?_) | (with_reducible refine AllK.mk fun K => ?_))))); repeat' (with_reducible refine And.intro ?_ ?_))
          any_goals first | exact Int.natCast_nonneg _ | (show (k : Int) < (a.length : Int); omega) | (show (k : Int) < (b.length : Int); omega) | (show k < a.length; omega) | (show k < b.length; omega)
          refine ⟨k + 1, ⟨⟨(by omega : k + 1 ≤ a.length), fun i hi => ?_⟩, (by first | omega | (dsimp only; omega))⟩, ?_⟩
          · rcases Nat.lt_or_ge i k with q | q
            · exact hke i q
            · obtain rfl : i = k := by omega
              rw [hxx, hyy]; exact sameI_iff.1 hs
          (focus (refine ⟨_, _, Gh.refl, [], rfl, ?_⟩; (refine fitq ?_ ?_ ?_ <;> try exact trivial); (try any_goals (refine ⟨?_, ?_⟩)); (try any_goals (with_reducible rfl))))
          all_goals (repeat' (first | (refine And.intro ?_ ?_) | rfl))
        | false =>
          have hs2 : sameI ⟨x.apid, x.count, x.time, x.data⟩ ⟨y.apid, y.count, y.time, y.data⟩ = false := hs
          have hf : decide (a = b) = false := decide_eq_false fun q => by
            rw [q, hyy] at hxx
            rw [hxx, sameI_iff.2 rfl] at hs; cases hs
          (have zx1 := @hkd; have zx2 := @hw; have zx3 := @hxx; have zx4 := @hyy; have zx5 := @hs2; all_goals (try ((first | (with_reducible refine wp_id ?_) | (with_reducible refine does_id ?_) | (with_reducible refine ops_id ?_)); refine walk ?_; (repeat' (first | exact trivial | with_reducible refine And.intro ?_ ?_)); all_goals (repeat (first | (with_reducible refine ImpB.mk fun hb => ?_) | (with_reducible refine ImpK.mk fun hK => ?_) | (with_reducible refine ImpF.mk fun hF => ?_) | (with_reducible refine ImpQ.mk fun hp => ?_) | (with_reducible refine AllE.mk fun p => ?_) | (with_reducible refine AllR.mk fun rest => ?_) | (with_reducible refine AllK.mk fun K => ?_))))); repeat' (with_reducible refine And.intro ?_ ?_))
          any_goals first | exact Int.natCast_nonneg _ | (show (k : Int) < (a.length : Int); omega) | (show (k : Int) < (b.length : Int); omega) | (show k < a.length; omega) | (show k < b.length; omega)
          rw [hf]
          (focus (refine ⟨_, _, Gh.refl, [], rfl, ?_⟩; (refine fitq ?_ ?_ ?_ <;> try exact trivial); (try any_goals (refine ⟨?_, ?_⟩)); (try any_goals (with_reducible rfl))))
          all_goals (repeat' (first | (refine And.intro ?_ ?_) | rfl))
      · have hkd : decide ((k : Int) < (a.length : Int)) = false := decide_eq_false (by omega)
        have ht : decide (a = b) = true := decide_eq_true (List.ext_getElem hlen fun i h1 h2 => by
          have := hke i (by omega)
          rw [List.getD_eq_getElem?_getD, List.getD_eq_getElem?_getD, List.getElem?_eq_getElem h1, List.getElem?_eq_getElem h2] at this
          exact this)
        (have zx1 := @hkd; all_goals (try ((first | (with_reducible refine wp_id ?_) | (with_reducible refine does_id ?_) | (with_reducible refine ops_id ?_)); refine walk ?_; (repeat' (first | exact trivial | with_reducible refine And.intro ?_ ?_)); all_goals (repeat (first | (with_reducible refine ImpB.mk fun hb => ?_) | (with_reducible refine ImpK.mk fun hK => ?_) | (with_reducible refine ImpF.mk fun hF => ?_) | (with_reducible refine ImpQ.mk fun hp => ?_) | (with_reducible refine AllE.mk fun p => ?_) | (with_reducible refine AllR.mk fun rest => ?_) | (with_reducible refine AllK.mk fun K => ?_))))); repeat' (with_reducible refine And.intro ?_ ?_))
        rw [ht]
        (focus (refine ⟨_, _, Gh.refl, [], rfl, ?_⟩; (refine fitq ?_ ?_ ?_ <;> try exact trivial); (try any_goals (refine ⟨?_, ?_⟩)); (try any_goals (with_reducible rfl))))
        all_goals (repeat' (first | (refine And.intro ?_ ?_) | rfl))
  · have hld : decide (¬ (a.length : Int) = (b.length : Int)) = true := decide_eq_true (by omega)
    have hf : decide (a = b) = false := decide_eq_false fun q => hlen (by rw [q])
    (have zx1 := @hld; all_goals (try ((first | (with_reducible refine wp_id ?_) | (with_reducible refine does_id ?_) | (with_reducible refine ops_id ?_)); refine walk ?_; (repeat' (first | exact trivial | with_reducible refine And.intro ?_ ?_)); all_goals (repeat (first | (with_reducible refine ImpB.mk fun hb => ?_) | (with_reducible refine ImpK.mk fun hK => ?_) | (with_reducible refine ImpF.mk fun hF => ?_) | (with_reducible refine ImpQ.mk fun hp => ?_) | (with_reducible refine AllE.mk fun p => ?_) | (with_reducible refine AllR.mk fun rest => ?_) | (with_reducible refine AllK.mk fun K => ?_))))); repeat' (with_reducible refine And.intro ?_ ?_))
    rw [hf]
    (focus (refine ⟨_, _, Gh.refl, [], rfl, ?_⟩; (refine fitq ?_ ?_ ?_ <;> try exact trivial); (try any_goals (refine ⟨?_, ?_⟩)); (try any_goals (with_reducible rfl))))
    all_goals (repeat' (first | (refine And.intro ?_ ?_) | rfl))
theorem c_lists {h : List Ch} {K : KT} {a b : List Itm} {x y : AV} (H : K (.bool (decide (a = b))) h) (b1 : brA [] h (.ro .itm a) x) (b2 : brA [] h (.ro .itm b) y) (s1 : a.length ≤ 1099511627776) (s2 : b.length ≤ 1099511627776) : Does Try.prog 19 [x, y] h K :=
  frame_pure (b_lists a b s1 s2) (br_cons b1 (br_cons b2 br_nil)) (.inr rfl) (fun _ => rfl) H
abbrev i_lists := Ctr.mk (i := 0) (g := 19) @c_lists
attribute [instance] i_lists
def fewB (l : List Itm) : Bool := decide (∀ i, i < l.length → i < 200 → (l.getD i Itm.zero).data.length ≤ 5000) && decide (l.length ≤ 80)
theorem b_few (l : List Itm) (hl : l.length ≤ 9223372036854775807) : DoesK Try.prog 0 17 [.ro .itm l] [] (EndF 0 (.bool (fewB l)) []) := by
  refine DoesK.close ?_
  refine w_body (rs := [.tmp 2]) (tm := [.ro .itm l, .any, .any, .any, .any, .any, .any, .any, .any, .any, .any, .any, .any, .any, .any, .any, .any, .any, .any, .any, .any, .any, .any, .any]) fn_17 rfl rfl rfl rfl fun R hR => ?_
  (all_goals (try ((first | (with_reducible refine wp_id ?_) | (with_reducible refine does_id ?_) | (with_reducible refine ops_id ?_)); refine walk ?_; (repeat' (first | exact trivial | with_reducible refine And.intro ?_ ?_)); all_goals (repeat (first | (with_reducible refine ImpB.mk fun hb => ?_) | (with_reducible refine ImpK.mk fun hK => ?_) | (with_reducible refine ImpF.mk fun hF => ?_) | (with_reducible refine ImpQ.mk fun hp => ?_) | (with_reducible refine AllE.mk fun p => ?_) | (with_reducible refine AllR.mk fun rest => ?_) | (with_reducible refine AllK.mk fun K => ?_))))); repeat' (with_reducible refine And.intro ?_ ?_))
  any_goals ((try (refine w_seq fun K hK => ?_)); (try (refine w_block ?_)); refine w_loop (A := Nat) (fun k => (k ≤ l.length ∧ k ≤ 200) ∧ ∀ i, i < k → (l.getD i Itm.zero).data.length ≤ 5000) (fun k => l.length - k) (fun k => [(3, .int .i64 k)]) (fun _ => []) (0) (ws := ?ws3) (tk := ?tk3) ?hw3 ?ht3 ?hi ?h0 ?LH3; (case hw3 => simp only [go_sem, decide_true, decide_false, Int.reduceToNat, Nat.min_eq_left, Nat.min_eq_right, Int.reducePow, Nat.reducePow, Int.reduceLE, Int.reduceLT, Int.reduceMul, Int.reduceAdd, Int.reduceSub, Int.reduceNeg, Bool.not_true, Bool.not_false, Bool.not_not, ↓reduceIte, Nat.reduceAdd, Nat.reduceSub, Nat.reduceMul, Nat.reduceEqDiff, reduceCtorEq, Nat.reduceLT, Nat.reduceLeDiff, Nat.reduceGT]; exact rfl); (case ht3 => simp only [go_sem, decide_true, decide_false, Int.reduceToNat, Nat.min_eq_left, Nat.min_eq_right, Int.reducePow, Nat.reducePow, Int.reduceLE, Int.reduceLT, Int.reduceMul, Int.reduceAdd, Int.reduceSub, Int.reduceNeg, Bool.not_true, Bool.not_false, Bool.not_not, ↓reduceIte, Nat.reduceAdd, Nat.reduceSub, Nat.reduceMul, Nat.reduceEqDiff, reduceCtorEq, Nat.reduceLT, Nat.reduceLeDiff, Nat.reduceGT]; exact rfl); (case' LH3 => rintro k E t hx hE ht; simp only [go_sem] at ht; subst ht; simp only [go_sem]; try dsimp only at hx))
  case hi => exact ⟨⟨Nat.zero_le _, Nat.zero_le _⟩, fun i hi => absurd hi (by omega)⟩
  case h0 =>
    (focus (refine ⟨_, _, Gh.refl, [], rfl, ?_⟩; (refine fitq ?_ ?_ ?_ <;> try exact trivial); (try any_goals (refine ⟨?_, ?_⟩)); (try any_goals (with_reducible rfl))))
    all_goals rfl
  case LH3 =>
    obtain ⟨⟨hk0, hk1⟩, hka⟩ := hx
    have hend : ¬ (k < l.length ∧ k < 200) → fewB l = decide ((l.length : Int) ≤ 80) := fun q => by
      unfold fewB
      rw [decide_eq_true (p := ∀ i, i < l.length → i < 200 → (l.getD i Itm.zero).data.length ≤ 5000) (fun i h1 h2 => hka i (by omega)), Bool.true_and]
      exact decide_eq_decide.2 ⟨fun _ => by omega, fun _ => by omega⟩
    by_cases hk : k < l.length
    · have hw : IntKind.i64.wrap ((k : Int) + 1) = ((k + 1 : Nat) : Int) := by rw [wrap_i64 _ (by omega) (by omega)]; omega
      have hkd : decide ((k : Int) < (l.length : Int)) = true := decide_eq_true (by omega)
      by_cases hk2 : k < 200
      · have hkd2 : decide ((k : Int) < 200) = true := decide_eq_true (by omega)
        obtain ⟨x, hxx⟩ : ∃ x, l.getD k Itm.zero = x := ⟨_, rfl⟩
        by_cases hc : 5000 < x.data.length
        · have d1 : decide ((5000 : Int) < (x.data.length : Int)) = true := decide_eq_true (by omega)
          have hf : fewB l = false := by
            unfold fewB
            rw [decide_eq_false (p := ∀ i, i < l.length → i < 200 → (l.getD i Itm.zero).data.length ≤ 5000) (fun q => by have := q k hk hk2; rw [hxx] at this; omega)]; rfl
          (have zx1 := @hkd; have zx2 := @hkd2; have zx3 := @hxx; have zx4 := @d1; all_goals (try ((first | (with_reducible refine wp_id ?_) | (with_reducible refine does_id ?_) | (with_reducible refine ops_id ?_)); refine walk ?_; (repeat' (first | exact trivial | with_reducible refine And.intro ?_ ?_)); all_goals (repeat (first | (with_reducible refine ImpB.mk fun hb => ?_) | (with_reducible refine ImpK.mk fun hK => ?_) | (with_reducible refine ImpF.mk fun hF => ?_) | (with_reducible refine ImpQ.mk fun hp => ?_) | (with_reducible refine AllE.mk fun p => ?_) | (with_reducible refine AllR.mk fun rest => ?_) | (with_reducible refine AllK.mk fun K => ?_))))); repeat' (with_reducible refine And.intro ?_ ?_))
          any_goals first | exact Int.natCast_nonneg _ | (show (k : Int) < (l.length : Int); omega) | (show k < l.length; omega)
          rw [hf]
          (focus (refine ⟨_, _, Gh.refl, [], rfl, ?_⟩; (refine fitq ?_ ?_ ?_ <;> try exact trivial); (try any_goals (refine ⟨?_, ?_⟩)); (try any_goals (with_reducible rfl))))
          all_goals (repeat' (first | (refine And.intro ?_ ?_) | rfl))
        · have d1 : decide ((5000 : Int) < (x.data.length : Int)) = false := decide_eq_false (by omega)
          (have zx1 := @hkd; have zx2 := @hkd2; have zx3 := @hxx; have zx4 := @d1; have zx5 := @hw; all_goals (try ((first | (with_reducible refine wp_id ?_) | (with_reducible refine does_id ?_) | (with_reducible refine ops_id ?_)); refine walk ?_; (repeat' (first | exact trivial | with_reducible refine And.intro ?_ ?_)); all_goals (repeat (first | (with_reducible refine ImpB.mk fun hb => ?_) | (with_reducible refine ImpK.mk fun hK => ?_) | (with_reducible refine ImpF.mk fun hF => ?_) | (with_reducible refine ImpQ.mk fun hp => ?_) | (with_reducible refine AllE.mk fun p => ?_) | (with_reducible refine AllR.mk fun rest => ?_) | (with_reducible refine AllK.mk fun K => ?_))))); repeat' (with_reducible refine And.intro ?_ ?_))
          any_goals first | exact Int.natCast_nonneg _ | (show (k : Int) < (l.length : Int); omega) | (show k < l.length; omega)
          refine ⟨k + 1, ⟨⟨⟨(by omega : k + 1 ≤ l.length), (by omega : k + 1 ≤ 200)⟩, fun i hi => ?_⟩, (by first | omega | (dsimp only; omega))⟩, ?_⟩
          · rcases Nat.lt_or_ge i k with q | q
            · exact hka i q
            · obtain rfl : i = k := by omega
              rw [hxx]; omega
          (focus (refine ⟨_, _, Gh.refl, [], rfl, ?_⟩; (refine fitq ?_ ?_ ?_ <;> try exact trivial); (try any_goals (refine ⟨?_, ?_⟩)); (try any_goals (with_reducible rfl))))
          all_goals (repeat' (first | (refine And.intro ?_ ?_) | rfl))
      · have hkd2 : decide ((k : Int) < 200) = false := decide_eq_false (by omega)
        (have zx1 := @hkd; have zx2 := @hkd2; all_goals (try ((first | (with_reducible refine wp_id ?_) | (with_reducible refine does_id ?_) | (with_reducible refine ops_id ?_)); refine walk ?_; (repeat' (first | exact trivial | with_reducible refine And.intro ?_ ?_)); all_goals (repeat (first | (with_reducible refine ImpB.mk fun hb => ?_) | (with_reducible refine ImpK.mk fun hK => ?_) | (with_reducible refine ImpF.mk fun hF => ?_) | (with_reducible refine ImpQ.mk fun hp => ?_) | (with_reducible refine AllE.mk fun p => ?_) | (with_reducible refine AllR.mk fun rest => ?_) | (with_reducible refine AllK.mk fun K => ?_))))); repeat' (with_reducible refine And.intro ?_ ?_))
        rw [hend (fun q => hk2 q.2)]
        (focus (refine ⟨_, _, Gh.refl, [], rfl, ?_⟩; (refine fitq ?_ ?_ ?_ <;> try exact trivial); (try any_goals (refine ⟨?_, ?_⟩)); (try any_goals (with_reducible rfl))))
        all_goals (repeat' (first | (refine And.intro ?_ ?_) | rfl))
    · have hkd : decide ((k : Int) < (l.length : Int)) = false := decide_eq_false (by omega)
      (have zx1 := @hkd; all_goals (try ((first | (with_reducible refine wp_id ?_) | (with_reducible refine does_id ?_) | (with_reducible refine ops_id ?_)); refine walk ?_; (repeat' (first | exact trivial | with_reducible refine And.intro ?_ ?_)); all_goals (repeat (first | (with_reducible refine ImpB.mk fun hb => ?_) | (with_reducible refine ImpK.mk fun hK => ?_) | (with_reducible refine ImpF.mk fun hF => ?_) | (with_reducible refine ImpQ.mk fun hp => ?_) | (with_reducible refine AllE.mk fun p => ?_) | (with_reducible refine AllR.mk fun rest => ?_) | (with_reducible refine AllK.mk fun K => ?_))))); repeat' (with_reducible refine And.intro ?_ ?_))
      rw [hend (fun q => hk q.1)]
      (focus (refine ⟨_, _, Gh.refl, [], rfl, ?_⟩; (refine fitq ?_ ?_ ?_ <;> try exact trivial); (try any_goals (refine ⟨?_, ?_⟩)); (try any_goals (with_reducible rfl))))
      all_goals (repeat' (first | (refine And.intro ?_ ?_) | rfl))
theorem c_few {h : List Ch} {K : KT} {l : List Itm} {a : AV} (H : K (.bool (fewB l)) h) (b1 : brA [] h (.ro .itm l) a) (s1 : l.length ≤ 9223372036854775807) : Does Try.prog 17 [a] h K :=
  frame_pure (b_few l s1) (br_cons b1 br_nil) (.inr rfl) (fun _ => rfl) H
abbrev i_few := Ctr.mk (i := 0) (g := 17) @c_few
attribute [instance] i_few
theorem few_of {l : List Itm} (h : fewB l = true) : l.length ≤ 80 ∧ ∀ i, (l.getD i Itm.zero).data.length ≤ 5000 := by
  unfold fewB at h
  rw [Bool.and_eq_true, decide_eq_true_eq, decide_eq_true_eq] at h
  refine ⟨h.2, fun i => ?_⟩
  by_cases c : i < l.length
  · exact h.1 i c (by omega)
  · rw [List.getD_eq_getElem?_getD, List.getElem?_eq_none (by omega)]
    exact Nat.zero_le _
end Go.V
