/-
  ref48: Decode.
  ref48: Decode, of what is no encoding.
-/
import Derived.Test.YthfcimcmmhnjmaaPart20
set_option linter.unusedVariables false
set_option linter.unusedSimpArgs false
set_option maxRecDepth 100000
set_option maxHeartbeats 1000000
namespace Go.V
open Go.Proofs
attribute [-go_sem] Wr
attribute [local go_sem] sdecA
theorem c_frcount_n {h : List Ch} {K : KT} {t : Nat} {most : Int} (H : K (.int .i64 0) (h.set t (.pack (Fd none)))) (o : hth h t = .pack [.cells [.ro .byte [], .bool true]]) : Does Try.prog 44 [.ptr t 0, .int .i64 most] h K :=
  c_frcount (r := none) H o rfl (Nat.zero_le _)
abbrev i_frcount_n := Ctr.mk (i := 2) (g := 44) @c_frcount_n
attribute [instance] i_frcount_n
theorem c_frint_n {h : List Ch} {K : KT} {t : Nat} (H : K (.int .i64 0) (h.set t (.pack (Fd none)))) (o : hth h t = .pack [.cells [.ro .byte [], .bool true]]) : Does Try.prog 40 [.ptr t 0] h K :=
  c_frint (r := none) H o rfl (Nat.zero_le _)
abbrev i_frint_n := Ctr.mk (i := 2) (g := 40) @c_frint_n
attribute [instance] i_frint_n
theorem c_fruint_s2 {h : List Ch} {K : KT} {t : Nat} {ys : List UInt8} {n : Nat} {r' : Option (List UInt8)} (H : K (.int .u64 n) (h.set t (.pack (Fd r')))) (o : hth h t = .pack [.cells [.ro .byte ys, .bool false]]) (e : uintR (some ys) 2 = (n, r')) : Does Try.prog 41 [.ptr t 0, .int .i64 2] h K :=
  c_fruint (r := some ys) (size := 2) H o e (by decide) (by decide)
abbrev i_fruint_s2 := Ctr.mk (i := 7) (g := 41) @c_fruint_s2
attribute [instance] i_fruint_s2
theorem c_fruint_n {h : List Ch} {K : KT} {t : Nat} {size : Nat} (H : K (.int .u64 0) (h.set t (.pack (Fd none)))) (o : hth h t = .pack [.cells [.ro .byte [], .bool true]]) (s1 : 1 ≤ size) (s2 : size ≤ 8) : Does Try.prog 41 [.ptr t 0, .int .i64 size] h K := -- nocall
  c_fruint (r := none) (size := size) H o rfl s1 s2
theorem b_fdecT (c : Ck) (hs : CkS c) (hv : ckV c = true) (hb : (encK c).length ≤ 1000000) : DoesK Try.prog 0 14 [.ro .byte (encK c)] [] (EndF 0 (.tup [.agg (ckL c), .bool true]) []) := by
  refine DoesK.close ?_
  obtain ⟨r1, r2, r3, r4, r5, r6, r7, r8, r9, p⟩ := rdK hv []
  rw [List.append_nil] at p
  obtain ⟨hB, hS, hF, hN, hL, hc⟩ := (ckV_iff c).1 hv
  have hlen := p.len
  have he := encE_len hc
  have hv' : ckV ⟨c.boots, c.mode, c.time, c.led, c.ents, c.sides, c.done, c.next⟩ = true := hv
  have hs' : CkS ⟨c.boots, c.mode, c.time, c.led, c.ents, c.sides, c.done, c.next⟩ := hs
  have heta : (⟨c.boots, c.mode, c.time, c.led, c.ents, c.sides, c.done, c.next⟩ : Ck) = c := rfl
  have e1 := p.e1
  have e2 := p.e2
  have e3 := p.e3
  have e4 := p.e4 160 (by decide)
  have hel : (encE c.ents).length ≤ (encK c).length := by
    unfold encK headK
    simp only [List.length_append]
    omega
  have e5 := p.e5 ((encK c).length : Int) (by omega)
  have e6 := p.e6
  have e8 := p.e8
  have e10 := p.e10
  have hd : decE (encE c.ents) = some c.ents := decE_iff.2 ⟨hc, rfl⟩
  have hB' := hB
  unfold ckB at hB'
  have w1 : IntKind.i64.wrap (c.mode.toNat : Int) = c.mode := by rw [wrap_i64 _ (by omega) (by omega)]; omega
  have lr : ∀ x : List UInt8, lenR (some x) = x.length := fun _ => rfl
  have l0 : (encK c).length ≤ 1099511627776 := by omega
  have l1 : lenR (some r1) ≤ 1099511627776 := by rw [lr]; omega
  have l2 : lenR (some r2) ≤ 1099511627776 := by rw [lr]; omega
  have l3 : lenR (some r3) ≤ 1099511627776 := by rw [lr]; omega
  have l4 : lenR (some r4) ≤ 1099511627776 := by rw [lr]; omega
  have l5 : lenR (some r5) ≤ 1099511627776 := by rw [lr]; omega
  have l7 : r7.length ≤ 1099511627776 := by omega
  have l9 : r9.length ≤ 1099511627776 := by omega
  have hbe : (encE c.ents).length ≤ 1000000 := by omega
  refine w_body (rs := [.cell 2 27, .tmp 3]) (tm := [.ro .byte (encK c), .any, .any, .any, .any, .any, .any, .any, .any, .any, .any, .any, .any, .any, .any, .any, .any, .any, .any, .any, .any, .any, .any, .any, .any, .any, .any, .any, .any, .any, .any, .any, .any, .any, .any, .any, .any, .any, .any, .any, .any, .any, .any, .any, .any, .any, .any, .any, .any, .any, .any, .any, .any, .any, .any, .any, .any, .any, .any, .any, .any, .any, .any, .any, .any, .any, .any, .any, .any, .any, .any, .any, .any, .any, .any, .any, .any, .any, .any, .any, .any, .any, .any, .any, .any, .any, .any, .any, .any, .any, .any, .any, .any, .any, .any, .any, .any, .any, .any, .any, .any, .any, .any, .any, .any, .any, .any, .any, .any, .any, .any, .any, .any]) fn_14 rfl rfl rfl rfl fun R hR => ?_
  (have zx1 := @w1; have zx2 := @hd; all_goals (try ((first | (with_reducible refine wp_id ?_) | (with_reducible refine does_id ?_)); refine walk ?_; (repeat' (first | exact trivial | with_reducible refine And.intro ?_ ?_)); all_goals (repeat (first | (with_reducible refine ImpB.mk fun hb => ?_) | (with_reducible refine ImpK.mk fun hK => ?_) | (with_reducible refine ImpF.mk fun hF => ?_) | (with_reducible refine AllK.mk fun K => ?_))))); repeat' (with_reducible refine And.intro ?_ ?_))
  refine Wp.ghost (gh_adoptC (t := 2) (i := 5) (vs := [.int .i64 c.boots, .int .i64 c.mode, .int .i64 c.time, .ro .byte c.led, .ro .ent c.ents, .lit (.slice none 0 0), .lit (.slice none 0 0), .int .i64 0]) .int rfl trivial) ?_
  refine Wp.ghost (gh_adoptC (t := 2) (i := 6) (vs := [.int .i64 c.boots, .int .i64 c.mode, .int .i64 c.time, .ro .byte c.led, .ro .ent c.ents, .sl 3 .int 0 0, .lit (.slice none 0 0), .int .i64 0]) .fid rfl trivial) ?_
  rw [p.e7]
  any_goals (refine w_loop (A := Nat) (fun k => k ≤ c.sides.length) (fun k => c.sides.length - k) (fun k => [(8, .int .i64 ((c.sides.length - k : Nat) : Int)), (28, .any)]) (fun k => [(1, .pack (Fd (some ((c.sides.drop k).flatMap sideE ++ r7)))), (2, .cells [.int .i64 c.boots, .int .i64 c.mode, .int .i64 c.time, .ro .byte c.led, .ro .ent c.ents, .sl 3 .int 0 k, .sl 4 .fid 0 0, .int .i64 0]), (3, .rows .int (c.sides.take k)), (4, .rows .fid [])]) (0) (ws := ?ws1) (tk := ?tk1) ?hw1 ?ht1 ?hi ?h0 ?LH1; (case hw1 => simp only [go_sem, Int.reduceToNat, Nat.min_eq_left, Nat.min_eq_right, Int.reducePow, Nat.reducePow, Int.reduceLE, Int.reduceLT, Int.reduceMul, Int.reduceAdd, Int.reduceSub, Int.reduceNeg, Bool.not_true, Bool.not_false, Bool.not_not, ↓reduceIte, Nat.reduceAdd, Nat.reduceSub, Nat.reduceMul, Nat.reduceEqDiff, reduceCtorEq, Nat.reduceLT, Nat.reduceLeDiff, Nat.reduceGT]; exact rfl); (case ht1 => simp only [go_sem, Int.reduceToNat, Nat.min_eq_left, Nat.min_eq_right, Int.reducePow, Nat.reducePow, Int.reduceLE, Int.reduceLT, Int.reduceMul, Int.reduceAdd, Int.reduceSub, Int.reduceNeg, Bool.not_true, Bool.not_false, Bool.not_not, ↓reduceIte, Nat.reduceAdd, Nat.reduceSub, Nat.reduceMul, Nat.reduceEqDiff, reduceCtorEq, Nat.reduceLT, Nat.reduceLeDiff, Nat.reduceGT]; exact rfl); (case' LH1 => rintro k E t hx hE ht; simp only [go_sem] at ht; subst ht; simp only [go_sem]; try dsimp only at hx))
  case hi => exact Nat.zero_le _
  case h0 =>
    (focus (refine ⟨_, _, Gh.refl, [0, 1, 2, 3, 4], rfl, ?_⟩; (refine ⟨?_, ?_, ?_⟩ <;> simp only [go_sem, List.range, List.range.loop, List.nodup_cons, List.nodup_nil, List.mem_cons, List.not_mem_nil, or_false, or_self, Int.reduceToNat, Nat.min_eq_left, Nat.min_eq_right, Int.reducePow, Nat.reducePow, Int.reduceLE, Int.reduceLT, Int.reduceMul, Int.reduceAdd, Int.reduceSub, Int.reduceNeg, Bool.not_true, Bool.not_false, Bool.not_not, ↓reduceIte, Nat.reduceAdd, Nat.reduceSub, Nat.reduceMul, Nat.reduceEqDiff, reduceCtorEq, Nat.reduceLT, Nat.reduceLeDiff, Nat.reduceGT]); (try any_goals (refine ⟨?_, ?_⟩)); (try any_goals (with_reducible rfl))))
    rw [Nat.sub_zero]
  case LH1 =>
    have htl : (c.sides.take k).length = k := by rw [List.length_take]; omega
    by_cases hk : k < c.sides.length
    · have hkd : decide ((0 : Int) < ((c.sides.length - k : Nat) : Int)) = true := decide_eq_true (by omega)
      have hsk := sides_at hS hk
      have hsn := side_ne hsk
      have w2 : IntKind.i64.wrap ((c.sides.getD k 0).toNat : Int) = c.sides.getD k 0 := by rw [wrap_i64 _ (by omega) (by omega)]; omega
      have w3 : IntKind.i64.wrap (((c.sides.length - k : Nat) : Int) - 1) = ((c.sides.length - (k + 1) : Nat) : Int) := by unfold ckB at hB; rw [wrap_i64 _ (by omega) (by omega)]; omega
      have e7 : uintR (some ((c.sides.drop k).flatMap sideE ++ r7)) 1 = ((c.sides.getD k 0).toNat, some ((c.sides.drop (k + 1)).flatMap sideE ++ r7)) := by
        rw [int_drop hk, List.flatMap_cons, List.append_assoc]
        exact sideE_one hsk _
      (have zx1 := @hkd; have zx2 := @w2; have zx3 := @w3; have zx4 := @htl; have zx5 := @Fd_some; all_goals (try ((first | (with_reducible refine wp_id ?_) | (with_reducible refine does_id ?_)); refine walk ?_; (repeat' (first | exact trivial | with_reducible refine And.intro ?_ ?_)); all_goals (repeat (first | (with_reducible refine ImpB.mk fun hb => ?_) | (with_reducible refine ImpK.mk fun hK => ?_) | (with_reducible refine ImpF.mk fun hF => ?_) | (with_reducible refine AllK.mk fun K => ?_))))); repeat' (with_reducible refine And.intro ?_ ?_))
      all_goals first | exact Int.natCast_nonneg _ | omega | skip
      refine ⟨k + 1, ⟨by first | omega | (dsimp only; omega), by first | omega | (dsimp only; omega)⟩, ?m1⟩
      simp only [int_take hk]
      (focus (refine ⟨_, _, Gh.refl, [0, 1, 2, 6, 4], rfl, ?_⟩; (refine ⟨?_, ?_, ?_⟩ <;> simp only [go_sem, List.range, List.range.loop, List.nodup_cons, List.nodup_nil, List.mem_cons, List.not_mem_nil, or_false, or_self, Int.reduceToNat, Nat.min_eq_left, Nat.min_eq_right, Int.reducePow, Nat.reducePow, Int.reduceLE, Int.reduceLT, Int.reduceMul, Int.reduceAdd, Int.reduceSub, Int.reduceNeg, Bool.not_true, Bool.not_false, Bool.not_not, ↓reduceIte, Nat.reduceAdd, Nat.reduceSub, Nat.reduceMul, Nat.reduceEqDiff, reduceCtorEq, Nat.reduceLT, Nat.reduceLeDiff, Nat.reduceGT]); (try any_goals (refine ⟨?_, ?_⟩)); (try any_goals (with_reducible rfl))))
      rfl
    · have hk2 : k = c.sides.length := by omega
      have hkd : decide ((0 : Int) < ((c.sides.length - c.sides.length : Nat) : Int)) = false := by simp
      rw [hk2, List.drop_length, List.flatMap_nil, List.nil_append, List.take_length]
      clear hx htl
      (have zx1 := @hkd; have zx2 := @Fd_some; all_goals (try ((first | (with_reducible refine wp_id ?_) | (with_reducible refine does_id ?_)); refine walk ?_; (repeat' (first | exact trivial | with_reducible refine And.intro ?_ ?_)); all_goals (repeat (first | (with_reducible refine ImpB.mk fun hb => ?_) | (with_reducible refine ImpK.mk fun hK => ?_) | (with_reducible refine ImpF.mk fun hF => ?_) | (with_reducible refine AllK.mk fun K => ?_))))); repeat' (with_reducible refine And.intro ?_ ?_))
      rw [p.e9]
      any_goals (refine w_loop (A := Nat) (fun i => i ≤ c.done.length) (fun i => c.done.length - i) (fun i => [(9, .int .i64 ((c.done.length - i : Nat) : Int))]) (fun i => [(1, .pack (Fd (some ((c.done.drop i).flatMap fidE ++ r9)))), (2, .cells [.int .i64 c.boots, .int .i64 c.mode, .int .i64 c.time, .ro .byte c.led, .ro .ent c.ents, .sl 3 .int 0 c.sides.length, .sl 4 .fid 0 i, .int .i64 0]), (3, .rows .int c.sides), (4, .rows .fid (c.done.take i))]) (0) (ws := ?ws2) (tk := ?tk2) ?hw2 ?ht2 ?hi_1 ?h0_1 ?LH2; (case hw2 => simp only [go_sem, Int.reduceToNat, Nat.min_eq_left, Nat.min_eq_right, Int.reducePow, Nat.reducePow, Int.reduceLE, Int.reduceLT, Int.reduceMul, Int.reduceAdd, Int.reduceSub, Int.reduceNeg, Bool.not_true, Bool.not_false, Bool.not_not, ↓reduceIte, Nat.reduceAdd, Nat.reduceSub, Nat.reduceMul, Nat.reduceEqDiff, reduceCtorEq, Nat.reduceLT, Nat.reduceLeDiff, Nat.reduceGT]; exact rfl); (case ht2 => simp only [go_sem, Int.reduceToNat, Nat.min_eq_left, Nat.min_eq_right, Int.reducePow, Nat.reducePow, Int.reduceLE, Int.reduceLT, Int.reduceMul, Int.reduceAdd, Int.reduceSub, Int.reduceNeg, Bool.not_true, Bool.not_false, Bool.not_not, ↓reduceIte, Nat.reduceAdd, Nat.reduceSub, Nat.reduceMul, Nat.reduceEqDiff, reduceCtorEq, Nat.reduceLT, Nat.reduceLeDiff, Nat.reduceGT]; exact rfl); (case' LH2 => rintro i E t hx hE ht; simp only [go_sem] at ht; subst ht; simp only [go_sem]; try dsimp only at hx))
      case hi_1 => exact Nat.zero_le _
      case h0_1 =>
        (focus (refine ⟨_, _, Gh.refl, [0, 1, 2, 3, 4], rfl, ?_⟩; (refine ⟨?_, ?_, ?_⟩ <;> simp only [go_sem, List.range, List.range.loop, List.nodup_cons, List.nodup_nil, List.mem_cons, List.not_mem_nil, or_false, or_self, Int.reduceToNat, Nat.min_eq_left, Nat.min_eq_right, Int.reducePow, Nat.reducePow, Int.reduceLE, Int.reduceLT, Int.reduceMul, Int.reduceAdd, Int.reduceSub, Int.reduceNeg, Bool.not_true, Bool.not_false, Bool.not_not, ↓reduceIte, Nat.reduceAdd, Nat.reduceSub, Nat.reduceMul, Nat.reduceEqDiff, reduceCtorEq, Nat.reduceLT, Nat.reduceLeDiff, Nat.reduceGT]); (try any_goals (refine ⟨?_, ?_⟩)); (try any_goals (with_reducible rfl))))
        all_goals first | rfl | rw [Nat.sub_zero]
      case LH2 =>
        have htl : (c.done.take i).length = i := by rw [List.length_take]; omega
        by_cases hi : i < c.done.length
        · have hid : decide ((0 : Int) < ((c.done.length - i : Nat) : Int)) = true := decide_eq_true (by omega)
          have hfi := fids_at hF hi
          have hfb : fidB (c.done.getD i Fid.zero) = true := by simp only [fidB, Bool.and_eq_true, decide_eq_true_eq]; omega
          have w3 : IntKind.i64.wrap ((c.done.getD i Fid.zero).src.toNat : Int) = (c.done.getD i Fid.zero).src := by rw [wrap_i64 _ (by omega) (by omega)]; omega
          have w4 : IntKind.i64.wrap ((c.done.getD i Fid.zero).num.toNat : Int) = (c.done.getD i Fid.zero).num := by rw [wrap_i64 _ (by omega) (by omega)]; omega
          have w5 : IntKind.i64.wrap (((c.done.length - i : Nat) : Int) - 1) = ((c.done.length - (i + 1) : Nat) : Int) := by unfold ckB at hB; rw [wrap_i64 _ (by omega) (by omega)]; omega
          obtain ⟨f1, f2⟩ := fidE_two hfb ((c.done.drop (i + 1)).flatMap fidE ++ r9)
          rw [← List.append_assoc, show fidE (c.done.getD i Fid.zero) ++ (c.done.drop (i + 1)).flatMap fidE = (c.done.drop i).flatMap fidE from by rw [fid_drop hi, List.flatMap_cons]] at f1
          (have zx1 := @hid; have zx2 := @w3; have zx3 := @w4; have zx4 := @w5; have zx5 := @htl; have zx6 := @Fd_some; all_goals (try ((first | (with_reducible refine wp_id ?_) | (with_reducible refine does_id ?_)); refine walk ?_; (repeat' (first | exact trivial | with_reducible refine And.intro ?_ ?_)); all_goals (repeat (first | (with_reducible refine ImpB.mk fun hb => ?_) | (with_reducible refine ImpK.mk fun hK => ?_) | (with_reducible refine ImpF.mk fun hF => ?_) | (with_reducible refine AllK.mk fun K => ?_))))); repeat' (with_reducible refine And.intro ?_ ?_))
          all_goals first | exact Int.natCast_nonneg _ | omega | skip
          refine ⟨i + 1, ⟨by first | omega | (dsimp only; omega), by first | omega | (dsimp only; omega)⟩, ?m2⟩
          simp only [fid_take hi]
          (focus (refine ⟨_, _, Gh.refl, [0, 1, 2, 3, 6], rfl, ?_⟩; (refine ⟨?_, ?_, ?_⟩ <;> simp only [go_sem, List.range, List.range.loop, List.nodup_cons, List.nodup_nil, List.mem_cons, List.not_mem_nil, or_false, or_self, Int.reduceToNat, Nat.min_eq_left, Nat.min_eq_right, Int.reducePow, Nat.reducePow, Int.reduceLE, Int.reduceLT, Int.reduceMul, Int.reduceAdd, Int.reduceSub, Int.reduceNeg, Bool.not_true, Bool.not_false, Bool.not_not, ↓reduceIte, Nat.reduceAdd, Nat.reduceSub, Nat.reduceMul, Nat.reduceEqDiff, reduceCtorEq, Nat.reduceLT, Nat.reduceLeDiff, Nat.reduceGT]); (try any_goals (refine ⟨?_, ?_⟩)); (try any_goals (with_reducible rfl))))
          rfl
        · have hid : decide ((0 : Int) < ((c.done.length - c.done.length : Nat) : Int)) = false := by simp
          have hi2 : i = c.done.length := by omega
          rw [hi2, List.drop_length, List.flatMap_nil, List.nil_append, List.take_length]
          clear hx htl
          (have zx1 := @hid; have zx2 := @hv'; have zx3 := @heta; have zx4 := @Fd_some; have zx5 := @decide_true; all_goals (try ((first | (with_reducible refine wp_id ?_) | (with_reducible refine does_id ?_)); refine walk ?_; (repeat' (first | exact trivial | with_reducible refine And.intro ?_ ?_)); all_goals (repeat (first | (with_reducible refine ImpB.mk fun hb => ?_) | (with_reducible refine ImpK.mk fun hK => ?_) | (with_reducible refine ImpF.mk fun hF => ?_) | (with_reducible refine AllK.mk fun K => ?_))))); repeat' (with_reducible refine And.intro ?_ ?_))
          · exfalso; simp at hb
          · exfalso; simp at hb
          · exfalso; simp at hb
          · refine ⟨_, _, (gh_frz (t := 3) (e := .int) (xs := c.sides) rfl ?f1 ?f2).trans (gh_frz (t := 4) (e := .fid) (xs := c.done) rfl ?f3 ?f4), [], rfl, ?ft⟩
            case' ft => (refine ⟨?_, ?_, ?_⟩ <;> simp only [go_sem, List.range, List.range.loop, List.nodup_cons, List.nodup_nil, List.mem_cons, List.not_mem_nil, or_false, or_self, Int.reduceToNat, Nat.min_eq_left, Nat.min_eq_right, Int.reducePow, Nat.reducePow, Int.reduceLE, Int.reduceLT, Int.reduceMul, Int.reduceAdd, Int.reduceSub, Int.reduceNeg, Bool.not_true, Bool.not_false, Bool.not_not, ↓reduceIte, Nat.reduceAdd, Nat.reduceSub, Nat.reduceMul, Nat.reduceEqDiff, reduceCtorEq, Nat.reduceLT, Nat.reduceLeDiff, Nat.reduceGT])
            case' f1 => simp only [go_sem, Int.reduceToNat, Nat.min_eq_left, Nat.min_eq_right, Int.reducePow, Nat.reducePow, Int.reduceLE, Int.reduceLT, Int.reduceMul, Int.reduceAdd, Int.reduceSub, Int.reduceNeg, Bool.not_true, Bool.not_false, Bool.not_not, ↓reduceIte, Nat.reduceAdd, Nat.reduceSub, Nat.reduceMul, Nat.reduceEqDiff, reduceCtorEq, Nat.reduceLT, Nat.reduceLeDiff, Nat.reduceGT]
            case' f2 => simp only [go_sem, Int.reduceToNat, Nat.min_eq_left, Nat.min_eq_right, Int.reducePow, Nat.reducePow, Int.reduceLE, Int.reduceLT, Int.reduceMul, Int.reduceAdd, Int.reduceSub, Int.reduceNeg, Bool.not_true, Bool.not_false, Bool.not_not, ↓reduceIte, Nat.reduceAdd, Nat.reduceSub, Nat.reduceMul, Nat.reduceEqDiff, reduceCtorEq, Nat.reduceLT, Nat.reduceLeDiff, Nat.reduceGT]
            case' f3 => simp only [go_sem, Int.reduceToNat, Nat.min_eq_left, Nat.min_eq_right, Int.reducePow, Nat.reducePow, Int.reduceLE, Int.reduceLT, Int.reduceMul, Int.reduceAdd, Int.reduceSub, Int.reduceNeg, Bool.not_true, Bool.not_false, Bool.not_not, ↓reduceIte, Nat.reduceAdd, Nat.reduceSub, Nat.reduceMul, Nat.reduceEqDiff, reduceCtorEq, Nat.reduceLT, Nat.reduceLeDiff, Nat.reduceGT]
            case' f4 => simp only [go_sem, Int.reduceToNat, Nat.min_eq_left, Nat.min_eq_right, Int.reducePow, Nat.reducePow, Int.reduceLE, Int.reduceLT, Int.reduceMul, Int.reduceAdd, Int.reduceSub, Int.reduceNeg, Bool.not_true, Bool.not_false, Bool.not_not, ↓reduceIte, Nat.reduceAdd, Nat.reduceSub, Nat.reduceMul, Nat.reduceEqDiff, reduceCtorEq, Nat.reduceLT, Nat.reduceLeDiff, Nat.reduceGT]
            all_goals first | exact Nat.le_refl _ | exact ⟨Nat.le_refl _, False.elim⟩ | trace_state
          · exact Nat.le_refl _
theorem c_fdecT {h : List Ch} {K : KT} {c : Ck} {b : List UInt8} {a : AV} (H : K (.tup [.agg (ckL c), .bool true]) h) (q1 : isRO .byte b a) (e1 : encK c = b ∧ ckV c = true ∧ CkS c) (s1 : b.length ≤ 1000000) : Does Try.prog 14 [a] h K := by
  obtain ⟨rfl, hv, hs⟩ := e1
  exact frame_pure (b_fdecT c hs hv s1) (br_cons q1.br br_nil) (.inl (by rw [brTL, q1.brT]; rfl)) (fun _ => rfl) H
abbrev i_fdecT := Ctr.mk (i := 0) (g := 14) @c_fdecT
attribute [instance] i_fdecT
end Go.V

set_option maxRecDepth 100000
set_option maxHeartbeats 20000000
namespace Go.V
open Go.Proofs
attribute [-go_sem] Wr
/-- a Reader of the reference, one way for both cases -/
def FdG (r : Option (List UInt8)) : List Ch := [.cells [.ro .byte (r.getD []), .bool r.isNone]]
theorem Fd_eq (r : Option (List UInt8)) : Fd r = FdG r := by cases r <;> rfl
theorem c_frcount_g {h : List Ch} {K : KT} {t : Nat} {r : Option (List UInt8)} {most : Int} {n : Int} {r' : Option (List UInt8)} (H : K (.int .i64 n) (h.set t (.pack (FdG r')))) (o : hth h t = .pack (FdG r)) (e : countR r most = (n, r')) (s1 : lenR r ≤ 1099511627776) : Does Try.prog 44 [.ptr t 0, .int .i64 most] h K :=
  c_frcount (r := r) (by rw [Fd_eq]; exact H) (o.trans (by rw [Fd_eq])) e s1
abbrev i_frcount_g := Ctr.mk (i := 3) (g := 44) @c_frcount_g
attribute [instance] i_frcount_g
theorem c_frint_g {h : List Ch} {K : KT} {t : Nat} {r : Option (List UInt8)} {n : Int} {r' : Option (List UInt8)} (H : K (.int .i64 n) (h.set t (.pack (FdG r')))) (o : hth h t = .pack (FdG r)) (e : intR r = (n, r')) (s1 : lenR r ≤ 1099511627776) : Does Try.prog 40 [.ptr t 0] h K :=
  c_frint (r := r) (by rw [Fd_eq]; exact H) (o.trans (by rw [Fd_eq])) e s1
abbrev i_frint_g := Ctr.mk (i := 3) (g := 40) @c_frint_g
attribute [instance] i_frint_g
theorem c_fruint_g {h : List Ch} {K : KT} {t : Nat} {r : Option (List UInt8)} {n : Nat} {r' : Option (List UInt8)} (H : K (.int .u64 n) (h.set t (.pack (FdG r')))) (o : hth h t = .pack (FdG r)) (e : uintR r 1 = (n, r')) : Does Try.prog 41 [.ptr t 0, .int .i64 1] h K := -- nocall
  c_fruint (r := r) (size := 1) (by rw [Fd_eq]; exact H) (o.trans (by rw [Fd_eq])) e (by decide) (by decide)
theorem c_fruint_g2 {h : List Ch} {K : KT} {t : Nat} {r : Option (List UInt8)} {n : Nat} {r' : Option (List UInt8)} (H : K (.int .u64 n) (h.set t (.pack (FdG r')))) (o : hth h t = .pack (FdG r)) (e : uintR r 2 = (n, r')) : Does Try.prog 41 [.ptr t 0, .int .i64 2] h K := -- nocall
  c_fruint (r := r) (size := 2) (by rw [Fd_eq]; exact H) (o.trans (by rw [Fd_eq])) e (by decide) (by decide)
abbrev i_fruint_g := Ctr.mk (i := 5) (g := 41) @c_fruint_g
attribute [instance] i_fruint_g
abbrev i_fruint_g2 := Ctr.mk (i := 4) (g := 41) @c_fruint_g2
attribute [instance] i_fruint_g2
attribute [local go_sem] FdG
theorem b_fdecF (b : List UInt8) (hno : noK b) (hb : b.length ≤ 1000000) : DoesK Try.prog 0 14 [.ro .byte b] [] (EndF 0 (.tup [.agg [.int .i64 0, .int .i64 0, .int .i64 0, .lit (.slice none 0 0), .lit (.slice none 0 0), .lit (.slice none 0 0), .lit (.slice none 0 0), .int .i64 0], .bool false]) []) := by
  refine DoesK.close ?_
  have lb : lenR (some b) = b.length := rfl
  have h1 := intR_len (some b)
  rcases e1 : intR (some b) with ⟨i1, r1⟩
  have h2 := uintR_lenR r1 1
  have hb2 := uintR_bd r1 1
  rcases e2 : uintR r1 1 with ⟨m, r2⟩
  have h3 := intR_len r2
  rcases e3 : intR r2 with ⟨i3, r3⟩
  have h4 := blobR_lens r3 160
  rcases e4 : blobR r3 160 with ⟨d4, r4⟩
  have h5 := blobR_lens r4 b.length
  rcases e5 : blobR r4 b.length with ⟨d5, r5⟩
  have h6 := countR_len r5 256
  have h6' := countR_le (r := r5) (m := 256) (by decide)
  rcases e6 : countR r5 256 with ⟨n6, r6⟩
  rw [e1] at h1
  rw [e2] at h2 hb2
  rw [e3] at h3
  rw [e4] at h4
  rw [e5] at h5
  rw [e6] at h6 h6'
  simp only [lb] at h1 h2 h3 h4 h5 h6 hb2 h6'
  have w1 : IntKind.i64.wrap (m : Int) = (m : Int) := by rw [wrap_i64 _ (by omega) (by omega)]
  have l0 : b.length ≤ 1099511627776 := by omega
  have l1 : lenR r1 ≤ 1099511627776 := by omega
  have l2 : lenR r2 ≤ 1099511627776 := by omega
  have l3 : lenR r3 ≤ 1099511627776 := by omega
  have l4 : lenR r4 ≤ 1099511627776 := by omega
  have l5 : lenR r5 ≤ 1099511627776 := by omega
  have hbe : d5.length ≤ 1000000 := by omega
  obtain ⟨l, er, hd, hl1, hl2⟩ : ∃ (l : List Ent) (er : Int), sdecA (decE d5) = .tup [.ro .ent l, .int .i64 er] ∧ l.length ≤ 256 ∧ litE l := by
    cases hd : decE d5 with
    | none => exact ⟨[], 4, rfl, Nat.zero_le _, fun x hx => by cases hx⟩
    | some l => exact ⟨l, 0, rfl, decE_some hd⟩
  refine w_body (rs := [.cell 2 27, .tmp 3]) (tm := [.ro .byte b, .any, .any, .any, .any, .any, .any, .any, .any, .any, .any, .any, .any, .any, .any, .any, .any, .any, .any, .any, .any, .any, .any, .any, .any, .any, .any, .any, .any, .any, .any, .any, .any, .any, .any, .any, .any, .any, .any, .any, .any, .any, .any, .any, .any, .any, .any, .any, .any, .any, .any, .any, .any, .any, .any, .any, .any, .any, .any, .any, .any, .any, .any, .any, .any, .any, .any, .any, .any, .any, .any, .any, .any, .any, .any, .any, .any, .any, .any, .any, .any, .any, .any, .any, .any, .any, .any, .any, .any, .any, .any, .any, .any, .any, .any, .any, .any, .any, .any, .any, .any, .any, .any, .any, .any, .any, .any, .any, .any, .any, .any, .any, .any]) fn_14 rfl rfl rfl rfl fun R hR => ?_
  (have zx1 := @w1; have zx2 := @hd; all_goals (try ((first | (with_reducible refine wp_id ?_) | (with_reducible refine does_id ?_)); refine walk ?_; (repeat' (first | exact trivial | with_reducible refine And.intro ?_ ?_)); all_goals (repeat (first | (with_reducible refine ImpB.mk fun hb => ?_) | (with_reducible refine ImpK.mk fun hK => ?_) | (with_reducible refine ImpF.mk fun hF => ?_) | (with_reducible refine AllK.mk fun K => ?_))))); repeat' (with_reducible refine And.intro ?_ ?_))
  refine Wp.ghost (gh_adoptC (t := 2) (i := 5) (vs := [.int .i64 i1, .int .i64 m, .int .i64 i3, .ro .byte d4, .ro .ent l, .lit (.slice none 0 0), .lit (.slice none 0 0), .int .i64 0]) .int rfl trivial) ?_
  refine Wp.ghost (gh_adoptC (t := 2) (i := 6) (vs := [.int .i64 i1, .int .i64 m, .int .i64 i3, .ro .byte d4, .ro .ent l, .sl 3 .int 0 0, .lit (.slice none 0 0), .int .i64 0]) .fid rfl trivial) ?_
  rw [Fd_eq]
  any_goals (refine w_loop (A := List Int × Option (List UInt8)) (fun p => (p.1.length : Int) ≤ n6.toNat ∧ lenR p.2 ≤ 1000000) (fun p => n6.toNat - p.1.length) (fun p => [(8, .int .i64 (n6 - p.1.length)), (28, .any)]) (fun p => [(1, .pack (FdG p.2)), (2, .cells [.int .i64 i1, .int .i64 m, .int .i64 i3, .ro .byte d4, .ro .ent l, .sl 3 .int 0 p.1.length, .sl 4 .fid 0 0, .int .i64 0]), (3, .rows .int p.1), (4, .rows .fid [])]) (([], r6)) (ws := ?ws1) (tk := ?tk1) ?hw1 ?ht1 ?hi ?h0 ?LH1; (case hw1 => simp only [go_sem, Int.reduceToNat, Nat.min_eq_left, Nat.min_eq_right, Int.reducePow, Nat.reducePow, Int.reduceLE, Int.reduceLT, Int.reduceMul, Int.reduceAdd, Int.reduceSub, Int.reduceNeg, Bool.not_true, Bool.not_false, Bool.not_not, ↓reduceIte, Nat.reduceAdd, Nat.reduceSub, Nat.reduceMul, Nat.reduceEqDiff, reduceCtorEq, Nat.reduceLT, Nat.reduceLeDiff, Nat.reduceGT]; exact rfl); (case ht1 => simp only [go_sem, Int.reduceToNat, Nat.min_eq_left, Nat.min_eq_right, Int.reducePow, Nat.reducePow, Int.reduceLE, Int.reduceLT, Int.reduceMul, Int.reduceAdd, Int.reduceSub, Int.reduceNeg, Bool.not_true, Bool.not_false, Bool.not_not, ↓reduceIte, Nat.reduceAdd, Nat.reduceSub, Nat.reduceMul, Nat.reduceEqDiff, reduceCtorEq, Nat.reduceLT, Nat.reduceLeDiff, Nat.reduceGT]; exact rfl); (case' LH1 => rintro ⟨ys, r⟩ E t hx hE ht; simp only [go_sem] at ht; subst ht; simp only [go_sem]; try dsimp only at hx))
  case hi => exact ⟨by dsimp only [List.length_nil]; omega, by dsimp only; omega⟩
  case h0 =>
    (focus (refine ⟨_, _, Gh.refl, [0, 1, 2, 3, 4], rfl, ?_⟩; (refine ⟨?_, ?_, ?_⟩ <;> simp only [go_sem, List.range, List.range.loop, List.nodup_cons, List.nodup_nil, List.mem_cons, List.not_mem_nil, or_false, or_self, Int.reduceToNat, Nat.min_eq_left, Nat.min_eq_right, Int.reducePow, Nat.reducePow, Int.reduceLE, Int.reduceLT, Int.reduceMul, Int.reduceAdd, Int.reduceSub, Int.reduceNeg, Bool.not_true, Bool.not_false, Bool.not_not, ↓reduceIte, Nat.reduceAdd, Nat.reduceSub, Nat.reduceMul, Nat.reduceEqDiff, reduceCtorEq, Nat.reduceLT, Nat.reduceLeDiff, Nat.reduceGT]); (try any_goals (refine ⟨?_, ?_⟩)); (try any_goals (with_reducible rfl))))
    simp
  case LH1 =>
    have hrl := hx.2
    have hyl := hx.1
    try simp only at hrl hyl
    clear hx
    have h7 := uintR_lenR r 1
    have h7b := uintR_bd r 1
    rcases e7 : uintR r 1 with ⟨x, q⟩
    rw [e7] at h7 h7b
    simp only at h7 h7b
    have w2 : IntKind.i64.wrap (x : Int) = (x : Int) := by rw [wrap_i64 _ (by omega) (by omega)]
    have h8 := countR_len r 256
    have h8' := countR_le (r := r) (m := 256) (by decide)
    rcases e8 : countR r 256 with ⟨n8, r8⟩
    rw [e8] at h8 h8'
    simp only at h8 h8'
    have l7 : lenR r ≤ 1099511627776 := by omega
    by_cases hk : (ys.length : Int) < n6.toNat ∧ r.isNone = false
    · have hkd : decide ((0 : Int) < n6 - ys.length) = true := decide_eq_true (by omega)
      obtain ⟨hk, hrn⟩ := hk
      have hrn2 : (!r.isNone) = true := by rw [hrn]; rfl
      (have zx1 := @hkd; have zx2 := @w2; have zx3 := @hrn2; all_goals (try ((first | (with_reducible refine wp_id ?_) | (with_reducible refine does_id ?_)); refine walk ?_; (repeat' (first | exact trivial | with_reducible refine And.intro ?_ ?_)); all_goals (repeat (first | (with_reducible refine ImpB.mk fun hb => ?_) | (with_reducible refine ImpK.mk fun hK => ?_) | (with_reducible refine ImpF.mk fun hF => ?_) | (with_reducible refine AllK.mk fun K => ?_))))); repeat' (with_reducible refine And.intro ?_ ?_))
      all_goals first | exact Int.natCast_nonneg _ | omega | skip
      refine ⟨(ys ++ [(x : Int)], q), ⟨⟨by simp only [List.length_append, List.length_cons, List.length_nil]; omega, by dsimp only; omega⟩, by simp only [List.length_append, List.length_cons, List.length_nil]; omega⟩, ?m1⟩
      (focus (refine ⟨_, _, Gh.refl, [0, 1, 2, 6, 4], rfl, ?_⟩; (refine ⟨?_, ?_, ?_⟩ <;> simp only [go_sem, List.range, List.range.loop, List.nodup_cons, List.nodup_nil, List.mem_cons, List.not_mem_nil, or_false, or_self, Int.reduceToNat, Nat.min_eq_left, Nat.min_eq_right, Int.reducePow, Nat.reducePow, Int.reduceLE, Int.reduceLT, Int.reduceMul, Int.reduceAdd, Int.reduceSub, Int.reduceNeg, Bool.not_true, Bool.not_false, Bool.not_not, ↓reduceIte, Nat.reduceAdd, Nat.reduceSub, Nat.reduceMul, Nat.reduceEqDiff, reduceCtorEq, Nat.reduceLT, Nat.reduceLeDiff, Nat.reduceGT]); (try any_goals (refine ⟨?_, ?_⟩)); (try any_goals (with_reducible rfl))))
      all_goals first | (first | with_reducible rfl | omega | ((simp (disch := omega) only [wrap_i64]); first | done | omega) | (simp only [List.append_assoc, List.cons_append, List.nil_append]; done)) | (simp only [List.length_append, List.length_cons, List.length_nil]; first | done | omega | (rw [wrap_i64 _ (by omega) (by omega)]; omega)) | trace_state
    · have hex : decide ((0 : Int) < n6 - ys.length) = false ∨ r.isNone = true := by
        cases hr : r.isNone
        · left
          rw [decide_eq_false_iff_not]
          intro hh
          exact hk ⟨by omega, hr⟩
        · right; rfl
      have hB : ∀ (Q : Prop), (decide ((0 : Int) < n6 - ys.length) = false → Q) → (decide ((0 : Int) < n6 - ys.length) = true → r.isNone = true → Q) → Q := by
        intro Q q1 q2
        cases hd : decide ((0 : Int) < n6 - ys.length)
        · exact q1 hd
        · refine q2 hd (hex.resolve_left (by rw [hd]; decide))
      refine hB _ (fun hkd => ?_) (fun hkd hrn => ?_)
      · (have zx1 := @hkd; all_goals (try ((first | (with_reducible refine wp_id ?_) | (with_reducible refine does_id ?_)); refine walk ?_; (repeat' (first | exact trivial | with_reducible refine And.intro ?_ ?_)); all_goals (repeat (first | (with_reducible refine ImpB.mk fun hb => ?_) | (with_reducible refine ImpK.mk fun hK => ?_) | (with_reducible refine ImpF.mk fun hF => ?_) | (with_reducible refine AllK.mk fun K => ?_))))); repeat' (with_reducible refine And.intro ?_ ?_))
        any_goals (refine w_loop (A := List Fid × Option (List UInt8)) (fun p => (p.1.length : Int) ≤ n8.toNat ∧ lenR p.2 ≤ 1000000) (fun p => n8.toNat - p.1.length) (fun p => [(9, .int .i64 (n8 - p.1.length))]) (fun p => [(1, .pack (FdG p.2)), (2, .cells [.int .i64 i1, .int .i64 m, .int .i64 i3, .ro .byte d4, .ro .ent l, .sl 3 .int 0 ys.length, .sl 4 .fid 0 p.1.length, .int .i64 0]), (3, .rows .int ys), (4, .rows .fid p.1)]) (([], r8)) (ws := ?ws2) (tk := ?tk2) ?hw2 ?ht2 ?hi_1 ?h0_1 ?LH2; (case hw2 => simp only [go_sem, Int.reduceToNat, Nat.min_eq_left, Nat.min_eq_right, Int.reducePow, Nat.reducePow, Int.reduceLE, Int.reduceLT, Int.reduceMul, Int.reduceAdd, Int.reduceSub, Int.reduceNeg, Bool.not_true, Bool.not_false, Bool.not_not, ↓reduceIte, Nat.reduceAdd, Nat.reduceSub, Nat.reduceMul, Nat.reduceEqDiff, reduceCtorEq, Nat.reduceLT, Nat.reduceLeDiff, Nat.reduceGT]; exact rfl); (case ht2 => simp only [go_sem, Int.reduceToNat, Nat.min_eq_left, Nat.min_eq_right, Int.reducePow, Nat.reducePow, Int.reduceLE, Int.reduceLT, Int.reduceMul, Int.reduceAdd, Int.reduceSub, Int.reduceNeg, Bool.not_true, Bool.not_false, Bool.not_not, ↓reduceIte, Nat.reduceAdd, Nat.reduceSub, Nat.reduceMul, Nat.reduceEqDiff, reduceCtorEq, Nat.reduceLT, Nat.reduceLeDiff, Nat.reduceGT]; exact rfl); (case' LH2 => rintro ⟨fs, r'⟩ E t hx hE ht; simp only [go_sem] at ht; subst ht; simp only [go_sem]; try dsimp only at hx))
        case hi_1 => exact ⟨by dsimp only [List.length_nil]; omega, by dsimp only; omega⟩
        case h0_1 =>
          (focus (refine ⟨_, _, Gh.refl, [0, 1, 2, 3, 4], rfl, ?_⟩; (refine ⟨?_, ?_, ?_⟩ <;> simp only [go_sem, List.range, List.range.loop, List.nodup_cons, List.nodup_nil, List.mem_cons, List.not_mem_nil, or_false, or_self, Int.reduceToNat, Nat.min_eq_left, Nat.min_eq_right, Int.reducePow, Nat.reducePow, Int.reduceLE, Int.reduceLT, Int.reduceMul, Int.reduceAdd, Int.reduceSub, Int.reduceNeg, Bool.not_true, Bool.not_false, Bool.not_not, ↓reduceIte, Nat.reduceAdd, Nat.reduceSub, Nat.reduceMul, Nat.reduceEqDiff, reduceCtorEq, Nat.reduceLT, Nat.reduceLeDiff, Nat.reduceGT]); (try any_goals (refine ⟨?_, ?_⟩)); (try any_goals (with_reducible rfl))))
          all_goals first | rfl | (simp; done) | trace_state
        case LH2 =>
          have hrl' := hx.2
          have hfl := hx.1
          try simp only at hrl' hfl
          clear hx
          have h9 := uintR_lenR r' 1
          have h9b := uintR_bd r' 1
          rcases e9 : uintR r' 1 with ⟨x9, q9⟩
          have ha := uintR_lenR q9 2
          have hab := uintR_bd q9 2
          rcases ea : uintR q9 2 with ⟨y, q2⟩
          rw [e9] at h9 h9b
          rw [ea] at ha hab
          simp only at h9 h9b ha hab
          have w3 : IntKind.i64.wrap (x9 : Int) = (x9 : Int) := by rw [wrap_i64 _ (by omega) (by omega)]
          have w4 : IntKind.i64.wrap (y : Int) = (y : Int) := by rw [wrap_i64 _ (by omega) (by omega)]
          have hb0 := intR_len r'
          rcases eb : intR r' with ⟨ib, rb⟩
          have l9 : lenR r' ≤ 1099511627776 := by omega
          have hcs : CkS ⟨i1, m, i3, d4, l, ys, fs, ib⟩ := ⟨by dsimp only; omega, by dsimp only; omega, hl2, by dsimp only; omega, by dsimp only; omega⟩
          by_cases hi : (fs.length : Int) < n8.toNat ∧ r'.isNone = false
          · have hid : decide ((0 : Int) < n8 - fs.length) = true := decide_eq_true (by omega)
            obtain ⟨hi, hrn⟩ := hi
            have hrn2 : (!r'.isNone) = true := by rw [hrn]; rfl
            (have zx1 := @hid; have zx2 := @w3; have zx3 := @w4; have zx4 := @hrn2; all_goals (try ((first | (with_reducible refine wp_id ?_) | (with_reducible refine does_id ?_)); refine walk ?_; (repeat' (first | exact trivial | with_reducible refine And.intro ?_ ?_)); all_goals (repeat (first | (with_reducible refine ImpB.mk fun hb => ?_) | (with_reducible refine ImpK.mk fun hK => ?_) | (with_reducible refine ImpF.mk fun hF => ?_) | (with_reducible refine AllK.mk fun K => ?_))))); repeat' (with_reducible refine And.intro ?_ ?_))
            all_goals first | exact Int.natCast_nonneg _ | omega | skip
            refine ⟨(fs ++ [⟨x9, y⟩], q2), ⟨⟨by simp only [List.length_append, List.length_cons, List.length_nil]; omega, by dsimp only; omega⟩, by simp only [List.length_append, List.length_cons, List.length_nil]; omega⟩, ?mA1⟩
            (focus (refine ⟨_, _, Gh.refl, [0, 1, 2, 3, 6], rfl, ?_⟩; (refine ⟨?_, ?_, ?_⟩ <;> simp only [go_sem, List.range, List.range.loop, List.nodup_cons, List.nodup_nil, List.mem_cons, List.not_mem_nil, or_false, or_self, Int.reduceToNat, Nat.min_eq_left, Nat.min_eq_right, Int.reducePow, Nat.reducePow, Int.reduceLE, Int.reduceLT, Int.reduceMul, Int.reduceAdd, Int.reduceSub, Int.reduceNeg, Bool.not_true, Bool.not_false, Bool.not_not, ↓reduceIte, Nat.reduceAdd, Nat.reduceSub, Nat.reduceMul, Nat.reduceEqDiff, reduceCtorEq, Nat.reduceLT, Nat.reduceLeDiff, Nat.reduceGT]); (try any_goals (refine ⟨?_, ?_⟩)); (try any_goals (with_reducible rfl))))
            all_goals first | rfl | (first | with_reducible rfl | omega | ((simp (disch := omega) only [wrap_i64]); first | done | omega) | (simp only [List.append_assoc, List.cons_append, List.nil_append]; done)) | (simp only [List.length_append, List.length_cons, List.length_nil]; first | done | omega | (rw [wrap_i64 _ (by omega) (by omega)]; omega)) | trace_state
          · have hi2 : decide ((0 : Int) < n8 - fs.length) = false ∨ (!r'.isNone) = false := by
              cases hr : r'.isNone
              · left
                rw [decide_eq_false_iff_not]
                intro hh
                exact hi ⟨by omega, hr⟩
              · right; rfl
            have fin : ∀ v, ckV ⟨i1, m, i3, d4, l, ys, fs, ib⟩ = v → (v = true → decide (encK ⟨i1, m, i3, d4, l, ys, fs, ib⟩ = b) = false) := fun v e hv => decide_eq_false (hno _ (e.trans hv))
            cases hv : ckV ⟨i1, m, i3, d4, l, ys, fs, ib⟩
            · (have zx1 := @hv; all_goals (try ((first | (with_reducible refine wp_id ?_) | (with_reducible refine does_id ?_)); refine walk ?_; (repeat' (first | exact trivial | with_reducible refine And.intro ?_ ?_)); all_goals (repeat (first | (with_reducible refine ImpB.mk fun hb => ?_) | (with_reducible refine ImpK.mk fun hK => ?_) | (with_reducible refine ImpF.mk fun hF => ?_) | (with_reducible refine AllK.mk fun K => ?_))))); repeat' (with_reducible refine And.intro ?_ ?_))
              all_goals first | (focus ((focus (refine ⟨_, _, Gh.refl, [], rfl, ?_⟩; (refine ⟨?_, ?_, ?_⟩ <;> simp only [go_sem, List.range, List.range.loop, List.nodup_cons, List.nodup_nil, List.mem_cons, List.not_mem_nil, or_false, or_self, Int.reduceToNat, Nat.min_eq_left, Nat.min_eq_right, Int.reducePow, Nat.reducePow, Int.reduceLE, Int.reduceLT, Int.reduceMul, Int.reduceAdd, Int.reduceSub, Int.reduceNeg, Bool.not_true, Bool.not_false, Bool.not_not, ↓reduceIte, Nat.reduceAdd, Nat.reduceSub, Nat.reduceMul, Nat.reduceEqDiff, reduceCtorEq, Nat.reduceLT, Nat.reduceLeDiff, Nat.reduceGT]); (try any_goals (refine ⟨?_, ?_⟩)); (try any_goals (with_reducible rfl)))); done)) | exact Nat.le_refl _ | (exfalso; exact absurd hb (by rw [decide_eq_true (of_decide_eq_false hne)]; decide)) | (exfalso; rcases hi2 with q | q; (exact absurd (show decide ((0 : Int) < n8 - fs.length) = true by assumption) (by rw [q]; decide)); (exact absurd (show (!r'.isNone) = true by assumption) (by rw [q]; decide)))
            · have hne := fin _ hv rfl
              (have zx1 := @hv; have zx2 := @hne; all_goals (try ((first | (with_reducible refine wp_id ?_) | (with_reducible refine does_id ?_)); refine walk ?_; (repeat' (first | exact trivial | with_reducible refine And.intro ?_ ?_)); all_goals (repeat (first | (with_reducible refine ImpB.mk fun hb => ?_) | (with_reducible refine ImpK.mk fun hK => ?_) | (with_reducible refine ImpF.mk fun hF => ?_) | (with_reducible refine AllK.mk fun K => ?_))))); repeat' (with_reducible refine And.intro ?_ ?_))
              all_goals first | (focus ((focus (refine ⟨_, _, Gh.refl, [], rfl, ?_⟩; (refine ⟨?_, ?_, ?_⟩ <;> simp only [go_sem, List.range, List.range.loop, List.nodup_cons, List.nodup_nil, List.mem_cons, List.not_mem_nil, or_false, or_self, Int.reduceToNat, Nat.min_eq_left, Nat.min_eq_right, Int.reducePow, Nat.reducePow, Int.reduceLE, Int.reduceLT, Int.reduceMul, Int.reduceAdd, Int.reduceSub, Int.reduceNeg, Bool.not_true, Bool.not_false, Bool.not_not, ↓reduceIte, Nat.reduceAdd, Nat.reduceSub, Nat.reduceMul, Nat.reduceEqDiff, reduceCtorEq, Nat.reduceLT, Nat.reduceLeDiff, Nat.reduceGT]); (try any_goals (refine ⟨?_, ?_⟩)); (try any_goals (with_reducible rfl)))); done)) | exact Nat.le_refl _ | (exfalso; exact absurd hb (by rw [decide_eq_true (of_decide_eq_false hne)]; decide)) | (exfalso; rcases hi2 with q | q; (exact absurd (show decide ((0 : Int) < n8 - fs.length) = true by assumption) (by rw [q]; decide)); (exact absurd (show (!r'.isNone) = true by assumption) (by rw [q]; decide)))
      · have hrn2 : (!r.isNone) = false := by rw [hrn]; rfl
        (have zx1 := @hkd; have zx2 := @hrn2; all_goals (try ((first | (with_reducible refine wp_id ?_) | (with_reducible refine does_id ?_)); refine walk ?_; (repeat' (first | exact trivial | with_reducible refine And.intro ?_ ?_)); all_goals (repeat (first | (with_reducible refine ImpB.mk fun hb => ?_) | (with_reducible refine ImpK.mk fun hK => ?_) | (with_reducible refine ImpF.mk fun hF => ?_) | (with_reducible refine AllK.mk fun K => ?_))))); repeat' (with_reducible refine And.intro ?_ ?_))
        any_goals (refine w_loop (A := List Fid × Option (List UInt8)) (fun p => (p.1.length : Int) ≤ n8.toNat ∧ lenR p.2 ≤ 1000000) (fun p => n8.toNat - p.1.length) (fun p => [(9, .int .i64 (n8 - p.1.length))]) (fun p => [(1, .pack (FdG p.2)), (2, .cells [.int .i64 i1, .int .i64 m, .int .i64 i3, .ro .byte d4, .ro .ent l, .sl 3 .int 0 ys.length, .sl 4 .fid 0 p.1.length, .int .i64 0]), (3, .rows .int ys), (4, .rows .fid p.1)]) (([], r8)) (ws := ?ws3) (tk := ?tk3) ?hw3 ?ht3 ?hi_2 ?h0_2 ?LH3; (case hw3 => simp only [go_sem, Int.reduceToNat, Nat.min_eq_left, Nat.min_eq_right, Int.reducePow, Nat.reducePow, Int.reduceLE, Int.reduceLT, Int.reduceMul, Int.reduceAdd, Int.reduceSub, Int.reduceNeg, Bool.not_true, Bool.not_false, Bool.not_not, ↓reduceIte, Nat.reduceAdd, Nat.reduceSub, Nat.reduceMul, Nat.reduceEqDiff, reduceCtorEq, Nat.reduceLT, Nat.reduceLeDiff, Nat.reduceGT]; exact rfl); (case ht3 => simp only [go_sem, Int.reduceToNat, Nat.min_eq_left, Nat.min_eq_right, Int.reducePow, Nat.reducePow, Int.reduceLE, Int.reduceLT, Int.reduceMul, Int.reduceAdd, Int.reduceSub, Int.reduceNeg, Bool.not_true, Bool.not_false, Bool.not_not, ↓reduceIte, Nat.reduceAdd, Nat.reduceSub, Nat.reduceMul, Nat.reduceEqDiff, reduceCtorEq, Nat.reduceLT, Nat.reduceLeDiff, Nat.reduceGT]; exact rfl); (case' LH3 => rintro ⟨fs, r'⟩ E t hx hE ht; simp only [go_sem] at ht; subst ht; simp only [go_sem]; try dsimp only at hx))
        case hi_2 => exact ⟨by dsimp only [List.length_nil]; omega, by dsimp only; omega⟩
        case h0_2 =>
          (focus (refine ⟨_, _, Gh.refl, [0, 1, 2, 3, 4], rfl, ?_⟩; (refine ⟨?_, ?_, ?_⟩ <;> simp only [go_sem, List.range, List.range.loop, List.nodup_cons, List.nodup_nil, List.mem_cons, List.not_mem_nil, or_false, or_self, Int.reduceToNat, Nat.min_eq_left, Nat.min_eq_right, Int.reducePow, Nat.reducePow, Int.reduceLE, Int.reduceLT, Int.reduceMul, Int.reduceAdd, Int.reduceSub, Int.reduceNeg, Bool.not_true, Bool.not_false, Bool.not_not, ↓reduceIte, Nat.reduceAdd, Nat.reduceSub, Nat.reduceMul, Nat.reduceEqDiff, reduceCtorEq, Nat.reduceLT, Nat.reduceLeDiff, Nat.reduceGT]); (try any_goals (refine ⟨?_, ?_⟩)); (try any_goals (with_reducible rfl))))
          all_goals first | rfl | (simp; done) | trace_state
        case LH3 =>
          have hrl' := hx.2
          have hfl := hx.1
          try simp only at hrl' hfl
          clear hx
          have h9 := uintR_lenR r' 1
          have h9b := uintR_bd r' 1
          rcases e9 : uintR r' 1 with ⟨x9, q9⟩
          have ha := uintR_lenR q9 2
          have hab := uintR_bd q9 2
          rcases ea : uintR q9 2 with ⟨y, q2⟩
          rw [e9] at h9 h9b
          rw [ea] at ha hab
          simp only at h9 h9b ha hab
          have w3 : IntKind.i64.wrap (x9 : Int) = (x9 : Int) := by rw [wrap_i64 _ (by omega) (by omega)]
          have w4 : IntKind.i64.wrap (y : Int) = (y : Int) := by rw [wrap_i64 _ (by omega) (by omega)]
          have hb0 := intR_len r'
          rcases eb : intR r' with ⟨ib, rb⟩
          have l9 : lenR r' ≤ 1099511627776 := by omega
          have hcs : CkS ⟨i1, m, i3, d4, l, ys, fs, ib⟩ := ⟨by dsimp only; omega, by dsimp only; omega, hl2, by dsimp only; omega, by dsimp only; omega⟩
          by_cases hi : (fs.length : Int) < n8.toNat ∧ r'.isNone = false
          · have hid : decide ((0 : Int) < n8 - fs.length) = true := decide_eq_true (by omega)
            obtain ⟨hi, hrn⟩ := hi
            have hrn2 : (!r'.isNone) = true := by rw [hrn]; rfl
            (have zx1 := @hid; have zx2 := @w3; have zx3 := @w4; have zx4 := @hrn2; all_goals (try ((first | (with_reducible refine wp_id ?_) | (with_reducible refine does_id ?_)); refine walk ?_; (repeat' (first | exact trivial | with_reducible refine And.intro ?_ ?_)); all_goals (repeat (first | (with_reducible refine ImpB.mk fun hb => ?_) | (with_reducible refine ImpK.mk fun hK => ?_) | (with_reducible refine ImpF.mk fun hF => ?_) | (with_reducible refine AllK.mk fun K => ?_))))); repeat' (with_reducible refine And.intro ?_ ?_))
            all_goals first | exact Int.natCast_nonneg _ | omega | skip
            refine ⟨(fs ++ [⟨x9, y⟩], q2), ⟨⟨by simp only [List.length_append, List.length_cons, List.length_nil]; omega, by dsimp only; omega⟩, by simp only [List.length_append, List.length_cons, List.length_nil]; omega⟩, ?mA2⟩
            (focus (refine ⟨_, _, Gh.refl, [0, 1, 2, 3, 6], rfl, ?_⟩; (refine ⟨?_, ?_, ?_⟩ <;> simp only [go_sem, List.range, List.range.loop, List.nodup_cons, List.nodup_nil, List.mem_cons, List.not_mem_nil, or_false, or_self, Int.reduceToNat, Nat.min_eq_left, Nat.min_eq_right, Int.reducePow, Nat.reducePow, Int.reduceLE, Int.reduceLT, Int.reduceMul, Int.reduceAdd, Int.reduceSub, Int.reduceNeg, Bool.not_true, Bool.not_false, Bool.not_not, ↓reduceIte, Nat.reduceAdd, Nat.reduceSub, Nat.reduceMul, Nat.reduceEqDiff, reduceCtorEq, Nat.reduceLT, Nat.reduceLeDiff, Nat.reduceGT]); (try any_goals (refine ⟨?_, ?_⟩)); (try any_goals (with_reducible rfl))))
            all_goals first | rfl | (first | with_reducible rfl | omega | ((simp (disch := omega) only [wrap_i64]); first | done | omega) | (simp only [List.append_assoc, List.cons_append, List.nil_append]; done)) | (simp only [List.length_append, List.length_cons, List.length_nil]; first | done | omega | (rw [wrap_i64 _ (by omega) (by omega)]; omega)) | trace_state
          · have hi2 : decide ((0 : Int) < n8 - fs.length) = false ∨ (!r'.isNone) = false := by
              cases hr : r'.isNone
              · left
                rw [decide_eq_false_iff_not]
                intro hh
                exact hi ⟨by omega, hr⟩
              · right; rfl
            have fin : ∀ v, ckV ⟨i1, m, i3, d4, l, ys, fs, ib⟩ = v → (v = true → decide (encK ⟨i1, m, i3, d4, l, ys, fs, ib⟩ = b) = false) := fun v e hv => decide_eq_false (hno _ (e.trans hv))
            cases hv : ckV ⟨i1, m, i3, d4, l, ys, fs, ib⟩
            · (have zx1 := @hv; all_goals (try ((first | (with_reducible refine wp_id ?_) | (with_reducible refine does_id ?_)); refine walk ?_; (repeat' (first | exact trivial | with_reducible refine And.intro ?_ ?_)); all_goals (repeat (first | (with_reducible refine ImpB.mk fun hb => ?_) | (with_reducible refine ImpK.mk fun hK => ?_) | (with_reducible refine ImpF.mk fun hF => ?_) | (with_reducible refine AllK.mk fun K => ?_))))); repeat' (with_reducible refine And.intro ?_ ?_))
              all_goals first | (focus ((focus (refine ⟨_, _, Gh.refl, [], rfl, ?_⟩; (refine ⟨?_, ?_, ?_⟩ <;> simp only [go_sem, List.range, List.range.loop, List.nodup_cons, List.nodup_nil, List.mem_cons, List.not_mem_nil, or_false, or_self, Int.reduceToNat, Nat.min_eq_left, Nat.min_eq_right, Int.reducePow, Nat.reducePow, Int.reduceLE, Int.reduceLT, Int.reduceMul, Int.reduceAdd, Int.reduceSub, Int.reduceNeg, Bool.not_true, Bool.not_false, Bool.not_not, ↓reduceIte, Nat.reduceAdd, Nat.reduceSub, Nat.reduceMul, Nat.reduceEqDiff, reduceCtorEq, Nat.reduceLT, Nat.reduceLeDiff, Nat.reduceGT]); (try any_goals (refine ⟨?_, ?_⟩)); (try any_goals (with_reducible rfl)))); done)) | exact Nat.le_refl _ | (exfalso; exact absurd hb (by rw [decide_eq_true (of_decide_eq_false hne)]; decide)) | (exfalso; rcases hi2 with q | q; (exact absurd (show decide ((0 : Int) < n8 - fs.length) = true by assumption) (by rw [q]; decide)); (exact absurd (show (!r'.isNone) = true by assumption) (by rw [q]; decide)))
            · have hne := fin _ hv rfl
              (have zx1 := @hv; have zx2 := @hne; all_goals (try ((first | (with_reducible refine wp_id ?_) | (with_reducible refine does_id ?_)); refine walk ?_; (repeat' (first | exact trivial | with_reducible refine And.intro ?_ ?_)); all_goals (repeat (first | (with_reducible refine ImpB.mk fun hb => ?_) | (with_reducible refine ImpK.mk fun hK => ?_) | (with_reducible refine ImpF.mk fun hF => ?_) | (with_reducible refine AllK.mk fun K => ?_))))); repeat' (with_reducible refine And.intro ?_ ?_))
              all_goals first | (focus ((focus (refine ⟨_, _, Gh.refl, [], rfl, ?_⟩; (refine ⟨?_, ?_, ?_⟩ <;> simp only [go_sem, List.range, List.range.loop, List.nodup_cons, List.nodup_nil, List.mem_cons, List.not_mem_nil, or_false, or_self, Int.reduceToNat, Nat.min_eq_left, Nat.min_eq_right, Int.reducePow, Nat.reducePow, Int.reduceLE, Int.reduceLT, Int.reduceMul, Int.reduceAdd, Int.reduceSub, Int.reduceNeg, Bool.not_true, Bool.not_false, Bool.not_not, ↓reduceIte, Nat.reduceAdd, Nat.reduceSub, Nat.reduceMul, Nat.reduceEqDiff, reduceCtorEq, Nat.reduceLT, Nat.reduceLeDiff, Nat.reduceGT]); (try any_goals (refine ⟨?_, ?_⟩)); (try any_goals (with_reducible rfl)))); done)) | exact Nat.le_refl _ | (exfalso; exact absurd hb (by rw [decide_eq_true (of_decide_eq_false hne)]; decide)) | (exfalso; rcases hi2 with q | q; (exact absurd (show decide ((0 : Int) < n8 - fs.length) = true by assumption) (by rw [q]; decide)); (exact absurd (show (!r'.isNone) = true by assumption) (by rw [q]; decide)))
theorem c_fdecF {h : List Ch} {K : KT} {b : List UInt8} {a : AV} (H : K (.tup [.agg [.int .i64 0, .int .i64 0, .int .i64 0, .lit (.slice none 0 0), .lit (.slice none 0 0), .lit (.slice none 0 0), .lit (.slice none 0 0), .int .i64 0], .bool false]) h) (q1 : isRO .byte b a) (e1 : noK b) (s1 : b.length ≤ 1000000) : Does Try.prog 14 [a] h K :=
  frame_pure (b_fdecF b e1 s1) (br_cons q1.br br_nil) (.inl (by rw [brTL, q1.brT]; rfl)) (fun _ => rfl) H
abbrev i_fdecF := Ctr.mk (i := 1) (g := 14) @c_fdecF
attribute [instance] i_fdecF
end Go.V
