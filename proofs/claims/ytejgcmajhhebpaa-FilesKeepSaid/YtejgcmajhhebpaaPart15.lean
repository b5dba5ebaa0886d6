/-
  FilesKeep.
  From the arguments of a given statement to abstract values: what is read as data lies for good.
  The arguments of the statements of chapter 26 as abstract values.
-/
import Derived.Test.YtejgcmajhhebpaaPart14
import Derived.Test.YtejgcmajhhebpaaPart07
import Derived.ChangeArms
import Derived.ChangeShapes
import Derived.ChangeReads
import Derived.DataReads
import Derived.Below
import Derived.Test.YtejgcmajhhebpaaPart13
import Derived.OpenShut
import Derived.RowKit
import Derived.Carry
set_option linter.unusedVariables false
set_option linter.unusedSimpArgs false
set_option maxRecDepth 100000
set_option maxHeartbeats 8000000
namespace Go.V
open Go.Proofs
theorem nm_eq {k : Nat} (hk : k ≤ 93) : UInt8.ofNat (IntKind.u8.wrap (IntKind.i64.wrap (33 + (k : Int)))).toNat = UInt8.ofNat (33 + k) := by
  rw [wrap_i64 _ (by omega) (by omega), wrap_u8]
  congr 1
  omega
theorem b_keep (l : List Str) (o : Int) (d : Str) (hl : l.length ≤ 9223372036854775807) (hd : d.length ≤ 9223372036854775807) (ho : 0 ≤ o ∧ o < 256) : DoesK Try.prog 0 3 [.ro .bytes l, .int .u8 o, .ro .byte d] [] (EndF 0 (.bool true) []) := by
  refine DoesK.close ?_
  by_cases h40 : 40 < l.length
  · have hdd : decide ((40 : Int) < l.length) = true := decide_eq_true (by omega)
    refine w_body (rs := [.tmp 6]) (tm := [.ro .bytes l, .int .u8 o, .ro .byte d, .any, .any, .any, .any, .any, .any, .any, .any, .any, .any, .any, .any, .any, .any, .any, .any, .any, .any, .any, .any, .any, .any, .any, .any, .any, .any, .any, .any, .any, .any, .any, .any, .any, .any, .any, .any, .any, .any, .any, .any, .any, .any, .any, .any, .any, .any, .any, .any, .any, .any, .any, .any, .any, .any, .any, .any, .any, .any, .any, .any, .any, .any, .any, .any, .any, .any, .any, .any, .any, .any, .any, .any, .any, .any, .any, .any, .any, .any, .any, .any, .any, .any, .any, .any, .any, .any, .any, .any, .any, .any, .any, .any, .any, .any, .any, .any, .any, .any, .any, .any, .any, .any, .any, .any, .any, .any, .any, .any, .any, .any, .any, .any, .any, .any, .any, .any, .any, .any, .any, .any, .any, .any, .any, .any, .any, .any, .any, .any, .any, .any, .any, .any, .any, .any, .any, .any, .any, .any, .any, .any, .any, .any, .any, .any, .any, .any, .any, .any, .any]) fn_3 rfl rfl rfl rfl fun R hR => ?_
    (have zx1 := @hdd; all_goals (try ((first | (with_reducible refine wp_id ?_) | (with_reducible refine does_id ?_)); refine walk ?_; (repeat' (first | exact trivial | with_reducible refine And.intro ?_ ?_)); all_goals (repeat (first | (with_reducible refine ImpB.mk fun hb => ?_) | (with_reducible refine ImpK.mk fun hK => ?_) | (with_reducible refine ImpF.mk fun hF => ?_) | (with_reducible refine ImpQ.mk fun hp => ?_) | (with_reducible refine AllE.mk fun p => ?_) | (with_reducible refine AllR.mk fun rest => ?_) | (with_reducible refine AllK.mk fun K => ?_))))); repeat' (with_reducible refine And.intro ?_ ?_))
    (focus (refine ⟨_, _, Gh.refl, [], rfl, ?_⟩; (refine ⟨?_, ?_, ?_⟩ <;> simp only [go_sem, List.range, List.range.loop, List.nodup_cons, List.nodup_nil, List.mem_cons, List.not_mem_nil, or_false, or_self, Int.reduceToNat, Nat.min_eq_left, Nat.min_eq_right, Int.reducePow, Nat.reducePow, Int.reduceLE, Int.reduceLT, Int.reduceMul, Int.reduceAdd, Int.reduceSub, Int.reduceNeg, Bool.not_true, Bool.not_false, Bool.not_not, ↓reduceIte, Nat.reduceAdd, Nat.reduceSub, Nat.reduceMul, Nat.reduceEqDiff, reduceCtorEq, Nat.reduceLT, Nat.reduceLeDiff, Nat.reduceGT]); (try any_goals (refine ⟨?_, ?_⟩)); (try any_goals (with_reducible rfl))))
  · have hdd : decide ((40 : Int) < l.length) = false := decide_eq_false (by omega)
    by_cases h100 : 100 < d.length
    · have hdd2 : decide ((100 : Int) < d.length) = true := decide_eq_true (by omega)
      refine w_body (rs := [.tmp 6]) (tm := [.ro .bytes l, .int .u8 o, .ro .byte d, .any, .any, .any, .any, .any, .any, .any, .any, .any, .any, .any, .any, .any, .any, .any, .any, .any, .any, .any, .any, .any, .any, .any, .any, .any, .any, .any, .any, .any, .any, .any, .any, .any, .any, .any, .any, .any, .any, .any, .any, .any, .any, .any, .any, .any, .any, .any, .any, .any, .any, .any, .any, .any, .any, .any, .any, .any, .any, .any, .any, .any, .any, .any, .any, .any, .any, .any, .any, .any, .any, .any, .any, .any, .any, .any, .any, .any, .any, .any, .any, .any, .any, .any, .any, .any, .any, .any, .any, .any, .any, .any, .any, .any, .any, .any, .any, .any, .any, .any, .any, .any, .any, .any, .any, .any, .any, .any, .any, .any, .any, .any, .any, .any, .any, .any, .any, .any, .any, .any, .any, .any, .any, .any, .any, .any, .any, .any, .any, .any, .any, .any, .any, .any, .any, .any, .any, .any, .any, .any, .any, .any, .any, .any, .any, .any, .any, .any, .any, .any]) fn_3 rfl rfl rfl rfl fun R hR => ?_
      (have zx1 := @hdd; have zx2 := @hdd2; all_goals (try ((first | (with_reducible refine wp_id ?_) | (with_reducible refine does_id ?_)); refine walk ?_; (repeat' (first | exact trivial | with_reducible refine And.intro ?_ ?_)); all_goals (repeat (first | (with_reducible refine ImpB.mk fun hb => ?_) | (with_reducible refine ImpK.mk fun hK => ?_) | (with_reducible refine ImpF.mk fun hF => ?_) | (with_reducible refine ImpQ.mk fun hp => ?_) | (with_reducible refine AllE.mk fun p => ?_) | (with_reducible refine AllR.mk fun rest => ?_) | (with_reducible refine AllK.mk fun K => ?_))))); repeat' (with_reducible refine And.intro ?_ ?_))
      (focus (refine ⟨_, _, Gh.refl, [], rfl, ?_⟩; (refine ⟨?_, ?_, ?_⟩ <;> simp only [go_sem, List.range, List.range.loop, List.nodup_cons, List.nodup_nil, List.mem_cons, List.not_mem_nil, or_false, or_self, Int.reduceToNat, Nat.min_eq_left, Nat.min_eq_right, Int.reducePow, Nat.reducePow, Int.reduceLE, Int.reduceLT, Int.reduceMul, Int.reduceAdd, Int.reduceSub, Int.reduceNeg, Bool.not_true, Bool.not_false, Bool.not_not, ↓reduceIte, Nat.reduceAdd, Nat.reduceSub, Nat.reduceMul, Nat.reduceEqDiff, reduceCtorEq, Nat.reduceLT, Nat.reduceLeDiff, Nat.reduceGT]); (try any_goals (refine ⟨?_, ?_⟩)); (try any_goals (with_reducible rfl))))
    · have hdd2 : decide ((100 : Int) < d.length) = false := decide_eq_false (by omega)
      have m1 : min (max 64 0) 256 = (64 : Int) := by decide
      have m2 : min (max 10000 0) 2147483648 = (10000 : Int) := by decide
      obtain ⟨J, hJ⟩ : ∃ J : Nat, o.tmod 41 = J := ⟨(o.tmod 41).toNat, by have := Int.tmod_nonneg 41 ho.1; omega⟩
      have hJ40 : J ≤ 40 := by have := Int.tmod_lt_of_pos o (show (0 : Int) < 41 by decide); omega
      have wo : IntKind.i64.wrap o = o := wrap_i64 _ (by omega) (by omega)
      have wJ : IntKind.i64.wrap (J : Int) = J := wrap_i64 _ (by omega) (by omega)
      have huJ := nm_eq (k := J) (by omega)
      have hnJ : [(102 : UInt8), UInt8.ofNat (33 + J)] = nm2 102 J := rfl
      refine w_body (rs := [.tmp 6]) (tm := [.ro .bytes l, .int .u8 o, .ro .byte d, .any, .any, .any, .any, .any, .any, .any, .any, .any, .any, .any, .any, .any, .any, .any, .any, .any, .any, .any, .any, .any, .any, .any, .any, .any, .any, .any, .any, .any, .any, .any, .any, .any, .any, .any, .any, .any, .any, .any, .any, .any, .any, .any, .any, .any, .any, .any, .any, .any, .any, .any, .any, .any, .any, .any, .any, .any, .any, .any, .any, .any, .any, .any, .any, .any, .any, .any, .any, .any, .any, .any, .any, .any, .any, .any, .any, .any, .any, .any, .any, .any, .any, .any, .any, .any, .any, .any, .any, .any, .any, .any, .any, .any, .any, .any, .any, .any, .any, .any, .any, .any, .any, .any, .any, .any, .any, .any, .any, .any, .any, .any, .any, .any, .any, .any, .any, .any, .any, .any, .any, .any, .any, .any, .any, .any, .any, .any, .any, .any, .any, .any, .any, .any, .any, .any, .any, .any, .any, .any, .any, .any, .any, .any, .any, .any, .any, .any, .any, .any]) fn_3 rfl rfl rfl rfl fun R hR => ?_
      (have zx1 := @hdd; have zx2 := @hdd2; have zx3 := @m1; have zx4 := @m2; all_goals (try ((first | (with_reducible refine wp_id ?_) | (with_reducible refine does_id ?_)); refine walk ?_; (repeat' (first | exact trivial | with_reducible refine And.intro ?_ ?_)); all_goals (repeat (first | (with_reducible refine ImpB.mk fun hb => ?_) | (with_reducible refine ImpK.mk fun hK => ?_) | (with_reducible refine ImpF.mk fun hF => ?_) | (with_reducible refine ImpQ.mk fun hp => ?_) | (with_reducible refine AllE.mk fun p => ?_) | (with_reducible refine AllR.mk fun rest => ?_) | (with_reducible refine AllK.mk fun K => ?_))))); repeat' (with_reducible refine And.intro ?_ ?_))
      any_goals (refine w_loop (A := Nat) (fun k => k ≤ l.length ∧ ∀ i, i < k → (lAt l i).length ≤ 100) (fun k => l.length - k) (fun k => [(8, .int .i64 k)]) (fun k => [(0, .pack (St 64 10000 (kvK l k)))]) (0) (ws := ?ws1) (tk := ?tk1) ?hw1 ?ht1 ?hi ?h0 ?LH1; (case hw1 => simp only [go_sem, Int.reduceToNat, Nat.min_eq_left, Nat.min_eq_right, Int.reducePow, Nat.reducePow, Int.reduceLE, Int.reduceLT, Int.reduceMul, Int.reduceAdd, Int.reduceSub, Int.reduceNeg, Bool.not_true, Bool.not_false, Bool.not_not, ↓reduceIte, Nat.reduceAdd, Nat.reduceSub, Nat.reduceMul, Nat.reduceEqDiff, reduceCtorEq, Nat.reduceLT, Nat.reduceLeDiff, Nat.reduceGT]; exact rfl); (case ht1 => simp only [go_sem, Int.reduceToNat, Nat.min_eq_left, Nat.min_eq_right, Int.reducePow, Nat.reducePow, Int.reduceLE, Int.reduceLT, Int.reduceMul, Int.reduceAdd, Int.reduceSub, Int.reduceNeg, Bool.not_true, Bool.not_false, Bool.not_not, ↓reduceIte, Nat.reduceAdd, Nat.reduceSub, Nat.reduceMul, Nat.reduceEqDiff, reduceCtorEq, Nat.reduceLT, Nat.reduceLeDiff, Nat.reduceGT]; exact rfl); (case' LH1 => rintro k E t hx hE ht; simp only [go_sem] at ht; subst ht; simp only [go_sem]; try dsimp only at hx))
      case hi => exact ⟨Nat.zero_le _, fun i hi => absurd hi (by omega)⟩
      case h0 =>
        (focus (refine ⟨_, _, Gh.refl, [0], rfl, ?_⟩; (refine ⟨?_, ?_, ?_⟩ <;> simp only [go_sem, List.range, List.range.loop, List.nodup_cons, List.nodup_nil, List.mem_cons, List.not_mem_nil, or_false, or_self, Int.reduceToNat, Nat.min_eq_left, Nat.min_eq_right, Int.reducePow, Nat.reducePow, Int.reduceLE, Int.reduceLT, Int.reduceMul, Int.reduceAdd, Int.reduceSub, Int.reduceNeg, Bool.not_true, Bool.not_false, Bool.not_not, ↓reduceIte, Nat.reduceAdd, Nat.reduceSub, Nat.reduceMul, Nat.reduceEqDiff, reduceCtorEq, Nat.reduceLT, Nat.reduceLeDiff, Nat.reduceGT]); (try any_goals (refine ⟨?_, ?_⟩)); (try any_goals (with_reducible rfl))))
        rfl
      case LH1 =>
        obtain ⟨hk0, hle⟩ := hx
        have hw : IntKind.i64.wrap ((k : Int) + 1) = ((k + 1 : Nat) : Int) := by rw [wrap_i64 _ (by omega) (by omega)]; omega
        have hks : sumL (kvK l k) ≤ 100 * k := by rw [kvK_sum]; exact accN_le hle
        have hkl := kvK_len l k
        have hu := nm_eq (k := k) (by omega)
        have hnm : [(102 : UInt8), UInt8.ofNat (33 + k)] = nm2 102 k := rfl
        have hn8 : (nm2 102 k).length ≤ 9223372036854775807 := by unfold nm2; simp
        have hu2 : IntKind.u8.wrap (IntKind.i64.wrap (33 + (k : Int))) < 256 := by rw [wrap_i64 _ (by omega) (by omega), wrap_u8]; omega
        by_cases hk : k < l.length
        · have hkd : decide ((k : Int) < l.length) = true := decide_eq_true (by omega)
          by_cases hxd : 100 < (lAt l k).length
          · have hxdd : decide ((100 : Int) < (lAt l k).length) = true := decide_eq_true (by omega)
            (have zx1 := @hkd; have zx2 := @hxdd; all_goals (try ((first | (with_reducible refine wp_id ?_) | (with_reducible refine does_id ?_)); refine walk ?_; (repeat' (first | exact trivial | with_reducible refine And.intro ?_ ?_)); all_goals (repeat (first | (with_reducible refine ImpB.mk fun hb => ?_) | (with_reducible refine ImpK.mk fun hK => ?_) | (with_reducible refine ImpF.mk fun hF => ?_) | (with_reducible refine ImpQ.mk fun hp => ?_) | (with_reducible refine AllE.mk fun p => ?_) | (with_reducible refine AllR.mk fun rest => ?_) | (with_reducible refine AllK.mk fun K => ?_))))); repeat' (with_reducible refine And.intro ?_ ?_))
            all_goals first | exact Int.natCast_nonneg _ | exact Int.ofNat_lt.2 hk | skip
            (focus (refine ⟨_, _, Gh.refl, [], rfl, ?_⟩; (refine ⟨?_, ?_, ?_⟩ <;> simp only [go_sem, List.range, List.range.loop, List.nodup_cons, List.nodup_nil, List.mem_cons, List.not_mem_nil, or_false, or_self, Int.reduceToNat, Nat.min_eq_left, Nat.min_eq_right, Int.reducePow, Nat.reducePow, Int.reduceLE, Int.reduceLT, Int.reduceMul, Int.reduceAdd, Int.reduceSub, Int.reduceNeg, Bool.not_true, Bool.not_false, Bool.not_not, ↓reduceIte, Nat.reduceAdd, Nat.reduceSub, Nat.reduceMul, Nat.reduceEqDiff, reduceCtorEq, Nat.reduceLT, Nat.reduceLeDiff, Nat.reduceGT]); (try any_goals (refine ⟨?_, ?_⟩)); (try any_goals (with_reducible rfl))))
          · have hxdd : decide ((100 : Int) < (lAt l k).length) = false := decide_eq_false (by omega)
            have hxl : (lAt l k).length ≤ 9223372036854775807 := by omega
            have hg := kvK_get l (i := k) (by omega) (k := k) (by omega)
            rw [if_neg (by omega)] at hg
            have hP := put_fresh (m := 64) (r := 10000) (nm2_ok chr102 (k := k) (by omega)) (d := lAt l k) (by omega) hg
            rw [if_neg (by omega)] at hP
            have hM : putM 64 10000 (kvK l k) (nm2 102 k) (lAt l k) = kvK l (k + 1) := by
              unfold putM
              rw [if_pos hP]
              exact mset_new fun hc => by
                obtain ⟨p, hp, e⟩ := List.mem_map.1 hc
                obtain ⟨j, hj, e2⟩ := kvK_mem hp
                have := nm2_inj (by omega) (by omega) (e2.symm.trans e)
                omega
            (have zx1 := @hkd; have zx2 := @hxdd; have zx3 := @hu; have zx4 := @hnm; have zx5 := @hP; have zx6 := @hM; all_goals (try ((first | (with_reducible refine wp_id ?_) | (with_reducible refine does_id ?_)); refine walk ?_; (repeat' (first | exact trivial | with_reducible refine And.intro ?_ ?_)); all_goals (repeat (first | (with_reducible refine ImpB.mk fun hb => ?_) | (with_reducible refine ImpK.mk fun hK => ?_) | (with_reducible refine ImpF.mk fun hF => ?_) | (with_reducible refine ImpQ.mk fun hp => ?_) | (with_reducible refine AllE.mk fun p => ?_) | (with_reducible refine AllR.mk fun rest => ?_) | (with_reducible refine AllK.mk fun K => ?_))))); repeat' (with_reducible refine And.intro ?_ ?_))
            all_goals first | exact Int.natCast_nonneg _ | exact Int.ofNat_lt.2 hk | exact hu2 | exact hn8 | exact hxl | omega | (exfalso; simp at hb; done) | (exfalso; exact absurd (by assumption : decide False = true) (by decide)) | skip
            refine ⟨k + 1, ⟨⟨by first | omega | (dsimp only; omega), fun i hi => ?_⟩, by first | omega | (dsimp only; omega)⟩, ?m11⟩
            · by_cases e : i = k
              · subst e; omega
              · exact hle i (by omega)
            (focus (refine ⟨_, _, Gh.refl, [0], rfl, ?_⟩; (refine ⟨?_, ?_, ?_⟩ <;> simp only [go_sem, List.range, List.range.loop, List.nodup_cons, List.nodup_nil, List.mem_cons, List.not_mem_nil, or_false, or_self, Int.reduceToNat, Nat.min_eq_left, Nat.min_eq_right, Int.reducePow, Nat.reducePow, Int.reduceLE, Int.reduceLT, Int.reduceMul, Int.reduceAdd, Int.reduceSub, Int.reduceNeg, Bool.not_true, Bool.not_false, Bool.not_not, ↓reduceIte, Nat.reduceAdd, Nat.reduceSub, Nat.reduceMul, Nat.reduceEqDiff, reduceCtorEq, Nat.reduceLT, Nat.reduceLeDiff, Nat.reduceGT]); (try any_goals (refine ⟨?_, ?_⟩)); (try any_goals (with_reducible rfl))))
            exact hw.symm
        · have hkd : decide ((k : Int) < l.length) = false := decide_eq_false (by omega)
          have hkn : k = l.length := by omega
          subst hkn
          have hn8 : (nm2 102 J).length ≤ 9223372036854775807 := by unfold nm2; simp
          have hu2 : IntKind.u8.wrap (IntKind.i64.wrap (33 + (J : Int))) < 256 := by rw [wrap_i64 _ (by omega) (by omega), wrap_u8]; omega
          have h4000 := hks
          by_cases ho8 : 128 ≤ o
          · have hod : decide (128 ≤ o) = true := decide_eq_true ho8
            have hod2 : decide (o < 128) = false := decide_eq_false (by omega)
            have hL := left_del (l := l) (n := l.length) (K := J) (by omega) hJ40
            rcases hf0 : findE (kvK l l.length) (nm2 102 J) with ⟨d0, n0⟩
            rw [hf0] at hL
            obtain ⟨kv', hkv'⟩ : ∃ y, (if n0 = 0 then mdelS (kvK l l.length) (nm2 102 J) else kvK l l.length) = y := ⟨_, rfl⟩
            simp only [hkv'] at hL
            (have zx1 := @hkd; have zx2 := @hod; have zx3 := @hod2; have zx4 := @wo; have zx5 := @hJ; have zx6 := @wJ; have zx7 := @huJ; have zx8 := @hnJ; have zx9 := @hkv'; all_goals (try ((first | (with_reducible refine wp_id ?_) | (with_reducible refine does_id ?_)); refine walk ?_; (repeat' (first | exact trivial | with_reducible refine And.intro ?_ ?_)); all_goals (repeat (first | (with_reducible refine ImpB.mk fun hb => ?_) | (with_reducible refine ImpK.mk fun hK => ?_) | (with_reducible refine ImpF.mk fun hF => ?_) | (with_reducible refine ImpQ.mk fun hp => ?_) | (with_reducible refine AllE.mk fun p => ?_) | (with_reducible refine AllR.mk fun rest => ?_) | (with_reducible refine AllK.mk fun K => ?_))))); repeat' (with_reducible refine And.intro ?_ ?_))
            all_goals first | exact hu2 | exact hn8 | (exfalso; simp at hb; done) | (exfalso; exact absurd (by assumption : decide False = true) (by decide)) | skip
            have hat := hL.at_
            have hoff := hL.off
            have hall := hL.all
            any_goals (refine w_loop (A := Nat) (fun k => k ≤ l.length) (fun k => l.length - k) (fun k => [(11, .int .i64 (accN (lenK l J []) k)), (12, .int .i64 k)]) (fun k => []) (0) (ws := ?ws2) (tk := ?tk2) ?hw2 ?ht2 ?hi_1 ?h0_1 ?LH2; (case hw2 => simp only [go_sem, Int.reduceToNat, Nat.min_eq_left, Nat.min_eq_right, Int.reducePow, Nat.reducePow, Int.reduceLE, Int.reduceLT, Int.reduceMul, Int.reduceAdd, Int.reduceSub, Int.reduceNeg, Bool.not_true, Bool.not_false, Bool.not_not, ↓reduceIte, Nat.reduceAdd, Nat.reduceSub, Nat.reduceMul, Nat.reduceEqDiff, reduceCtorEq, Nat.reduceLT, Nat.reduceLeDiff, Nat.reduceGT]; exact rfl); (case ht2 => simp only [go_sem, Int.reduceToNat, Nat.min_eq_left, Nat.min_eq_right, Int.reducePow, Nat.reducePow, Int.reduceLE, Int.reduceLT, Int.reduceMul, Int.reduceAdd, Int.reduceSub, Int.reduceNeg, Bool.not_true, Bool.not_false, Bool.not_not, ↓reduceIte, Nat.reduceAdd, Nat.reduceSub, Nat.reduceMul, Nat.reduceEqDiff, reduceCtorEq, Nat.reduceLT, Nat.reduceLeDiff, Nat.reduceGT]; exact rfl); (case' LH2 => rintro k E t hx hE ht; simp only [go_sem] at ht; subst ht; simp only [go_sem]; try dsimp only at hx))
            case hi_1 => exact Nat.zero_le _
            case h0_1 =>
              (focus (refine ⟨_, _, Gh.refl, [0, 1], rfl, ?_⟩; (refine ⟨?_, ?_, ?_⟩ <;> simp only [go_sem, List.range, List.range.loop, List.nodup_cons, List.nodup_nil, List.mem_cons, List.not_mem_nil, or_false, or_self, Int.reduceToNat, Nat.min_eq_left, Nat.min_eq_right, Int.reducePow, Nat.reducePow, Int.reduceLE, Int.reduceLT, Int.reduceMul, Int.reduceAdd, Int.reduceSub, Int.reduceNeg, Bool.not_true, Bool.not_false, Bool.not_not, ↓reduceIte, Nat.reduceAdd, Nat.reduceSub, Nat.reduceMul, Nat.reduceEqDiff, reduceCtorEq, Nat.reduceLT, Nat.reduceLeDiff, Nat.reduceGT]); (try any_goals (refine ⟨?_, ?_⟩)); (try any_goals (with_reducible rfl))))
              rfl
            case LH2 =>
              have hw : IntKind.i64.wrap ((k : Int) + 1) = ((k + 1 : Nat) : Int) := by rw [wrap_i64 _ (by omega) (by omega)]; omega
              have hu := nm_eq (k := k) (by omega)
              have hnm : [(102 : UInt8), UInt8.ofNat (33 + k)] = nm2 102 k := rfl
              have hn8' : (nm2 102 k).length ≤ 9223372036854775807 := by unfold nm2; simp
              have hu2' : IntKind.u8.wrap (IntKind.i64.wrap (33 + (k : Int))) < 256 := by rw [wrap_i64 _ (by omega) (by omega), wrap_u8]; omega
              have hlenK : ∀ i, i < l.length → lenK l J [] i ≤ 100 := fun i hi => by
                unfold lenK
                split
                · first | omega | simp
                · exact hle i hi
              by_cases hk : k < l.length
              · have hkd : decide ((k : Int) < l.length) = true := decide_eq_true (by omega)
                have h1 := accN_le (n := k + 1) fun i hi => hlenK i (by omega)
                have hacc : accN (lenK l J []) (k + 1) = accN (lenK l J []) k + lenK l J [] k := rfl
                by_cases e : k = J
                · subst e
                  have hg : lenK l k [] k = List.length ([] : Str) := by simp [lenK]
                  simp only [List.length_nil] at hg
                  have w1 : IntKind.i64.wrap ((accN (lenK l k []) k : Int) + 0) = accN (lenK l k []) (k + 1) := by rw [wrap_i64 _ (by omega) (by omega)]; omega
                  (have zx1 := @hkd; have zx2 := @hu; have zx3 := @hnm; have zx4 := @w1; all_goals (try ((first | (with_reducible refine wp_id ?_) | (with_reducible refine does_id ?_)); refine walk ?_; (repeat' (first | exact trivial | with_reducible refine And.intro ?_ ?_)); all_goals (repeat (first | (with_reducible refine ImpB.mk fun hb => ?_) | (with_reducible refine ImpK.mk fun hK => ?_) | (with_reducible refine ImpF.mk fun hF => ?_) | (with_reducible refine ImpQ.mk fun hp => ?_) | (with_reducible refine AllE.mk fun p => ?_) | (with_reducible refine AllR.mk fun rest => ?_) | (with_reducible refine AllK.mk fun K => ?_))))); repeat' (with_reducible refine And.intro ?_ ?_))
                  all_goals first | exact hu2' | exact Int.natCast_nonneg _ | exact Int.ofNat_lt.2 hk | (exfalso; simp at hb; done) | (exfalso; exact absurd (by assumption : decide False = true) (by decide)) | skip
                  all_goals
                    refine ⟨k + 1, ⟨by first | omega | (dsimp only; omega), by first | omega | (dsimp only; omega)⟩, ?_⟩
                    (focus (refine ⟨_, _, Gh.refl, [0, 1], rfl, ?_⟩; (refine ⟨?_, ?_, ?_⟩ <;> simp only [go_sem, List.range, List.range.loop, List.nodup_cons, List.nodup_nil, List.mem_cons, List.not_mem_nil, or_false, or_self, Int.reduceToNat, Nat.min_eq_left, Nat.min_eq_right, Int.reducePow, Nat.reducePow, Int.reduceLE, Int.reduceLT, Int.reduceMul, Int.reduceAdd, Int.reduceSub, Int.reduceNeg, Bool.not_true, Bool.not_false, Bool.not_not, ↓reduceIte, Nat.reduceAdd, Nat.reduceSub, Nat.reduceMul, Nat.reduceEqDiff, reduceCtorEq, Nat.reduceLT, Nat.reduceLeDiff, Nat.reduceGT]); (try any_goals (refine ⟨?_, ?_⟩)); (try any_goals (with_reducible rfl))))
                    all_goals first | exact hw.symm | exact w1 | skip
                · have hked : decide (¬ (k : Int) = J) = true := decide_eq_true (by omega)
                  have hg : lenK l J [] k = (lAt l k).length := by simp [lenK, e]
                  have w1 : IntKind.i64.wrap ((accN (lenK l J []) k : Int) + ((lAt l k).length : Int)) = accN (lenK l J []) (k + 1) := by rw [wrap_i64 _ (by omega) (by omega)]; omega
                  have hfk := hoff k hk e
                  (have zx1 := @hkd; have zx2 := @hked; have zx3 := @hu; have zx4 := @hnm; have zx5 := @w1; all_goals (try ((first | (with_reducible refine wp_id ?_) | (with_reducible refine does_id ?_)); refine walk ?_; (repeat' (first | exact trivial | with_reducible refine And.intro ?_ ?_)); all_goals (repeat (first | (with_reducible refine ImpB.mk fun hb => ?_) | (with_reducible refine ImpK.mk fun hK => ?_) | (with_reducible refine ImpF.mk fun hF => ?_) | (with_reducible refine ImpQ.mk fun hp => ?_) | (with_reducible refine AllE.mk fun p => ?_) | (with_reducible refine AllR.mk fun rest => ?_) | (with_reducible refine AllK.mk fun K => ?_))))); repeat' (with_reducible refine And.intro ?_ ?_))
                  all_goals first | exact hu2' | exact Int.natCast_nonneg _ | exact Int.ofNat_lt.2 hk | (exfalso; simp at hb; done) | (exfalso; exact absurd (by assumption : decide False = true) (by decide)) | skip
                  all_goals
                    refine ⟨k + 1, ⟨by first | omega | (dsimp only; omega), by first | omega | (dsimp only; omega)⟩, ?_⟩
                    (focus (refine ⟨_, _, Gh.refl, [0, 1], rfl, ?_⟩; (refine ⟨?_, ?_, ?_⟩ <;> simp only [go_sem, List.range, List.range.loop, List.nodup_cons, List.nodup_nil, List.mem_cons, List.not_mem_nil, or_false, or_self, Int.reduceToNat, Nat.min_eq_left, Nat.min_eq_right, Int.reducePow, Nat.reducePow, Int.reduceLE, Int.reduceLT, Int.reduceMul, Int.reduceAdd, Int.reduceSub, Int.reduceNeg, Bool.not_true, Bool.not_false, Bool.not_not, ↓reduceIte, Nat.reduceAdd, Nat.reduceSub, Nat.reduceMul, Nat.reduceEqDiff, reduceCtorEq, Nat.reduceLT, Nat.reduceLeDiff, Nat.reduceGT]); (try any_goals (refine ⟨?_, ?_⟩)); (try any_goals (with_reducible rfl))))
                    all_goals first | exact hw.symm | exact w1 | skip
              · have hkd : decide ((k : Int) < l.length) = false := decide_eq_false (by omega)
                have hkn : k = l.length := by omega
                subst hkn
                by_cases hJn : J < l.length
                · have hjd : decide ((l.length : Int) ≤ J) = false := decide_eq_false (by omega)
                  have hs0 : sumL kv' = accN (lenK l J []) l.length := by rw [hall, if_pos hJn]; rfl
                  have hb1 := accN_le (n := l.length) fun i hi => hlenK i hi
                  have hs1 : (sumL kv' : Int) ≤ 10000 := by omega
                  have w2 : IntKind.i64.wrap (10000 - (accN (lenK l J []) l.length : Int)) = 10000 - sumL kv' := by rw [wrap_i64 _ (by omega) (by omega)]; omega
                  (have zx1 := @hkd; have zx2 := @hjd; have zx3 := @hod; have zx4 := @hod2; have zx5 := @w2; all_goals (try ((first | (with_reducible refine wp_id ?_) | (with_reducible refine does_id ?_)); refine walk ?_; (repeat' (first | exact trivial | with_reducible refine And.intro ?_ ?_)); all_goals (repeat (first | (with_reducible refine ImpB.mk fun hb => ?_) | (with_reducible refine ImpK.mk fun hK => ?_) | (with_reducible refine ImpF.mk fun hF => ?_) | (with_reducible refine ImpQ.mk fun hp => ?_) | (with_reducible refine AllE.mk fun p => ?_) | (with_reducible refine AllR.mk fun rest => ?_) | (with_reducible refine AllK.mk fun K => ?_))))); repeat' (with_reducible refine And.intro ?_ ?_))
                  all_goals first | (exfalso; simp at hb; done) | exact hs1 | skip
                  (focus (refine ⟨_, _, Gh.refl, [], rfl, ?_⟩; (refine ⟨?_, ?_, ?_⟩ <;> simp only [go_sem, List.range, List.range.loop, List.nodup_cons, List.nodup_nil, List.mem_cons, List.not_mem_nil, or_false, or_self, Int.reduceToNat, Nat.min_eq_left, Nat.min_eq_right, Int.reducePow, Nat.reducePow, Int.reduceLE, Int.reduceLT, Int.reduceMul, Int.reduceAdd, Int.reduceSub, Int.reduceNeg, Bool.not_true, Bool.not_false, Bool.not_not, ↓reduceIte, Nat.reduceAdd, Nat.reduceSub, Nat.reduceMul, Nat.reduceEqDiff, reduceCtorEq, Nat.reduceLT, Nat.reduceLeDiff, Nat.reduceGT]); (try any_goals (refine ⟨?_, ?_⟩)); (try any_goals (with_reducible rfl))))
                · have hjd : decide ((l.length : Int) ≤ J) = true := decide_eq_true (by omega)
                  have hs0 : sumL kv' = accN (lenK l J []) l.length + List.length ([] : Str) := by rw [hall, if_neg hJn]
                  simp only [List.length_nil] at hs0
                  have hb1 := accN_le (n := l.length) fun i hi => hlenK i hi
                  have hs1 : (sumL kv' : Int) ≤ 10000 := by omega
                  have w3 : IntKind.i64.wrap ((accN (lenK l J []) l.length : Int) + 0) = sumL kv' := by rw [wrap_i64 _ (by omega) (by omega)]; omega
                  have w2 : IntKind.i64.wrap (10000 - (sumL kv' : Int)) = 10000 - sumL kv' := by rw [wrap_i64 _ (by omega) (by omega)]
                  (have zx1 := @hkd; have zx2 := @hjd; have zx3 := @hod; have zx4 := @hod2; have zx5 := @w3; have zx6 := @w2; all_goals (try ((first | (with_reducible refine wp_id ?_) | (with_reducible refine does_id ?_)); refine walk ?_; (repeat' (first | exact trivial | with_reducible refine And.intro ?_ ?_)); all_goals (repeat (first | (with_reducible refine ImpB.mk fun hb => ?_) | (with_reducible refine ImpK.mk fun hK => ?_) | (with_reducible refine ImpF.mk fun hF => ?_) | (with_reducible refine ImpQ.mk fun hp => ?_) | (with_reducible refine AllE.mk fun p => ?_) | (with_reducible refine AllR.mk fun rest => ?_) | (with_reducible refine AllK.mk fun K => ?_))))); repeat' (with_reducible refine And.intro ?_ ?_))
                  all_goals first | (exfalso; simp at hb; done) | exact hs1 | skip
                  (focus (refine ⟨_, _, Gh.refl, [], rfl, ?_⟩; (refine ⟨?_, ?_, ?_⟩ <;> simp only [go_sem, List.range, List.range.loop, List.nodup_cons, List.nodup_nil, List.mem_cons, List.not_mem_nil, or_false, or_self, Int.reduceToNat, Nat.min_eq_left, Nat.min_eq_right, Int.reducePow, Nat.reducePow, Int.reduceLE, Int.reduceLT, Int.reduceMul, Int.reduceAdd, Int.reduceSub, Int.reduceNeg, Bool.not_true, Bool.not_false, Bool.not_not, ↓reduceIte, Nat.reduceAdd, Nat.reduceSub, Nat.reduceMul, Nat.reduceEqDiff, reduceCtorEq, Nat.reduceLT, Nat.reduceLeDiff, Nat.reduceGT]); (try any_goals (refine ⟨?_, ?_⟩)); (try any_goals (with_reducible rfl))))
          · have hod : decide (128 ≤ o) = false := decide_eq_false ho8
            have hod2 : decide (o < 128) = true := decide_eq_true (by omega)
            have hL := left_put (l := l) (n := l.length) (K := J) (d := d) (by omega) hJ40
            have hP : putE 64 10000 (kvK l l.length) (nm2 102 J) d = 0 := by
              unfold putE
              rw [if_pos (nm2_ok chr102 (by omega)), if_neg (by omega), if_neg]
              rintro (⟨_, q⟩ | q)
              · omega
              · omega
            have hM : putM 64 10000 (kvK l l.length) (nm2 102 J) d = msetS (kvK l l.length) (nm2 102 J) d := by unfold putM; rw [if_pos hP]
            obtain ⟨kv', hkv'⟩ : ∃ y, msetS (kvK l l.length) (nm2 102 J) d = y := ⟨_, rfl⟩
            rw [hkv'] at hL hM
            (have zx1 := @hkd; have zx2 := @hod; have zx3 := @hod2; have zx4 := @wo; have zx5 := @hJ; have zx6 := @wJ; have zx7 := @huJ; have zx8 := @hnJ; have zx9 := @hP; have zx10 := @hM; all_goals (try ((first | (with_reducible refine wp_id ?_) | (with_reducible refine does_id ?_)); refine walk ?_; (repeat' (first | exact trivial | with_reducible refine And.intro ?_ ?_)); all_goals (repeat (first | (with_reducible refine ImpB.mk fun hb => ?_) | (with_reducible refine ImpK.mk fun hK => ?_) | (with_reducible refine ImpF.mk fun hF => ?_) | (with_reducible refine ImpQ.mk fun hp => ?_) | (with_reducible refine AllE.mk fun p => ?_) | (with_reducible refine AllR.mk fun rest => ?_) | (with_reducible refine AllK.mk fun K => ?_))))); repeat' (with_reducible refine And.intro ?_ ?_))
            all_goals first | exact hu2 | exact hn8 | (exfalso; simp at hb; done) | (exfalso; exact absurd (by assumption : decide False = true) (by decide)) | skip
            have hat := hL.at_
            have hoff := hL.off
            have hall := hL.all
            any_goals (refine w_loop (A := Nat) (fun k => k ≤ l.length) (fun k => l.length - k) (fun k => [(11, .int .i64 (accN (lenK l J d) k)), (12, .int .i64 k)]) (fun k => []) (0) (ws := ?ws3) (tk := ?tk3) ?hw3 ?ht3 ?hi_2 ?h0_2 ?LH3; (case hw3 => simp only [go_sem, Int.reduceToNat, Nat.min_eq_left, Nat.min_eq_right, Int.reducePow, Nat.reducePow, Int.reduceLE, Int.reduceLT, Int.reduceMul, Int.reduceAdd, Int.reduceSub, Int.reduceNeg, Bool.not_true, Bool.not_false, Bool.not_not, ↓reduceIte, Nat.reduceAdd, Nat.reduceSub, Nat.reduceMul, Nat.reduceEqDiff, reduceCtorEq, Nat.reduceLT, Nat.reduceLeDiff, Nat.reduceGT]; exact rfl); (case ht3 => simp only [go_sem, Int.reduceToNat, Nat.min_eq_left, Nat.min_eq_right, Int.reducePow, Nat.reducePow, Int.reduceLE, Int.reduceLT, Int.reduceMul, Int.reduceAdd, Int.reduceSub, Int.reduceNeg, Bool.not_true, Bool.not_false, Bool.not_not, ↓reduceIte, Nat.reduceAdd, Nat.reduceSub, Nat.reduceMul, Nat.reduceEqDiff, reduceCtorEq, Nat.reduceLT, Nat.reduceLeDiff, Nat.reduceGT]; exact rfl); (case' LH3 => rintro k E t hx hE ht; simp only [go_sem] at ht; subst ht; simp only [go_sem]; try dsimp only at hx))
            case hi_2 => exact Nat.zero_le _
            case h0_2 =>
              (focus (refine ⟨_, _, Gh.refl, [0, 1], rfl, ?_⟩; (refine ⟨?_, ?_, ?_⟩ <;> simp only [go_sem, List.range, List.range.loop, List.nodup_cons, List.nodup_nil, List.mem_cons, List.not_mem_nil, or_false, or_self, Int.reduceToNat, Nat.min_eq_left, Nat.min_eq_right, Int.reducePow, Nat.reducePow, Int.reduceLE, Int.reduceLT, Int.reduceMul, Int.reduceAdd, Int.reduceSub, Int.reduceNeg, Bool.not_true, Bool.not_false, Bool.not_not, ↓reduceIte, Nat.reduceAdd, Nat.reduceSub, Nat.reduceMul, Nat.reduceEqDiff, reduceCtorEq, Nat.reduceLT, Nat.reduceLeDiff, Nat.reduceGT]); (try any_goals (refine ⟨?_, ?_⟩)); (try any_goals (with_reducible rfl))))
              rfl
            case LH3 =>
              have hw : IntKind.i64.wrap ((k : Int) + 1) = ((k + 1 : Nat) : Int) := by rw [wrap_i64 _ (by omega) (by omega)]; omega
              have hu := nm_eq (k := k) (by omega)
              have hnm : [(102 : UInt8), UInt8.ofNat (33 + k)] = nm2 102 k := rfl
              have hn8' : (nm2 102 k).length ≤ 9223372036854775807 := by unfold nm2; simp
              have hu2' : IntKind.u8.wrap (IntKind.i64.wrap (33 + (k : Int))) < 256 := by rw [wrap_i64 _ (by omega) (by omega), wrap_u8]; omega
              have hlenK : ∀ i, i < l.length → lenK l J d i ≤ 100 := fun i hi => by
                unfold lenK
                split
                · first | omega | simp
                · exact hle i hi
              by_cases hk : k < l.length
              · have hkd : decide ((k : Int) < l.length) = true := decide_eq_true (by omega)
                have h1 := accN_le (n := k + 1) fun i hi => hlenK i (by omega)
                have hacc : accN (lenK l J d) (k + 1) = accN (lenK l J d) k + lenK l J d k := rfl
                by_cases e : k = J
                · subst e
                  have hg : lenK l k d k = List.length (d : Str) := by simp [lenK]
                  have w1 : IntKind.i64.wrap ((accN (lenK l k d) k : Int) + ((List.length (d : Str) : Nat) : Int)) = accN (lenK l k d) (k + 1) := by rw [wrap_i64 _ (by omega) (by omega)]; omega
                  (have zx1 := @hkd; have zx2 := @hu; have zx3 := @hnm; have zx4 := @w1; all_goals (try ((first | (with_reducible refine wp_id ?_) | (with_reducible refine does_id ?_)); refine walk ?_; (repeat' (first | exact trivial | with_reducible refine And.intro ?_ ?_)); all_goals (repeat (first | (with_reducible refine ImpB.mk fun hb => ?_) | (with_reducible refine ImpK.mk fun hK => ?_) | (with_reducible refine ImpF.mk fun hF => ?_) | (with_reducible refine ImpQ.mk fun hp => ?_) | (with_reducible refine AllE.mk fun p => ?_) | (with_reducible refine AllR.mk fun rest => ?_) | (with_reducible refine AllK.mk fun K => ?_))))); repeat' (with_reducible refine And.intro ?_ ?_))
                  all_goals first | exact hu2' | exact Int.natCast_nonneg _ | exact Int.ofNat_lt.2 hk | (exfalso; simp at hb; done) | (exfalso; exact absurd (by assumption : decide False = true) (by decide)) | skip
                  all_goals
                    refine ⟨k + 1, ⟨by first | omega | (dsimp only; omega), by first | omega | (dsimp only; omega)⟩, ?_⟩
                    (focus (refine ⟨_, _, Gh.refl, [0, 1], rfl, ?_⟩; (refine ⟨?_, ?_, ?_⟩ <;> simp only [go_sem, List.range, List.range.loop, List.nodup_cons, List.nodup_nil, List.mem_cons, List.not_mem_nil, or_false, or_self, Int.reduceToNat, Nat.min_eq_left, Nat.min_eq_right, Int.reducePow, Nat.reducePow, Int.reduceLE, Int.reduceLT, Int.reduceMul, Int.reduceAdd, Int.reduceSub, Int.reduceNeg, Bool.not_true, Bool.not_false, Bool.not_not, ↓reduceIte, Nat.reduceAdd, Nat.reduceSub, Nat.reduceMul, Nat.reduceEqDiff, reduceCtorEq, Nat.reduceLT, Nat.reduceLeDiff, Nat.reduceGT]); (try any_goals (refine ⟨?_, ?_⟩)); (try any_goals (with_reducible rfl))))
                    all_goals first | exact hw.symm | exact w1 | skip
                · have hked : decide (¬ (k : Int) = J) = true := decide_eq_true (by omega)
                  have hg : lenK l J d k = (lAt l k).length := by simp [lenK, e]
                  have w1 : IntKind.i64.wrap ((accN (lenK l J d) k : Int) + ((lAt l k).length : Int)) = accN (lenK l J d) (k + 1) := by rw [wrap_i64 _ (by omega) (by omega)]; omega
                  have hfk := hoff k hk e
                  (have zx1 := @hkd; have zx2 := @hked; have zx3 := @hu; have zx4 := @hnm; have zx5 := @w1; all_goals (try ((first | (with_reducible refine wp_id ?_) | (with_reducible refine does_id ?_)); refine walk ?_; (repeat' (first | exact trivial | with_reducible refine And.intro ?_ ?_)); all_goals (repeat (first | (with_reducible refine ImpB.mk fun hb => ?_) | (with_reducible refine ImpK.mk fun hK => ?_) | (with_reducible refine ImpF.mk fun hF => ?_) | (with_reducible refine ImpQ.mk fun hp => ?_) | (with_reducible refine AllE.mk fun p => ?_) | (with_reducible refine AllR.mk fun rest => ?_) | (with_reducible refine AllK.mk fun K => ?_))))); repeat' (with_reducible refine And.intro ?_ ?_))
                  all_goals first | exact hu2' | exact Int.natCast_nonneg _ | exact Int.ofNat_lt.2 hk | (exfalso; simp at hb; done) | (exfalso; exact absurd (by assumption : decide False = true) (by decide)) | skip
                  all_goals
                    refine ⟨k + 1, ⟨by first | omega | (dsimp only; omega), by first | omega | (dsimp only; omega)⟩, ?_⟩
                    (focus (refine ⟨_, _, Gh.refl, [0, 1], rfl, ?_⟩; (refine ⟨?_, ?_, ?_⟩ <;> simp only [go_sem, List.range, List.range.loop, List.nodup_cons, List.nodup_nil, List.mem_cons, List.not_mem_nil, or_false, or_self, Int.reduceToNat, Nat.min_eq_left, Nat.min_eq_right, Int.reducePow, Nat.reducePow, Int.reduceLE, Int.reduceLT, Int.reduceMul, Int.reduceAdd, Int.reduceSub, Int.reduceNeg, Bool.not_true, Bool.not_false, Bool.not_not, ↓reduceIte, Nat.reduceAdd, Nat.reduceSub, Nat.reduceMul, Nat.reduceEqDiff, reduceCtorEq, Nat.reduceLT, Nat.reduceLeDiff, Nat.reduceGT]); (try any_goals (refine ⟨?_, ?_⟩)); (try any_goals (with_reducible rfl))))
                    all_goals first | exact hw.symm | exact w1 | skip
              · have hkd : decide ((k : Int) < l.length) = false := decide_eq_false (by omega)
                have hkn : k = l.length := by omega
                subst hkn
                by_cases hJn : J < l.length
                · have hjd : decide ((l.length : Int) ≤ J) = false := decide_eq_false (by omega)
                  have hs0 : sumL kv' = accN (lenK l J d) l.length := by rw [hall, if_pos hJn]; rfl
                  have hb1 := accN_le (n := l.length) fun i hi => hlenK i hi
                  have hs1 : (sumL kv' : Int) ≤ 10000 := by omega
                  have w2 : IntKind.i64.wrap (10000 - (accN (lenK l J d) l.length : Int)) = 10000 - sumL kv' := by rw [wrap_i64 _ (by omega) (by omega)]; omega
                  (have zx1 := @hkd; have zx2 := @hjd; have zx3 := @hod; have zx4 := @hod2; have zx5 := @w2; all_goals (try ((first | (with_reducible refine wp_id ?_) | (with_reducible refine does_id ?_)); refine walk ?_; (repeat' (first | exact trivial | with_reducible refine And.intro ?_ ?_)); all_goals (repeat (first | (with_reducible refine ImpB.mk fun hb => ?_) | (with_reducible refine ImpK.mk fun hK => ?_) | (with_reducible refine ImpF.mk fun hF => ?_) | (with_reducible refine ImpQ.mk fun hp => ?_) | (with_reducible refine AllE.mk fun p => ?_) | (with_reducible refine AllR.mk fun rest => ?_) | (with_reducible refine AllK.mk fun K => ?_))))); repeat' (with_reducible refine And.intro ?_ ?_))
                  all_goals first | (exfalso; simp at hb; done) | exact hs1 | skip
                  (focus (refine ⟨_, _, Gh.refl, [], rfl, ?_⟩; (refine ⟨?_, ?_, ?_⟩ <;> simp only [go_sem, List.range, List.range.loop, List.nodup_cons, List.nodup_nil, List.mem_cons, List.not_mem_nil, or_false, or_self, Int.reduceToNat, Nat.min_eq_left, Nat.min_eq_right, Int.reducePow, Nat.reducePow, Int.reduceLE, Int.reduceLT, Int.reduceMul, Int.reduceAdd, Int.reduceSub, Int.reduceNeg, Bool.not_true, Bool.not_false, Bool.not_not, ↓reduceIte, Nat.reduceAdd, Nat.reduceSub, Nat.reduceMul, Nat.reduceEqDiff, reduceCtorEq, Nat.reduceLT, Nat.reduceLeDiff, Nat.reduceGT]); (try any_goals (refine ⟨?_, ?_⟩)); (try any_goals (with_reducible rfl))))
                · have hjd : decide ((l.length : Int) ≤ J) = true := decide_eq_true (by omega)
                  have hs0 : sumL kv' = accN (lenK l J d) l.length + List.length (d : Str) := by rw [hall, if_neg hJn]
                  have hb1 := accN_le (n := l.length) fun i hi => hlenK i hi
                  have hs1 : (sumL kv' : Int) ≤ 10000 := by omega
                  have w3 : IntKind.i64.wrap ((accN (lenK l J d) l.length : Int) + (d.length : Int)) = sumL kv' := by rw [wrap_i64 _ (by omega) (by omega)]; omega
                  have w2 : IntKind.i64.wrap (10000 - (sumL kv' : Int)) = 10000 - sumL kv' := by rw [wrap_i64 _ (by omega) (by omega)]
                  (have zx1 := @hkd; have zx2 := @hjd; have zx3 := @hod; have zx4 := @hod2; have zx5 := @w3; have zx6 := @w2; all_goals (try ((first | (with_reducible refine wp_id ?_) | (with_reducible refine does_id ?_)); refine walk ?_; (repeat' (first | exact trivial | with_reducible refine And.intro ?_ ?_)); all_goals (repeat (first | (with_reducible refine ImpB.mk fun hb => ?_) | (with_reducible refine ImpK.mk fun hK => ?_) | (with_reducible refine ImpF.mk fun hF => ?_) | (with_reducible refine ImpQ.mk fun hp => ?_) | (with_reducible refine AllE.mk fun p => ?_) | (with_reducible refine AllR.mk fun rest => ?_) | (with_reducible refine AllK.mk fun K => ?_))))); repeat' (with_reducible refine And.intro ?_ ?_))
                  all_goals first | (exfalso; simp at hb; done) | exact hs1 | skip
                  (focus (refine ⟨_, _, Gh.refl, [], rfl, ?_⟩; (refine ⟨?_, ?_, ?_⟩ <;> simp only [go_sem, List.range, List.range.loop, List.nodup_cons, List.nodup_nil, List.mem_cons, List.not_mem_nil, or_false, or_self, Int.reduceToNat, Nat.min_eq_left, Nat.min_eq_right, Int.reducePow, Nat.reducePow, Int.reduceLE, Int.reduceLT, Int.reduceMul, Int.reduceAdd, Int.reduceSub, Int.reduceNeg, Bool.not_true, Bool.not_false, Bool.not_not, ↓reduceIte, Nat.reduceAdd, Nat.reduceSub, Nat.reduceMul, Nat.reduceEqDiff, reduceCtorEq, Nat.reduceLT, Nat.reduceLeDiff, Nat.reduceGT]); (try any_goals (refine ⟨?_, ?_⟩)); (try any_goals (with_reducible rfl))))
end Go.V

namespace Go.V
/-- all that lies in the memory at the start lies for good -/
def oldR (w : World) : RO := fun b => w.heap[b]?
theorem old_ok (w : World) : HOk (oldR w) [] [] w := ⟨trivial, by simp [ownH], fun b hb => by simp [ownH] at hb, fun _ _ h => h⟩
theorem cell_of {w : World} {a : Addr} {v : Value} (h : w.cell? a = some v) : a.spot = none ∧ ∃ arr ty fr, w.heap[a.block]? = some (.cells arr ty fr) ∧ arr[a.off]? = some v := by
  unfold World.cell? at h
  split at h
  · rename_i c ty fr hc
    split at h
    · simp at h
    · rename_i hs
      exact ⟨by simpa using hs, c, ty, fr, hc, h⟩
  · simp at h
theorem add_block (a : Addr) (i : Nat) : (a.add i).block = a.block := by
  unfold Addr.add
  split <;> rfl
theorem add_off (a : Addr) (i : Nat) : (a.add i).off = a.off + i := by
  unfold Addr.add
  split
  · simp_all
  · rfl
/-- some cells in a row -/
theorem cells_of {w : World} {base : Nat} {a : Addr} {n : Nat} {cs : List Value} (h : w.cells? base a n = some cs) (hn : 0 < n) : a.spot = none ∧ ∃ arr ty fr, w.heap[a.block]? = some (.cells arr ty fr) ∧ (arr.toList.drop a.off).take n = cs := by
  obtain ⟨_, hl, hg⟩ := World.cells?_some h
  have h0 := hg 0 hn
  rw [List.getElem?_eq_getElem (by omega)] at h0
  obtain ⟨hs, arr, ty, fr, hb, _⟩ := cell_of h0
  rw [add_block] at hb
  refine ⟨by simpa [Addr.add] using hs, arr, ty, fr, hb, ?_⟩
  apply List.ext_getElem?
  intro i
  by_cases hi : i < n
  · have h1 := hg i hi
    rw [List.getElem?_eq_getElem (show i < cs.length by omega)] at h1
    obtain ⟨_, arr', ty', fr', hb', h2⟩ := cell_of h1
    rw [add_block, hb] at hb'
    cases hb'
    rw [add_off] at h2
    rw [List.getElem?_take_of_lt hi, List.getElem?_drop, List.getElem?_eq_getElem (show i < cs.length by omega)]
    simpa using h2
  · rw [List.getElem?_eq_none (by simp; omega), List.getElem?_eq_none (by omega)]
/-- a type: what reads as data of it lies as one of these lists of abstract values -/
def Opens (P : Program) (w : World) (t : TypeId) (S : List AV → Prop) : Prop :=
  ∀ (H : Type) (enc : TypeId × Value → H) (base : Nat) (spare : Nat → Bool) (held : Bool) (fuel : Nat) (cs : List Value) (x : DataW H × List MemPlace), DataW.trod enc P w base spare held fuel t cs = some x → ∃ l, S l ∧ LRel (oldR w) [] l cs
section
variable {P : Program} {w : World}
theorem Opens.mono {t : TypeId} {S S' : List AV → Prop} (h : Opens P w t S) (hs : ∀ l, S l → S' l) : Opens P w t S' := fun H enc base spare held fuel cs x hx => by
  obtain ⟨l, h1, h2⟩ := h H enc base spare held fuel cs x hx
  exact ⟨l, hs l h1, h2⟩
theorem Opens.int {t : TypeId} {k : IntKind} (ht : P.underlying t = some (.int k)) : Opens P w t fun l => ∃ n, k.has n ∧ l = [.int k n] := fun H enc base spare held fuel cs x hx => by
  cases fuel with
  | zero => simp [DataW.trod] at hx
  | succ fuel =>
    unfold DataW.trod at hx
    simp only [ht] at hx
    split at hx
    all_goals first | (rename_i h1 _; cases h1; done) | skip
    all_goals simp_all
    rename_i k' n h1
    subst h1
    obtain ⟨⟨rfl, h2⟩, _⟩ := hx
    exact ⟨_, ⟨n, by simpa [Lit.wf, IntKind.has] using h2, rfl⟩, .cons .int .nil⟩
theorem Opens.bool {t : TypeId} (ht : P.underlying t = some .bool) : Opens P w t fun l => ∃ b, l = [.bool b] := fun H enc base spare held fuel cs x hx => by
  cases fuel with
  | zero => simp [DataW.trod] at hx
  | succ fuel =>
    unfold DataW.trod at hx
    simp only [ht] at hx
    split at hx
    all_goals simp_all
    rename_i b
    cases b
    · exact .inl (.cons .bool .nil)
    · exact .inr (.cons .bool .nil)
theorem Opens.str {t : TypeId} (ht : P.underlying t = some .string) : Opens P w t fun l => ∃ s : List UInt8, s.length ≤ maxLen ∧ l = [.str s] := fun H enc base spare held fuel cs x hx => by
  cases fuel with
  | zero => simp [DataW.trod] at hx
  | succ fuel =>
    unfold DataW.trod at hx
    simp only [ht] at hx
    split at hx
    all_goals simp_all
    rename_i s
    exact ⟨[.str s.data.toList], ⟨_, by simpa using hx.1, rfl⟩, .cons .str .nil⟩
theorem Opens.struct {t : TypeId} {fs : Array Field} {Ss : List (List AV → Prop)} (ht : P.underlying t = some (.struct fs)) (hl : fs.size = Ss.length)
    (hS : ∀ (i : Nat) (f : Field) (S : List AV → Prop), fs[i]? = some f → Ss[i]? = some S → Opens P w f.type S)
    (hoff : ∀ (i : Nat) (f : Field), fs[i]? = some f → f.offset = ((fs.toList.take i).map fun g => P.cellsOf g.type).sum) (hsz : P.cellsOf t = (fs.toList.map fun g => P.cellsOf g.type).sum) :
    Opens P w t fun l => ∃ ls : List (List AV), ls.length = Ss.length ∧ (∀ (i : Nat) (S : List AV → Prop) (m : List AV), Ss[i]? = some S → ls[i]? = some m → S m) ∧ l = ls.flatten := fun H enc base spare held fuel cs x hx => by
  obtain ⟨xs, n, _, _, hlen, hxs, hf⟩ := DataW.trod_struct ht hx
  have key : ∀ k, k ≤ fs.size → ∃ ls : List (List AV), ls.length = k ∧ (∀ (i : Nat) (S : List AV → Prop) (m : List AV), Ss[i]? = some S → ls[i]? = some m → S m) ∧ LRel (oldR w) [] ls.flatten (cs.take (((fs.toList.take k).map fun g => P.cellsOf g.type).sum)) := by
    intro k
    induction k with
    | zero => intro _; exact ⟨[], rfl, fun i S m _ h => by simp at h, by simp; exact .nil⟩
    | succ k ih =>
      intro hk
      obtain ⟨ls, h1, h2, h3⟩ := ih (by omega)
      have hfk : fs[k]? = some fs[k] := by simp [show k < fs.size by omega]
      have hSk : Ss[k]? = some (Ss[k]'(by omega)) := by simp [show k < Ss.length by omega]
      have hx := hf k _ hfk
      rw [List.getElem?_eq_getElem (by omega)] at hx
      obtain ⟨m, h4, h5⟩ := hS k _ _ hfk hSk H enc base spare held n _ _ hx
      refine ⟨ls ++ [m], by simp [h1], fun i S m' hS' hm' => ?_, ?_⟩
      · by_cases hi : i < ls.length
        · rw [List.getElem?_append_left hi] at hm'
          exact h2 i S m' hS' hm'
        · have : i = k := by
            have := (List.getElem?_eq_some_iff.1 hm').1
            simp at this
            omega
          subst this
          rw [List.getElem?_append_right (by omega), h1] at hm'
          simp at hm'
          subst hm'
          rw [hSk] at hS'
          cases hS'
          exact h4
      · rw [List.flatten_append, List.flatten_singleton, List.take_succ_eq_append_getElem (show k < fs.toList.length by simp; omega), List.map_append, List.sum_append, List.take_add]
        rw [hoff k _ hfk] at h5
        have e : fs.toList[k] = fs[k] := by simp
        rw [e]
        simp only [List.map_cons, List.map_nil, List.sum_cons, List.sum_nil, Nat.add_zero]
        exact h3.app h5
  obtain ⟨ls, h1, h2, h3⟩ := key fs.size (Nat.le_refl _)
  refine ⟨ls.flatten, ⟨ls, by omega, h2, rfl⟩, ?_⟩
  rw [List.take_of_length_le (l := fs.toList) (by simp), ← hsz, ← hlen, List.take_length] at h3
  exact h3
def OpL (P : Program) (w : World) : List Field → List (List AV → Prop) → Prop
  | [], [] => True
  | f :: fs, S :: Ss => Opens P w f.type S ∧ OpL P w fs Ss
  | _, _ => False
def offB (P : Program) : List Field → Nat → Bool
  | [], _ => true
  | f :: fs, n => (f.offset == n) && offB P fs (n + P.cellsOf f.type)
theorem OpL.len : ∀ {fs : List Field} {Ss : List (List AV → Prop)}, OpL P w fs Ss → fs.length = Ss.length
  | [], [], _ => rfl
  | _ :: _, _ :: _, h => by simp [OpL.len h.2]
  | [], _ :: _, h => h.elim
  | _ :: _, [], h => h.elim
theorem OpL.get : ∀ {fs : List Field} {Ss : List (List AV → Prop)} (i : Nat) {f : Field} {S : List AV → Prop}, OpL P w fs Ss → fs[i]? = some f → Ss[i]? = some S → Opens P w f.type S
  | _ :: _, _ :: _, 0, _, _, h, e1, e2 => by simp at e1 e2; subst e1; subst e2; exact h.1
  | _ :: _, _ :: _, i + 1, _, _, h, e1, e2 => OpL.get i h.2 (by simpa using e1) (by simpa using e2)
  | [], [], _, _, _, _, e1, _ => by simp at e1
  | [], _ :: _, _, _, _, h, _, _ => h.elim
  | _ :: _, [], _, _, _, h, _, _ => h.elim
theorem offB_get : ∀ {fs : List Field} {n : Nat} (i : Nat) {f : Field}, offB P fs n = true → fs[i]? = some f → f.offset = n + ((fs.take i).map fun g => P.cellsOf g.type).sum
  | _ :: _, _, 0, _, h, e => by
    simp at e
    subst e
    simp only [offB, Bool.and_eq_true, beq_iff_eq] at h
    simpa using h.1
  | g :: fs, n, i + 1, _, h, e => by
    simp only [offB, Bool.and_eq_true, beq_iff_eq] at h
    have := offB_get i h.2 (by simpa using e)
    simp only [List.take_succ_cons, List.map_cons, List.sum_cons]
    omega
  | [], _, _, _, _, e => by simp at e
/-- a struct's fields lie one behind the other -/
theorem Opens.fields {t : TypeId} {fl : List Field} {Ss : List (List AV → Prop)} (ht : P.underlying t = some (.struct fl.toArray)) (hS : OpL P w fl Ss) (ho : offB P fl 0 = true) (hsz : P.cellsOf t = (fl.map fun g => P.cellsOf g.type).sum) :
    Opens P w t fun l => ∃ ls : List (List AV), ls.length = Ss.length ∧ (∀ (i : Nat) (S : List AV → Prop) (m : List AV), Ss[i]? = some S → ls[i]? = some m → S m) ∧ l = ls.flatten :=
  Opens.struct ht (by simpa using hS.len) (fun i f S h1 h2 => hS.get i (by simpa using h1) h2) (fun i f h => by simpa using offB_get i ho (by simpa using h)) hsz
/-- slices: of the kind of elements e, each as `ok` says -/
theorem Opens.slice {t te : TypeId} {e : Ety} {S : List AV → Prop} {ok : e.T → Prop} (ht : P.underlying t = some (.slice te)) (hsz : P.cellsOf te = e.sz) (he : Opens P w te S) (hok : ∀ l, S l → ∃ x : e.T, e.enc x = l ∧ ok x) :
    Opens P w t fun l => ∃ xs : List e.T, xs.length ≤ maxLen ∧ (∀ x ∈ xs, ok x) ∧ l = [.ro e xs] := fun H enc base spare held fuel cs x hx => by
  rcases DataW.trod_slice ht hx with ⟨rfl, _⟩ | ⟨a, len, cap, elems, rest, n, _, rfl, _, _, hlc, hcm, hel, hg, _⟩
  · exact ⟨[.ro e []], ⟨[], by simp, by simp, rfl⟩, .cons (.ro0 (Nat.zero_le _)) .nil⟩
  · by_cases h0 : len = 0
    · subst h0
      exact ⟨[.ro e []], ⟨[], by simp, by simp, rfl⟩, .cons (.ro0 hcm) .nil⟩
    · have hz := e.sz_pos
      have each : ∀ i, i < len → ∃ (m : e.T) (cs' : List Value), ok m ∧ LRel (oldR w) [] (e.enc m) cs' ∧ w.cells? base (a.add (i * e.sz)) e.sz = some cs' := by
        intro i hi
        have h1 := hg i hi
        rw [List.getElem?_eq_getElem (by omega), hsz] at h1
        obtain ⟨cs', h2, h3⟩ := Option.bind_eq_some_iff.1 h1
        obtain ⟨l, h4, h5⟩ := he H enc base spare held n _ _ h3
        obtain ⟨m, rfl, h6⟩ := hok l h4
        exact ⟨m, cs', h6, h5, h2⟩
      obtain ⟨_, _, _, _, hc0⟩ := each 0 (by omega)
      obtain ⟨hs, arr, ty, fr, hb, _⟩ := cells_of hc0 hz
      have hs0 : a.spot = none := by
        rw [Nat.zero_mul] at hs
        simpa [Addr.add] using hs
      rw [add_block] at hb
      have key : ∀ k, k ≤ len → ∃ xs : List e.T, xs.length = k ∧ (∀ x ∈ xs, ok x) ∧ LRel (oldR w) [] (xs.flatMap e.enc) ((arr.toList.drop a.off).take (k * e.sz)) := by
        intro k
        induction k with
        | zero => intro _; exact ⟨[], rfl, by simp, by simp; exact .nil⟩
        | succ k ih =>
          intro hk
          obtain ⟨xs, h1, h2, h3⟩ := ih (by omega)
          obtain ⟨m, cs', h4, h5, h6⟩ := each k (by omega)
          obtain ⟨_, arr', ty', fr', hb', h7⟩ := cells_of h6 hz
          rw [add_block, hb] at hb'
          cases hb'
          rw [add_off] at h7
          refine ⟨xs ++ [m], by simp [h1], fun x hx => ?_, ?_⟩
          · rcases List.mem_append.1 hx with hx | hx
            · exact h2 x hx
            · rw [List.mem_singleton] at hx
              subst hx
              exact h4
          · rw [List.flatMap_append, List.flatMap_singleton, Nat.succ_mul, List.take_add, List.drop_drop, h7]
            exact h3.app h5
      obtain ⟨xs, h1, h2, h3⟩ := key len (Nat.le_refl _)
      refine ⟨[.ro e xs], ⟨xs, by omega, h2, rfl⟩, .cons ?_ .nil⟩
      obtain ⟨ab, ao, sp⟩ := a
      simp only at hs0
      subst hs0
      rw [← h1]
      exact .ro hb (by rw [h1]; exact h3) (by omega) hcm
/-! ### Arguments -/
def OpensV (P : Program) (w : World) (t : TypeId) (S : AV → Prop) : Prop :=
  ∀ (H : Type) (enc : TypeId × Value → H) (r : Reach) (b0 : Nat) (v : Value) (d : DataW H) (p : List MemPlace), Value.okWide P w r b0 t v → DataW.Trod enc P w 0 (fun _ => true) true t v d p → ∃ a, S a ∧ Rel (oldR w) [] a v
theorem Opens.argS {t : TypeId} {fs : Array Field} {S : List AV → Prop} (ht : P.underlying t = some (.struct fs)) (h : Opens P w t S) : OpensV P w t fun a => ∃ l, S l ∧ a = .agg l := fun H enc r b0 v d p hv hd => by
  obtain ⟨fuel, hd⟩ := hd
  obtain ⟨l, h1, h2⟩ := h H enc _ _ _ fuel _ _ hd
  unfold Value.okWide at hv
  simp only [ht] at hv
  obtain ⟨cs, rfl, _, _⟩ := hv
  exact ⟨.agg l, ⟨l, h1, rfl⟩, by simpa [Value.cells] using Rel.agg h2⟩
theorem Opens.arg1 {t : TypeId} {S : List AV → Prop} (h : Opens P w t S) (ht : ∀ v r b0, Value.okWide P w r b0 t v → v.cells = #[v]) : OpensV P w t fun a => S [a] := fun H enc r b0 v d p hv hd => by
  obtain ⟨fuel, hd⟩ := hd
  obtain ⟨l, h1, h2⟩ := h H enc _ _ _ fuel _ _ hd
  rw [ht v r b0 hv] at h2
  cases h2 with
  | cons h3 h4 =>
    cases h4
    exact ⟨_, h1, h3⟩
theorem one_of {t : TypeId} {u : TypeDesc} (ht : P.underlying t = some u) (hu : (match u with | .bool | .int _ | .string | .slice _ => true | _ => false) = true) (v : Value) (r : Reach) (b0 : Nat) (hv : Value.okWide P w r b0 t v) : v.cells = #[v] := by
  unfold Value.okWide at hv
  cases u <;> simp at hu <;> simp only [ht] at hv <;> unfold Cell.okWide Cell.ok at hv <;> simp only [ht] at hv <;> cases v <;> first | rfl | (simp at hv; done)
end
/-- a call over nothing but what lies for good leaves what lay there as it is -/
theorem does_calls {P : Program} {g : FuncId} {xs : List AV} {S : AV → Prop} {vs : List Value} {w : World} (H : Does P g xs [] fun a _ => S a) (hr : LRel (oldR w) [] xs vs) : Calls P g vs.toArray w fun e w' => (∃ v a R μ, e = .returned v ∧ S a ∧ Rel R μ a v) ∧ Go.RowKit.Below w.heap.size w w' :=
  (H.run (oldR w) [] w vs hr (old_ok w)).mono fun e w' hx => by
    obtain ⟨v, R', μ', h', av, rfl, h1, h2, _, _, h3⟩ := hx
    exact ⟨⟨v, av, R', μ', rfl, h1, h2⟩, h3.os, h3.tape, h3.output, h3.size, fun k hk => h3.out k hk (by simp [ownH])⟩
theorem does_true {P : Program} {g : FuncId} {xs : List AV} {vs : List Value} {w : World} (H : Does P g xs [] fun a _ => a = .bool true) (hr : LRel (oldR w) [] xs vs) : Calls P g vs.toArray w fun e w' => e = .returned (.bool true) ∧ Go.RowKit.Below w.heap.size w w' :=
  (does_calls H hr).mono fun e w' hx => by
    obtain ⟨⟨v, a, R, μ, rfl, rfl, h2⟩, hb⟩ := hx
    cases h2
    exact ⟨rfl, hb⟩
end Go.V

set_option maxRecDepth 100000
namespace Go.V
open Go.Proofs
theorem byte_enc {n : Int} (h : IntKind.u8.has n) : Ety.enc .byte (UInt8.ofNat n.toNat) = [.int .u8 n] := by
  have h1 : 0 ≤ n ∧ n ≤ 255 := h
  have : ((UInt8.ofNat n.toNat).toNat : Int) = n := by simp; omega
  show [AV.int .u8 ((UInt8.ofNat n.toNat).toNat : Int)] = _
  rw [this]
theorem op_T5 (w : World) : Opens Try.prog w 5 fun l => ∃ n, IntKind.u8.has n ∧ l = [.int .u8 n] := Opens.int Try.underlying5
def okE_byte (x : Ety.T .byte) : Prop := True
theorem op_T23 (w : World) : Opens Try.prog w 23 fun l => ∃ xs : List (Ety.T .byte), xs.length ≤ maxLen ∧ (∀ x ∈ xs, okE_byte x) ∧ l = [.ro .byte xs] :=
  Opens.slice (e := .byte) (ok := okE_byte) Try.underlying23 (by kernel_rfl) (op_T5 w) fun l ⟨n, h, e⟩ => ⟨UInt8.ofNat n.toNat, by rw [e]; exact byte_enc h, trivial⟩
def okE_bytes (x : Ety.T .bytes) : Prop := (x.length ≤ maxLen ∧ ∀ y ∈ x, okE_byte y)
theorem op_T22 (w : World) : Opens Try.prog w 22 fun l => ∃ xs : List (Ety.T .bytes), xs.length ≤ maxLen ∧ (∀ x ∈ xs, okE_bytes x) ∧ l = [.ro .bytes xs] :=
  Opens.slice (e := .bytes) (ok := okE_bytes) Try.underlying22 (by kernel_rfl) (op_T23 w) fun l ⟨n, h1, h2, e⟩ => ⟨n, e.symm, h1, h2⟩
theorem arg_T22 (w : World) : OpensV Try.prog w 22 fun a => ∃ xs : List (Ety.T .bytes), xs.length ≤ maxLen ∧ (∀ x ∈ xs, okE_bytes x) ∧ a = .ro .bytes xs := fun H enc r b0 v d p hv hd => by
  obtain ⟨a, ⟨n, h1, h2, e⟩, h⟩ := (op_T22 w).arg1 (one_of Try.underlying22 rfl) H enc r b0 v d p hv hd
  cases e
  exact ⟨_, ⟨n, h1, h2, rfl⟩, h⟩
theorem arg_T5 (w : World) : OpensV Try.prog w 5 fun a => ∃ n, IntKind.u8.has n ∧ a = .int .u8 n := fun H enc r b0 v d p hv hd => by
  obtain ⟨a, ⟨n, h1, e⟩, h⟩ := (op_T5 w).arg1 (one_of Try.underlying5 rfl) H enc r b0 v d p hv hd
  cases e
  exact ⟨_, ⟨n, h1, rfl⟩, h⟩
theorem arg_T23 (w : World) : OpensV Try.prog w 23 fun a => ∃ xs : List (Ety.T .byte), xs.length ≤ maxLen ∧ (∀ x ∈ xs, okE_byte x) ∧ a = .ro .byte xs := fun H enc r b0 v d p hv hd => by
  obtain ⟨a, ⟨n, h1, h2, e⟩, h⟩ := (op_T23 w).arg1 (one_of Try.underlying23 rfl) H enc r b0 v d p hv hd
  cases e
  exact ⟨_, ⟨n, h1, h2, rfl⟩, h⟩
theorem op_T3 (w : World) : Opens Try.prog w 3 fun l => ∃ n, IntKind.i64.has n ∧ l = [.int .i64 n] := Opens.int Try.underlying3
theorem arg_T3 (w : World) : OpensV Try.prog w 3 fun a => ∃ n, IntKind.i64.has n ∧ a = .int .i64 n := fun H enc r b0 v d p hv hd => by
  obtain ⟨a, ⟨n, h1, e⟩, h⟩ := (op_T3 w).arg1 (one_of Try.underlying3 rfl) H enc r b0 v d p hv hd
  cases e
  exact ⟨_, ⟨n, h1, rfl⟩, h⟩
def okS_Opn (x : Opn) : Prop := IntKind.i64.has x.call ∧ x.name.length ≤ maxLen ∧ (x.data.length ≤ maxLen ∧ ∀ y ∈ x.data, okE_byte y)
theorem op_T9 (w : World) : Opens Try.prog w 9 fun l => ∃ s : List UInt8, s.length ≤ maxLen ∧ l = [.str s] := Opens.str Try.underlying9
theorem op_T43 (w : World) : Opens Try.prog w 43 fun l => ∃ x : Opn, okS_Opn x ∧ l = [.int .i64 x.call, .str x.name, .ro .byte x.data] := by
  refine (Opens.fields Try.underlying43 (Ss := [_, _, _]) ⟨op_T3 w, op_T9 w, op_T23 w, trivial⟩ (by kernel_rfl) (by kernel_rfl)).mono ?_
  rintro l ⟨ls, h1, h2, rfl⟩
  obtain ⟨a0, a1, a2, rfl⟩ : ∃ a0 a1 a2, ls = [a0, a1, a2] := by
    match ls, h1 with
    | [a0, a1, a2], _ => exact ⟨a0, a1, a2, rfl⟩
  obtain ⟨x0, h10, rfl⟩ := h2 0 _ _ rfl rfl
  obtain ⟨x1, h11, rfl⟩ := h2 1 _ _ rfl rfl
  obtain ⟨x2, h12, g12, rfl⟩ := h2 2 _ _ rfl rfl
  exact ⟨⟨x0, x1, x2⟩, ⟨h10, h11, ⟨h12, g12⟩⟩, rfl⟩
def okE_opn (x : Ety.T .opn) : Prop := okS_Opn x
theorem op_T37 (w : World) : Opens Try.prog w 37 fun l => ∃ xs : List (Ety.T .opn), xs.length ≤ maxLen ∧ (∀ x ∈ xs, okE_opn x) ∧ l = [.ro .opn xs] :=
  Opens.slice (e := .opn) (ok := okE_opn) Try.underlying37 (by kernel_rfl) (op_T43 w) fun l ⟨x, h, e⟩ => ⟨x, e.symm, h⟩
theorem arg_T37 (w : World) : OpensV Try.prog w 37 fun a => ∃ xs : List (Ety.T .opn), xs.length ≤ maxLen ∧ (∀ x ∈ xs, okE_opn x) ∧ a = .ro .opn xs := fun H enc r b0 v d p hv hd => by
  obtain ⟨a, ⟨n, h1, h2, e⟩, h⟩ := (op_T37 w).arg1 (one_of Try.underlying37 rfl) H enc r b0 v d p hv hd
  cases e
  exact ⟨_, ⟨n, h1, h2, rfl⟩, h⟩
theorem arg_T9 (w : World) : OpensV Try.prog w 9 fun a => ∃ s : List UInt8, s.length ≤ maxLen ∧ a = .str s := fun H enc r b0 v d p hv hd => by
  obtain ⟨a, ⟨n, h1, e⟩, h⟩ := (op_T9 w).arg1 (one_of Try.underlying9 rfl) H enc r b0 v d p hv hd
  cases e
  exact ⟨_, ⟨n, h1, rfl⟩, h⟩
/-- a law that was walked -/
theorem law_true {g : FuncId} {la : List AV} {vs : List Value} {w : World} (H : DoesK Try.prog 0 g la [] (EndF 0 (.bool true) [])) (hb : brL [] [] la la) (hr : LRel (oldR w) [] la vs) : Calls Try.prog g vs.toArray w fun e w' => e = .returned (.bool true) ∧ Go.RowKit.Below w.heap.size w w' :=
  does_true (frame_pure H hb (.inr rfl) (fun _ => rfl) rfl) hr
end Go.V
