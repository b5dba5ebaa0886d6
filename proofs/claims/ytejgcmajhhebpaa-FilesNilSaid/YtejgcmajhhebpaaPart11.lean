/-
  files: Clone.
  slices.Sort at strings: the shelf's contract over the abstract memory.
  files: Names.
  The reference store: New, find, Free, Texts, Names.
-/
import Derived.Test.YtejgcmajhhebpaaPart10
import Derived.Test.YtejgcmajhhebpaaPart08
import Derived.Test.YtejgcmajhhebpaaPart09
import Derived.Shelf.SortM.Plain
import Derived.Shelf.SortM.SortNone
import Derived.Ground.SlgmProg
import Derived.Sort.OwnSorted
set_option linter.unusedVariables false
set_option linter.unusedSimpArgs false
set_option maxRecDepth 100000
set_option maxHeartbeats 1000000
namespace Go.V
open Go.Proofs
theorem mset_new : ∀ {l : List (Str × Str)} {x y : Str}, x ∉ l.map (·.1) → msetS l x y = l ++ [(x, y)]
  | [], _, _, _ => rfl
  | p :: l, x, y, h => by
    simp only [List.map_cons, List.mem_cons, not_or] at h
    have ih := mset_new (l := l) (x := x) (y := y) h.2
    unfold msetS at ih ⊢
    simp only [mset, if_neg (Ne.symm h.1), ih, List.cons_append]
theorem sumL_mem {kv : List (Str × Str)} {p : Str × Str} (h : p ∈ kv) : p.2.length ≤ sumL kv := by
  induction kv with
  | nil => cases h
  | cons q kv ih =>
    have e : sumL (q :: kv) = q.2.length + sumL kv := by simp [sumL]
    rw [e]
    rcases List.mem_cons.1 h with rfl | h
    · exact Nat.le_add_right _ _
    · have := ih h
      omega
theorem b_clone (m r : Int) (kv : List (Str × Str)) (hm : 0 ≤ m ∧ m ≤ 256) (hr : 0 ≤ r ∧ r ≤ 2147483648) (hk : (sumL kv : Int) ≤ r) (hnd : (kv.map (·.1)).Nodup) : DoesK Try.prog 1 17 [.ptr 0 0] [.pack (St m r kv)] (EndF 1 (.ptr 1 0) ([.pack (St m r kv)] ++ [.pack (St m r kv)])) := by
  refine DoesK.close ?_
  have q1 : min (max m 0) 256 = m := by omega
  have q2 : min (max r 0) 2147483648 = r := by omega
  refine w_body (rs := [.tmp 2]) (tm := [.ptr 0 0, .any, .any, .any, .any, .any, .any, .any, .any, .any, .any, .any, .any, .any, .any, .any, .any, .any, .any, .any, .any, .any, .any, .any, .any, .any, .any, .any, .any, .any, .any, .any, .any, .any, .any, .any]) fn_17 rfl rfl rfl rfl fun R hR => ?_
  refine w_seq fun K1 hk1 => ?_
  have hq1 := Slot.mk hk1
  clear hk1
  (have zx1 := @q1; have zx2 := @q2; all_goals (try ((first | (with_reducible refine wp_id ?_) | (with_reducible refine does_id ?_)); refine walk ?_; (repeat' (first | exact trivial | with_reducible refine And.intro ?_ ?_)); all_goals (repeat (first | (with_reducible refine ImpB.mk fun hb => ?_) | (with_reducible refine ImpK.mk fun hK => ?_) | (with_reducible refine ImpF.mk fun hF => ?_) | (with_reducible refine ImpQ.mk fun hp => ?_) | (with_reducible refine AllE.mk fun p => ?_) | (with_reducible refine AllR.mk fun rest => ?_) | (with_reducible refine AllK.mk fun K => ?_))))); repeat' (with_reducible refine And.intro ?_ ?_))
  refine hq1.un _ _ ?_
  refine w_seq fun K2 hk2 => ?_
  have hq2 := Slot.mk hk2
  clear hk2
  (have zx1 := @q1; have zx2 := @q2; all_goals (try ((first | (with_reducible refine wp_id ?_) | (with_reducible refine does_id ?_)); refine walk ?_; (repeat' (first | exact trivial | with_reducible refine And.intro ?_ ?_)); all_goals (repeat (first | (with_reducible refine ImpB.mk fun hb => ?_) | (with_reducible refine ImpK.mk fun hK => ?_) | (with_reducible refine ImpF.mk fun hF => ?_) | (with_reducible refine ImpQ.mk fun hp => ?_) | (with_reducible refine AllE.mk fun p => ?_) | (with_reducible refine AllR.mk fun rest => ?_) | (with_reducible refine AllK.mk fun K => ?_))))); repeat' (with_reducible refine And.intro ?_ ?_))
  refine hq2.un _ _ ?_
  refine w_open 0 rfl rfl ?_
  (have zx1 := @q1; have zx2 := @q2; all_goals (try ((first | (with_reducible refine wp_id ?_) | (with_reducible refine does_id ?_)); refine walk ?_; (repeat' (first | exact trivial | with_reducible refine And.intro ?_ ?_)); all_goals (repeat (first | (with_reducible refine ImpB.mk fun hb => ?_) | (with_reducible refine ImpK.mk fun hK => ?_) | (with_reducible refine ImpF.mk fun hF => ?_) | (with_reducible refine ImpQ.mk fun hp => ?_) | (with_reducible refine AllE.mk fun p => ?_) | (with_reducible refine AllR.mk fun rest => ?_) | (with_reducible refine AllK.mk fun K => ?_))))); repeat' (with_reducible refine And.intro ?_ ?_))
  any_goals (refine w_loop (A := List (Str × Str) × List (Str × Str) × Option (Str × Str)) (fun p => (p.1 ++ p.2.1).Perm kv) (fun p => p.2.1.length) (fun p => []) (fun p => [(2, .pack (St m r p.1)), (3, .iter 1 .str .bytes kv p.2.1 p.2.2)]) (([], kv, none)) (ws := ?ws1) (tk := ?tk1) ?hw1 ?ht1 ?hi ?h0 ?LH1; (case hw1 => simp only [go_sem, Int.reduceToNat, Nat.min_eq_left, Nat.min_eq_right, Int.reducePow, Nat.reducePow, Int.reduceLE, Int.reduceLT, Int.reduceMul, Int.reduceAdd, Int.reduceSub, Int.reduceNeg, Bool.not_true, Bool.not_false, Bool.not_not, ↓reduceIte, Nat.reduceAdd, Nat.reduceSub, Nat.reduceMul, Nat.reduceEqDiff, reduceCtorEq, Nat.reduceLT, Nat.reduceLeDiff, Nat.reduceGT]; exact rfl); (case ht1 => simp only [go_sem, Int.reduceToNat, Nat.min_eq_left, Nat.min_eq_right, Int.reducePow, Nat.reducePow, Int.reduceLE, Int.reduceLT, Int.reduceMul, Int.reduceAdd, Int.reduceSub, Int.reduceNeg, Bool.not_true, Bool.not_false, Bool.not_not, ↓reduceIte, Nat.reduceAdd, Nat.reduceSub, Nat.reduceMul, Nat.reduceEqDiff, reduceCtorEq, Nat.reduceLT, Nat.reduceLeDiff, Nat.reduceGT]; exact rfl); (case' LH1 => rintro ⟨done, todo, last⟩ E t hx hE ht; simp only [go_sem] at ht; subst ht; simp only [go_sem]; try dsimp only at hx))
  case hi => exact List.Perm.refl _
  case h0 =>
    (focus (refine ⟨_, _, Gh.refl, [0, 1, 2, 3], rfl, ?_⟩; (refine ⟨?_, ?_, ?_⟩ <;> simp only [go_sem, List.range, List.range.loop, List.nodup_cons, List.nodup_nil, List.mem_cons, List.not_mem_nil, or_false, or_self, Int.reduceToNat, Nat.min_eq_left, Nat.min_eq_right, Int.reducePow, Nat.reducePow, Int.reduceLE, Int.reduceLT, Int.reduceMul, Int.reduceAdd, Int.reduceSub, Int.reduceNeg, Bool.not_true, Bool.not_false, Bool.not_not, ↓reduceIte, Nat.reduceAdd, Nat.reduceSub, Nat.reduceMul, Nat.reduceEqDiff, reduceCtorEq, Nat.reduceLT, Nat.reduceLeDiff, Nat.reduceGT]); (try any_goals (refine ⟨?_, ?_⟩)); (try any_goals (with_reducible rfl))))
  case LH1 =>
    rcases todo with _ | ⟨q, t⟩
    · rw [List.append_nil] at hx
      refine w_open 2 rfl rfl (Wp.ghost (gh_close (t := 2) (ts := [4]) (l := St m r kv) ⟨⟨_, _, rfl⟩, ?fc, by simp⟩) ?_)
      case fc => (refine ⟨?_, ?_, ?_⟩ <;> simp only [go_sem, List.range, List.range.loop, List.nodup_cons, List.nodup_nil, List.mem_cons, List.not_mem_nil, or_false, or_self, Int.reduceToNat, Nat.min_eq_left, Nat.min_eq_right, Int.reducePow, Nat.reducePow, Int.reduceLE, Int.reduceLT, Int.reduceMul, Int.reduceAdd, Int.reduceSub, Int.reduceNeg, Bool.not_true, Bool.not_false, Bool.not_not, ↓reduceIte, Nat.reduceAdd, Nat.reduceSub, Nat.reduceMul, Nat.reduceEqDiff, reduceCtorEq, Nat.reduceLT, Nat.reduceLeDiff, Nat.reduceGT]); exact hx
      (all_goals (try ((first | (with_reducible refine wp_id ?_) | (with_reducible refine does_id ?_)); refine walk ?_; (repeat' (first | exact trivial | with_reducible refine And.intro ?_ ?_)); all_goals (repeat (first | (with_reducible refine ImpB.mk fun hb => ?_) | (with_reducible refine ImpK.mk fun hK => ?_) | (with_reducible refine ImpF.mk fun hF => ?_) | (with_reducible refine ImpQ.mk fun hp => ?_) | (with_reducible refine AllE.mk fun p => ?_) | (with_reducible refine AllR.mk fun rest => ?_) | (with_reducible refine AllK.mk fun K => ?_))))); repeat' (with_reducible refine And.intro ?_ ?_))
      (focus (refine ⟨_, _, gh_close (t := 0) (ts := [1]) (l := St m r kv) ⟨⟨_, _, rfl⟩, ?_, by simp⟩, [0, 2], rfl, ?_⟩; all_goals (refine ⟨?_, ?_, ?_⟩ <;> simp only [go_sem, List.range, List.range.loop, List.nodup_cons, List.nodup_nil, List.mem_cons, List.not_mem_nil, or_false, or_self, Int.reduceToNat, Nat.min_eq_left, Nat.min_eq_right, Int.reducePow, Nat.reducePow, Int.reduceLE, Int.reduceLT, Int.reduceMul, Int.reduceAdd, Int.reduceSub, Int.reduceNeg, Bool.not_true, Bool.not_false, Bool.not_not, ↓reduceIte, Nat.reduceAdd, Nat.reduceSub, Nat.reduceMul, Nat.reduceEqDiff, reduceCtorEq, Nat.reduceLT, Nat.reduceLeDiff, Nat.reduceGT]); (try any_goals (refine ⟨?_, ?_⟩)); (try any_goals (with_reducible rfl))))
    · (all_goals (try ((first | (with_reducible refine wp_id ?_) | (with_reducible refine does_id ?_)); refine walk ?_; (repeat' (first | exact trivial | with_reducible refine And.intro ?_ ?_)); all_goals (repeat (first | (with_reducible refine ImpB.mk fun hb => ?_) | (with_reducible refine ImpK.mk fun hK => ?_) | (with_reducible refine ImpF.mk fun hF => ?_) | (with_reducible refine ImpQ.mk fun hp => ?_) | (with_reducible refine AllE.mk fun p => ?_) | (with_reducible refine AllR.mk fun rest => ?_) | (with_reducible refine AllK.mk fun K => ?_))))); repeat' (with_reducible refine And.intro ?_ ?_))
      · exact absurd hb (by simp)
      · have e1 : sumL (p :: rest) = p.2.length + sumL rest := by simp [sumL]
        have hl := hp.length_eq
        have hpm : (done ++ [p] ++ rest).Perm kv := by
          refine List.Perm.trans ?_ hx
          simp only [List.append_assoc, List.cons_append, List.nil_append]
          exact hp.append_left done
        have hn : p.1 ∉ done.map (·.1) := by
          have h2 := (hpm.map (·.1)).nodup_iff.2 hnd
          simp only [List.map_append, List.map_cons, List.map_nil, List.append_assoc] at h2
          rw [List.nodup_append] at h2
          intro hc
          exact h2.2.2 _ hc _ (by simp) rfl
        refine ⟨(done ++ [p], rest, some p), ⟨hpm, by simp only [List.length_cons] at hl ⊢; omega⟩, ?m4⟩
        have hms := mset_new (y := p.2) hn
        (focus (refine ⟨_, _, gh_close (t := 2) (ts := [4]) (l := St m r (done ++ [p])) ⟨⟨_, _, rfl⟩, ?_, by simp⟩, [0, 1, 2, 3], rfl, ?_⟩; all_goals (refine ⟨?_, ?_, ?_⟩ <;> simp only [go_sem, List.range, List.range.loop, List.nodup_cons, List.nodup_nil, List.mem_cons, List.not_mem_nil, or_false, or_self, Int.reduceToNat, Nat.min_eq_left, Nat.min_eq_right, Int.reducePow, Nat.reducePow, Int.reduceLE, Int.reduceLT, Int.reduceMul, Int.reduceAdd, Int.reduceSub, Int.reduceNeg, Bool.not_true, Bool.not_false, Bool.not_not, ↓reduceIte, Nat.reduceAdd, Nat.reduceSub, Nat.reduceMul, Nat.reduceEqDiff, reduceCtorEq, Nat.reduceLT, Nat.reduceLeDiff, Nat.reduceGT]); (try any_goals (refine ⟨?_, ?_⟩)); (try any_goals (with_reducible rfl))))
        all_goals exact List.Perm.of_eq hms
      · have h1 : p ∈ kv := by
          refine hx.mem_iff.1 (List.mem_append_right _ (hp.mem_iff.1 (by simp)))
        have h2 := sumL_mem h1
        omega
theorem c_clone {h : List Ch} {K : KT} {t : Nat} {m r : Int} {kv : List (Str × Str)} (H : K (.ptr h.length 0) (h ++ [.pack (St m r kv)])) (o : hth h t = .pack (St m r kv)) (s1 : 0 ≤ m ∧ m ≤ 256) (s2 : 0 ≤ r ∧ r ≤ 2147483648) (s3 : (sumL kv : Int) ≤ r) (s4 : (kv.map (·.1)).Nodup) : Does Try.prog 17 [.ptr t 0] h K :=
  frame_obj (b_clone m r kv s1 s2 s3 s4) o (by simp) (fitC_pack _) (br_cons (br_ptr rfl) br_nil) (.inl rfl) (fun _ => rfl) (fun _ => rfl) rfl (by rw [set_hth o (by simp)]; exact H)
abbrev i_clone := Ctr.mk (i := 0) (g := 17) @c_clone
attribute [instance] i_clone
end Go.V

set_option maxRecDepth 100000
set_option maxHeartbeats 1000000
namespace Go.Proofs
open Go.Shelf Go.Sort
shelf_lay_g SlLaysM.n6 Slgm 6 at Try 27 as Try.mSortS
end Go.Proofs
namespace Go.V
open Go.Proofs Go.Sort
/-- the strings in order -/
def sortS (l : List (List UInt8)) : List (List UInt8) := l.mergeSort fun x y => decide (x ≤ y)
theorem sortS_len (l : List (List UInt8)) : (sortS l).length = l.length := List.length_mergeSort _
theorem sortS_perm (l : List (List UInt8)) : (sortS l).Perm l := List.mergeSort_perm _ _
theorem strs_of {R : RO} : ∀ {xs : List (List UInt8)} {l : List Value}, LRel R [] (xs.flatMap (Ety.enc .str)) l → l = xs.map encStr
  | [], _, h => by cases h; rfl
  | x :: xs, _, h => by
    rw [List.flatMap_cons] at h
    cases h with
    | cons h1 h2 =>
      cases h1
      rw [strs_of (xs := xs) h2]
      rfl
theorem of_strs {R : RO} : ∀ (xs : List (List UInt8)), LRel R [] (xs.flatMap (Ety.enc .str)) (xs.map encStr)
  | [] => .nil
  | _ :: xs => .cons .str (of_strs xs)
theorem sort_str {P : Program} {g : FuncId} (hr : Here P g)
    (hc : ∀ (blk off cap : Nat) (ss : List (List UInt8)) (w : World), Holds encStr w blk off ss.toArray → blk < w.heap.size → ss.length < 4611686018427387904 →
      Calls P g #[.slice (some ⟨blk, off, none⟩) ss.length cap] w fun e w' => e = .returned (.tuple #[]) ∧ ∃ n os, w' = grow (putRow encStr (Sort.ahead w n) blk off (ss.mergeSort fun x y => decide (x ≤ y)).toArray) os)
    (hc0 : ∀ (p : Option Addr) (cap : Nat) (w : World), Calls P g #[.slice p 0 cap] w fun e w' => e = .returned (.tuple #[]) ∧ w' = w)
    {h : List Ch} {K : KT} {t : Nat} {xs : List (List UInt8)} {n : Nat} (hn : n = xs.length) (hx : xs.length ≤ 1099511627776) (H : K (.tup []) (h.set t (.rows .str (sortS xs)))) (o : hth h t = .rows .str xs) : Does P g [.sl t .str 0 n] h K := by
  refine ⟨hr, fun R μ w vs hv H0 => ?_⟩
  have hg := hth_get o (by simp)
  cases hv with
  | cons hv h2 =>
  cases h2
  have hz : n = 0 → K (.tup []) h := fun e => by
    rw [e] at hn
    have : xs = [] := List.eq_nil_of_length_eq_zero hn.symm
    subst this
    have hs : sortS [] = [] := List.eq_nil_of_length_eq_zero (sortS_len [])
    rw [hs, ← o, set_hth rfl (by rw [o]; simp)] at H
    exact H
  generalize hN : n = N at hv
  cases hv with
  | sl0 hl =>
    refine (hc0 _ _ _).mono ?_
    rintro e w' ⟨rfl, rfl⟩
    exact ⟨_, R, μ, h, .tup [], rfl, hz hN, .tup .nil, H0, Ext.refl _, Step.refl _ _ _⟩
  | sl h1 hcap hl hm =>
    rename_i b cap c
    obtain ⟨B, hB, hr1, hown⟩ := H0.rel.get hg
    have : B = .blk b cap := by rw [h1] at hB; exact (Option.some.inj hB).symm
    subst this
    rcases hr1 with ⟨hx, _⟩ | ⟨b', cap', arr, ty, hx, hb, hsz, hlen, hmx, hrel⟩
    · cases hx
    · cases hx
      rw [show Ety.sz .str = 1 from rfl, Nat.mul_one] at hrel hsz
      have ht := strs_of hrel
      have hH := holds_of_block hb ht
      have hbl : b < w.heap.size := (Array.getElem?_eq_some_iff.1 hb).1
      subst hN
      subst hn
      rw [Nat.zero_mul]
      refine (hc b 0 c xs w hH hbl (by omega)).mono ?_
      rintro e w' ⟨rfl, m, os, rfl⟩
      have hg2 := grownBy_sorted (w := w) (g := b) (n := m) (os := os) (sortS xs).toArray
      obtain ⟨g1, g2, g3, g4, g5⟩ := hg2
      obtain ⟨H1, hst⟩ := H0.set (w' := grow (putRow encStr (Sort.ahead w m) b 0 (sortS xs).toArray) os) (c' := .rows .str (sortS xs)) hg hB (by simp [ownC]) (fun k hk hne => g5 k hk (fun e => hne (by simp only [ownC, List.mem_singleton]; exact Option.some.inj e))) g4
        (.inr ⟨b, cap, _, ty, rfl, heap_sorted _ hb, by simp only [putCells, Array.size_mapIdx, hsz]; exact (Nat.mul_one _).symm, by rw [sortS_len]; exact hlen, hmx, by
          rw [show Ety.sz .str = 1 from rfl, Nat.mul_one, take_putCells arr _ (by rw [sortS_len]; omega)]
          exact of_strs _⟩) rfl rfl rfl
      exact ⟨_, R, μ, _, .tup [], rfl, H, .tup .nil, H1, Ext.refl _, hst⟩
theorem c_sorts {h : List Ch} {K : KT} {t : Nat} {xs : List (List UInt8)} {n : Nat} (H : K (.tup []) (h.set t (.rows .str (sortS xs)))) (o : hth h t = .rows .str xs) (s1 : n = xs.length) (s2 : xs.length ≤ 1099511627776) : Does Try.prog 27 [.sl t .str 0 n] h K :=
  sort_str ⟨_, fn_27, rfl, rfl⟩ (AnyM.slices_Sort_string Try.mSortS) (AnyM.slices_Sort_string_none Try.mSortS) s1 s2 H o
abbrev i_sorts := Ctr.mk (i := 0) (g := 27) @c_sorts
attribute [instance] i_sorts
end Go.V

set_option maxRecDepth 100000
set_option maxHeartbeats 1000000
namespace Go.V
open Go.Proofs
theorem sortS_sorted (l : List (List UInt8)) : (sortS l).Pairwise (· ≤ ·) := by
  have h := List.pairwise_mergeSort (le := fun x y : List UInt8 => decide (x ≤ y)) (fun a b c h1 h2 => by simp only [decide_eq_true_eq] at *; exact List.le_trans h1 h2) (fun a b => by simp only [Bool.or_eq_true, decide_eq_true_eq]; exact List.le_total a b) l
  exact h.imp fun h => by simpa using h
theorem sortS_eq {l m : List (List UInt8)} (h : l.Perm m) : sortS l = sortS m :=
  List.Perm.eq_of_pairwise (le := (· ≤ ·)) (fun a b _ _ h1 h2 => List.le_antisymm h1 h2) (sortS_sorted l) (sortS_sorted m) (((sortS_perm l).trans h).trans (sortS_perm m).symm)
/-- the names in order -/
def namesS (kv : List (Str × Str)) : List Str := sortS (kv.map (·.1))
theorem b_names (m r : Int) (kv : List (Str × Str)) (hk : kv.length ≤ 1099511627776) : DoesK Try.prog 1 13 [.ptr 0 0] [.pack (St m r kv)] (EndF 1 (.ro .str (namesS kv)) ([.pack (St m r kv)] ++ [])) := by
  refine DoesK.close ?_
  refine w_body (rs := [.tmp 2]) (tm := [.ptr 0 0, .any, .any, .any, .any, .any, .any, .any, .any, .any, .any, .any, .any, .any, .any, .any, .any, .any, .any, .any, .any, .any, .any, .any]) fn_13 rfl rfl rfl rfl fun R hR => ?_
  (all_goals (try ((first | (with_reducible refine wp_id ?_) | (with_reducible refine does_id ?_)); refine walk ?_; (repeat' (first | exact trivial | with_reducible refine And.intro ?_ ?_)); all_goals (repeat (first | (with_reducible refine ImpB.mk fun hb => ?_) | (with_reducible refine ImpK.mk fun hK => ?_) | (with_reducible refine ImpF.mk fun hF => ?_) | (with_reducible refine ImpQ.mk fun hp => ?_) | (with_reducible refine AllE.mk fun p => ?_) | (with_reducible refine AllR.mk fun rest => ?_) | (with_reducible refine AllK.mk fun K => ?_))))); repeat' (with_reducible refine And.intro ?_ ?_))
  refine Wp.ghost (gh_adopt (s := 3) .str trivial) ?_
  simp only [go_sem, Int.reduceToNat, Nat.min_eq_left, Nat.min_eq_right, Int.reducePow, Nat.reducePow, Int.reduceLE, Int.reduceLT, Int.reduceMul, Int.reduceAdd, Int.reduceSub, Int.reduceNeg, Bool.not_true, Bool.not_false, Bool.not_not, ↓reduceIte, Nat.reduceAdd, Nat.reduceSub, Nat.reduceMul, Nat.reduceEqDiff, reduceCtorEq, Nat.reduceLT, Nat.reduceLeDiff, Nat.reduceGT]
  any_goals (refine w_loop (A := List (Str × Str) × List (Str × Str) × Option (Str × Str)) (fun p => (p.1 ++ p.2.1).Perm kv) (fun p => p.2.1.length) (fun p => [(3, .sl 3 .str 0 p.1.length)]) (fun p => [(2, .iter 1 .str .bytes kv p.2.1 p.2.2), (3, .rows .str (p.1.map (·.1)))]) (([], kv, none)) (ws := ?ws1) (tk := ?tk1) ?hw1 ?ht1 ?hi ?h0 ?LH1; (case hw1 => simp only [go_sem, Int.reduceToNat, Nat.min_eq_left, Nat.min_eq_right, Int.reducePow, Nat.reducePow, Int.reduceLE, Int.reduceLT, Int.reduceMul, Int.reduceAdd, Int.reduceSub, Int.reduceNeg, Bool.not_true, Bool.not_false, Bool.not_not, ↓reduceIte, Nat.reduceAdd, Nat.reduceSub, Nat.reduceMul, Nat.reduceEqDiff, reduceCtorEq, Nat.reduceLT, Nat.reduceLeDiff, Nat.reduceGT]; exact rfl); (case ht1 => simp only [go_sem, Int.reduceToNat, Nat.min_eq_left, Nat.min_eq_right, Int.reducePow, Nat.reducePow, Int.reduceLE, Int.reduceLT, Int.reduceMul, Int.reduceAdd, Int.reduceSub, Int.reduceNeg, Bool.not_true, Bool.not_false, Bool.not_not, ↓reduceIte, Nat.reduceAdd, Nat.reduceSub, Nat.reduceMul, Nat.reduceEqDiff, reduceCtorEq, Nat.reduceLT, Nat.reduceLeDiff, Nat.reduceGT]; exact rfl); (case' LH1 => rintro ⟨done, todo, last⟩ E t hx hE ht; simp only [go_sem] at ht; subst ht; simp only [go_sem]; try dsimp only at hx))
  case hi => exact List.Perm.refl _
  case h0 =>
    (focus (refine ⟨_, _, Gh.refl, [0, 1, 2, 3], rfl, ?_⟩; (refine ⟨?_, ?_, ?_⟩ <;> simp only [go_sem, List.range, List.range.loop, List.nodup_cons, List.nodup_nil, List.mem_cons, List.not_mem_nil, or_false, or_self, Int.reduceToNat, Nat.min_eq_left, Nat.min_eq_right, Int.reducePow, Nat.reducePow, Int.reduceLE, Int.reduceLT, Int.reduceMul, Int.reduceAdd, Int.reduceSub, Int.reduceNeg, Bool.not_true, Bool.not_false, Bool.not_not, ↓reduceIte, Nat.reduceAdd, Nat.reduceSub, Nat.reduceMul, Nat.reduceEqDiff, reduceCtorEq, Nat.reduceLT, Nat.reduceLeDiff, Nat.reduceGT]); (try any_goals (refine ⟨?_, ?_⟩)); (try any_goals (with_reducible rfl))))
  case LH1 =>
    have hlen := hx.length_eq
    rw [List.length_append] at hlen
    have hml : (done.map (·.1)).length = done.length := List.length_map _
    rcases todo with _ | ⟨q, t⟩
    · rw [List.append_nil] at hx
      have hS : ((sortS (done.map (·.1))).drop 0).take done.length = namesS kv := by
        rw [List.drop_zero, List.take_of_length_le (by rw [sortS_len, hml]; exact Nat.le_refl _)]
        exact sortS_eq (hx.map _)
      (all_goals (try ((first | (with_reducible refine wp_id ?_) | (with_reducible refine does_id ?_)); refine walk ?_; (repeat' (first | exact trivial | with_reducible refine And.intro ?_ ?_)); all_goals (repeat (first | (with_reducible refine ImpB.mk fun hb => ?_) | (with_reducible refine ImpK.mk fun hK => ?_) | (with_reducible refine ImpF.mk fun hF => ?_) | (with_reducible refine ImpQ.mk fun hp => ?_) | (with_reducible refine AllE.mk fun p => ?_) | (with_reducible refine AllR.mk fun rest => ?_) | (with_reducible refine AllK.mk fun K => ?_))))); repeat' (with_reducible refine And.intro ?_ ?_))
      · refine ⟨_, _, Gh.trans (gh_frz (t := 3) (e := .str) (xs := sortS (done.map (·.1))) rfl ?f1 ?f2) (gh_close (t := 0) (ts := [1]) (l := St m r kv) ⟨⟨_, _, rfl⟩, ?fc, by simp⟩), [0], rfl, ?ft⟩
        case' ft => (refine ⟨?_, ?_, ?_⟩ <;> simp only [go_sem, List.range, List.range.loop, List.nodup_cons, List.nodup_nil, List.mem_cons, List.not_mem_nil, or_false, or_self, Int.reduceToNat, Nat.min_eq_left, Nat.min_eq_right, Int.reducePow, Nat.reducePow, Int.reduceLE, Int.reduceLT, Int.reduceMul, Int.reduceAdd, Int.reduceSub, Int.reduceNeg, Bool.not_true, Bool.not_false, Bool.not_not, ↓reduceIte, Nat.reduceAdd, Nat.reduceSub, Nat.reduceMul, Nat.reduceEqDiff, reduceCtorEq, Nat.reduceLT, Nat.reduceLeDiff, Nat.reduceGT])
        case' f1 => simp only [go_sem, Int.reduceToNat, Nat.min_eq_left, Nat.min_eq_right, Int.reducePow, Nat.reducePow, Int.reduceLE, Int.reduceLT, Int.reduceMul, Int.reduceAdd, Int.reduceSub, Int.reduceNeg, Bool.not_true, Bool.not_false, Bool.not_not, ↓reduceIte, Nat.reduceAdd, Nat.reduceSub, Nat.reduceMul, Nat.reduceEqDiff, reduceCtorEq, Nat.reduceLT, Nat.reduceLeDiff, Nat.reduceGT]
        case' f2 => simp only [go_sem, Int.reduceToNat, Nat.min_eq_left, Nat.min_eq_right, Int.reducePow, Nat.reducePow, Int.reduceLE, Int.reduceLT, Int.reduceMul, Int.reduceAdd, Int.reduceSub, Int.reduceNeg, Bool.not_true, Bool.not_false, Bool.not_not, ↓reduceIte, Nat.reduceAdd, Nat.reduceSub, Nat.reduceMul, Nat.reduceEqDiff, reduceCtorEq, Nat.reduceLT, Nat.reduceLeDiff, Nat.reduceGT]
        case' fc => (refine ⟨?_, ?_, ?_⟩ <;> simp only [go_sem, List.range, List.range.loop, List.nodup_cons, List.nodup_nil, List.mem_cons, List.not_mem_nil, or_false, or_self, Int.reduceToNat, Nat.min_eq_left, Nat.min_eq_right, Int.reducePow, Nat.reducePow, Int.reduceLE, Int.reduceLT, Int.reduceMul, Int.reduceAdd, Int.reduceSub, Int.reduceNeg, Bool.not_true, Bool.not_false, Bool.not_not, ↓reduceIte, Nat.reduceAdd, Nat.reduceSub, Nat.reduceMul, Nat.reduceEqDiff, reduceCtorEq, Nat.reduceLT, Nat.reduceLeDiff, Nat.reduceGT])
        case fc => exact List.Perm.refl _
        case f1 => rw [sortS_len, hml]; exact Nat.le_refl _
        case ft => exact hS.symm
    · simp only [List.length_cons] at hlen
      (all_goals (try ((first | (with_reducible refine wp_id ?_) | (with_reducible refine does_id ?_)); refine walk ?_; (repeat' (first | exact trivial | with_reducible refine And.intro ?_ ?_)); all_goals (repeat (first | (with_reducible refine ImpB.mk fun hb => ?_) | (with_reducible refine ImpK.mk fun hK => ?_) | (with_reducible refine ImpF.mk fun hF => ?_) | (with_reducible refine ImpQ.mk fun hp => ?_) | (with_reducible refine AllE.mk fun p => ?_) | (with_reducible refine AllR.mk fun rest => ?_) | (with_reducible refine AllK.mk fun K => ?_))))); repeat' (with_reducible refine And.intro ?_ ?_))
      · exact absurd hb (by simp)
      all_goals first | omega | skip
      have hl := hp.length_eq
      refine ⟨(done ++ [p], rest, some p), ⟨?m3, by simp only [List.length_cons] at hl ⊢; omega⟩, ?m4⟩
      case m3 =>
        refine List.Perm.trans ?_ hx
        simp only [List.append_assoc, List.cons_append, List.nil_append]
        exact hp.append_left done
      (focus (refine ⟨_, _, Gh.refl, [0, 1, 2, 5], rfl, ?_⟩; (refine ⟨?_, ?_, ?_⟩ <;> simp only [go_sem, List.range, List.range.loop, List.nodup_cons, List.nodup_nil, List.mem_cons, List.not_mem_nil, or_false, or_self, Int.reduceToNat, Nat.min_eq_left, Nat.min_eq_right, Int.reducePow, Nat.reducePow, Int.reduceLE, Int.reduceLT, Int.reduceMul, Int.reduceAdd, Int.reduceSub, Int.reduceNeg, Bool.not_true, Bool.not_false, Bool.not_not, ↓reduceIte, Nat.reduceAdd, Nat.reduceSub, Nat.reduceMul, Nat.reduceEqDiff, reduceCtorEq, Nat.reduceLT, Nat.reduceLeDiff, Nat.reduceGT]); (try any_goals (refine ⟨?_, ?_⟩)); (try any_goals (with_reducible rfl))))
      · exact hml.symm
      · simp
theorem c_names {h : List Ch} {K : KT} {t : Nat} {m r : Int} {kv : List (Str × Str)} (H : K (.ro .str (namesS kv)) h) (o : hth h t = .pack (St m r kv)) (s1 : kv.length ≤ 1099511627776) : Does Try.prog 13 [.ptr t 0] h K :=
  frame_look (b_names m r kv s1) o (by simp) (fitC_pack _) (br_cons (br_ptr rfl) br_nil) (.inl rfl) (fun _ => rfl) rfl H
abbrev i_names := Ctr.mk (i := 0) (g := 13) @c_names
attribute [instance] i_names
end Go.V

set_option maxRecDepth 100000
set_option maxHeartbeats 1000000
namespace Go.V
open Go.Proofs
/-- the reference's store -/
abbrev RS (m r : Int) (l : List File) : AV := .agg [.int .i64 m, .int .i64 r, .ro .file l]
attribute [go_sem] RS
theorem b_rnew (m r : Int) : DoesK Try.prog 0 14 [.int .i64 m, .int .i64 r] [] (EndF 0 (RS (min (max m 0) 256) (min (max r 0) 2147483648) []) []) := by
  refine DoesK.close ?_
  refine w_body (rs := [.cell 4 40]) (tm := [.int .i64 m, .int .i64 r, .any, .any, .any, .any, .any, .any, .any, .any, .any, .any]) fn_14 rfl rfl rfl rfl fun R hR => ?_
  (all_goals (try ((first | (with_reducible refine wp_id ?_) | (with_reducible refine does_id ?_)); refine walk ?_; (repeat' (first | exact trivial | with_reducible refine And.intro ?_ ?_)); all_goals (repeat (first | (with_reducible refine ImpB.mk fun hb => ?_) | (with_reducible refine ImpK.mk fun hK => ?_) | (with_reducible refine ImpF.mk fun hF => ?_) | (with_reducible refine ImpQ.mk fun hp => ?_) | (with_reducible refine AllE.mk fun p => ?_) | (with_reducible refine AllR.mk fun rest => ?_) | (with_reducible refine AllK.mk fun K => ?_))))); repeat' (with_reducible refine And.intro ?_ ?_))
  (focus (refine ⟨_, _, Gh.refl, [], rfl, ?_⟩; (refine ⟨?_, ?_, ?_⟩ <;> simp only [go_sem, List.range, List.range.loop, List.nodup_cons, List.nodup_nil, List.mem_cons, List.not_mem_nil, or_false, or_self, Int.reduceToNat, Nat.min_eq_left, Nat.min_eq_right, Int.reducePow, Nat.reducePow, Int.reduceLE, Int.reduceLT, Int.reduceMul, Int.reduceAdd, Int.reduceSub, Int.reduceNeg, Bool.not_true, Bool.not_false, Bool.not_not, ↓reduceIte, Nat.reduceAdd, Nat.reduceSub, Nat.reduceMul, Nat.reduceEqDiff, reduceCtorEq, Nat.reduceLT, Nat.reduceLeDiff, Nat.reduceGT]); (try any_goals (refine ⟨?_, ?_⟩)); (try any_goals (with_reducible rfl))))
/-- the first file whose name is not less -/
def fIx : List File → Str → Nat
  | [], _ => 0
  | f :: l, s => if Op.bytesLess f.name s then fIx l s + 1 else 0
def fHas : List File → Str → Bool
  | [], _ => false
  | f :: l, s => if Op.bytesLess f.name s then fHas l s else decide (f.name = s)
abbrev fAt (l : List File) (k : Nat) : File := l.getD k File.zero
theorem fIx_le : ∀ (l : List File) (s : Str), fIx l s ≤ l.length
  | [], _ => Nat.le_refl _
  | f :: l, s => by
    have := fIx_le l s
    unfold fIx
    split <;> simp only [List.length_cons] <;> omega
theorem fIx_eq : ∀ {l : List File} {s : Str} {k : Nat}, k ≤ l.length → (∀ j, j < k → Op.bytesLess (fAt l j).name s = true) → (k < l.length → Op.bytesLess (fAt l k).name s = false) → fIx l s = k
  | [], _, k, h, _, _ => by
    have : k = 0 := by simpa using h
    subst this
    rfl
  | f :: l, s, 0, _, _, h => by
    have h1 : Op.bytesLess f.name s = false := h (by simp)
    simp [fIx, h1]
  | f :: l, s, k + 1, h, h1, h2 => by
    have h3 : Op.bytesLess f.name s = true := h1 0 (by omega)
    have ih := fIx_eq (l := l) (s := s) (k := k) (by simpa using h) (fun j hj => h1 (j + 1) (by omega)) (fun hk => h2 (by simpa using hk))
    simp [fIx, h3, ih]
theorem fHas_eq : ∀ (l : List File) (s : Str), fHas l s = (decide (fIx l s < l.length) && decide ((fAt l (fIx l s)).name = s))
  | [], _ => by simp [fHas]
  | f :: l, s => by
    have ih := fHas_eq l s
    unfold fHas fIx
    split
    · rw [ih]
      simp [fAt]
    · simp [fAt]
theorem b_rfind (m r : Int) (l : List File) (s : Str) (hl : l.length ≤ 1099511627776) : DoesK Try.prog 0 28 [RS m r l, .str s] [] (EndF 0 (.tup [.int .i64 (fIx l s), .bool (fHas l s)]) []) := by
  refine DoesK.close ?_
  refine w_body (rs := [.tmp 4, .tmp 5]) (tm := [RS m r l, .str s, .any, .any, .any, .any, .any, .any, .any, .any, .any, .any, .any, .any, .any, .any, .any, .any, .any, .any, .any, .any, .any, .any, .any, .any, .any, .any, .any, .any, .any, .any, .any, .any, .any, .any, .any, .any, .any, .any]) fn_28 rfl rfl rfl rfl fun R hR => ?_
  (all_goals (try ((first | (with_reducible refine wp_id ?_) | (with_reducible refine does_id ?_)); refine walk ?_; (repeat' (first | exact trivial | with_reducible refine And.intro ?_ ?_)); all_goals (repeat (first | (with_reducible refine ImpB.mk fun hb => ?_) | (with_reducible refine ImpK.mk fun hK => ?_) | (with_reducible refine ImpF.mk fun hF => ?_) | (with_reducible refine ImpQ.mk fun hp => ?_) | (with_reducible refine AllE.mk fun p => ?_) | (with_reducible refine AllR.mk fun rest => ?_) | (with_reducible refine AllK.mk fun K => ?_))))); repeat' (with_reducible refine And.intro ?_ ?_))
  any_goals (refine w_loop (A := Nat) (fun k => k ≤ l.length ∧ ∀ j, j < k → Op.bytesLess (fAt l j).name s = true) (fun k => l.length - k) (fun k => [(6, .int .i64 k)]) (fun _ => []) (0) (ws := ?ws1) (tk := ?tk1) ?hw1 ?ht1 ?hi ?h0 ?LH1; (case hw1 => simp only [go_sem, Int.reduceToNat, Nat.min_eq_left, Nat.min_eq_right, Int.reducePow, Nat.reducePow, Int.reduceLE, Int.reduceLT, Int.reduceMul, Int.reduceAdd, Int.reduceSub, Int.reduceNeg, Bool.not_true, Bool.not_false, Bool.not_not, ↓reduceIte, Nat.reduceAdd, Nat.reduceSub, Nat.reduceMul, Nat.reduceEqDiff, reduceCtorEq, Nat.reduceLT, Nat.reduceLeDiff, Nat.reduceGT]; exact rfl); (case ht1 => simp only [go_sem, Int.reduceToNat, Nat.min_eq_left, Nat.min_eq_right, Int.reducePow, Nat.reducePow, Int.reduceLE, Int.reduceLT, Int.reduceMul, Int.reduceAdd, Int.reduceSub, Int.reduceNeg, Bool.not_true, Bool.not_false, Bool.not_not, ↓reduceIte, Nat.reduceAdd, Nat.reduceSub, Nat.reduceMul, Nat.reduceEqDiff, reduceCtorEq, Nat.reduceLT, Nat.reduceLeDiff, Nat.reduceGT]; exact rfl); (case' LH1 => rintro k E t hx hE ht; simp only [go_sem] at ht; subst ht; simp only [go_sem]; try dsimp only at hx))
  case hi => exact ⟨Nat.zero_le _, fun j hj => absurd hj (by omega)⟩
  case h0 => (focus (refine ⟨_, _, Gh.refl, [0], rfl, ?_⟩; (refine ⟨?_, ?_, ?_⟩ <;> simp only [go_sem, List.range, List.range.loop, List.nodup_cons, List.nodup_nil, List.mem_cons, List.not_mem_nil, or_false, or_self, Int.reduceToNat, Nat.min_eq_left, Nat.min_eq_right, Int.reducePow, Nat.reducePow, Int.reduceLE, Int.reduceLT, Int.reduceMul, Int.reduceAdd, Int.reduceSub, Int.reduceNeg, Bool.not_true, Bool.not_false, Bool.not_not, ↓reduceIte, Nat.reduceAdd, Nat.reduceSub, Nat.reduceMul, Nat.reduceEqDiff, reduceCtorEq, Nat.reduceLT, Nat.reduceLeDiff, Nat.reduceGT]); (try any_goals (refine ⟨?_, ?_⟩)); (try any_goals (with_reducible rfl))))
  case LH1 =>
    have hw : IntKind.i64.wrap ((k : Int) + 1) = ((k + 1 : Nat) : Int) := by rw [wrap_i64 _ (by omega) (by omega)]; omega
    by_cases hk : k < l.length
    · have hkd : decide ((k : Int) < l.length) = true := decide_eq_true (by omega)
      (have zx1 := @hkd; all_goals (try ((first | (with_reducible refine wp_id ?_) | (with_reducible refine does_id ?_)); refine walk ?_; (repeat' (first | exact trivial | with_reducible refine And.intro ?_ ?_)); all_goals (repeat (first | (with_reducible refine ImpB.mk fun hb => ?_) | (with_reducible refine ImpK.mk fun hK => ?_) | (with_reducible refine ImpF.mk fun hF => ?_) | (with_reducible refine ImpQ.mk fun hp => ?_) | (with_reducible refine AllE.mk fun p => ?_) | (with_reducible refine AllR.mk fun rest => ?_) | (with_reducible refine AllK.mk fun K => ?_))))); repeat' (with_reducible refine And.intro ?_ ?_))
      all_goals first | exact Int.natCast_nonneg _ | exact Int.ofNat_lt.2 hk | skip
      · refine ⟨k + 1, ⟨⟨by first | omega | (dsimp only; omega), fun j hj => ?_⟩, by first | omega | (dsimp only; omega)⟩, ?m1⟩
        · by_cases e : j = k
          · rw [e]; exact hb
          · exact hx.2 j (by omega)
        (focus (refine ⟨_, _, Gh.refl, [0], rfl, ?_⟩; (refine ⟨?_, ?_, ?_⟩ <;> simp only [go_sem, List.range, List.range.loop, List.nodup_cons, List.nodup_nil, List.mem_cons, List.not_mem_nil, or_false, or_self, Int.reduceToNat, Nat.min_eq_left, Nat.min_eq_right, Int.reducePow, Nat.reducePow, Int.reduceLE, Int.reduceLT, Int.reduceMul, Int.reduceAdd, Int.reduceSub, Int.reduceNeg, Bool.not_true, Bool.not_false, Bool.not_not, ↓reduceIte, Nat.reduceAdd, Nat.reduceSub, Nat.reduceMul, Nat.reduceEqDiff, reduceCtorEq, Nat.reduceLT, Nat.reduceLeDiff, Nat.reduceGT]); (try any_goals (refine ⟨?_, ?_⟩)); (try any_goals (with_reducible rfl))))
        exact hw.symm
      · have hi := fIx_eq (s := s) hx.1 hx.2 (fun _ => hb)
        have hh : fHas l s = decide ((l.getD k File.zero).name = s) := by rw [fHas_eq, hi, decide_eq_true hk, Bool.true_and]
        rw [hi, hh]
        (focus (refine ⟨_, _, Gh.refl, [], rfl, ?_⟩; (refine ⟨?_, ?_, ?_⟩ <;> simp only [go_sem, List.range, List.range.loop, List.nodup_cons, List.nodup_nil, List.mem_cons, List.not_mem_nil, or_false, or_self, Int.reduceToNat, Nat.min_eq_left, Nat.min_eq_right, Int.reducePow, Nat.reducePow, Int.reduceLE, Int.reduceLT, Int.reduceMul, Int.reduceAdd, Int.reduceSub, Int.reduceNeg, Bool.not_true, Bool.not_false, Bool.not_not, ↓reduceIte, Nat.reduceAdd, Nat.reduceSub, Nat.reduceMul, Nat.reduceEqDiff, reduceCtorEq, Nat.reduceLT, Nat.reduceLeDiff, Nat.reduceGT]); (try any_goals (refine ⟨?_, ?_⟩)); (try any_goals (with_reducible rfl))))
    · have hkd : decide ((k : Int) < l.length) = false := decide_eq_false (by omega)
      (have zx1 := @hkd; all_goals (try ((first | (with_reducible refine wp_id ?_) | (with_reducible refine does_id ?_)); refine walk ?_; (repeat' (first | exact trivial | with_reducible refine And.intro ?_ ?_)); all_goals (repeat (first | (with_reducible refine ImpB.mk fun hb => ?_) | (with_reducible refine ImpK.mk fun hK => ?_) | (with_reducible refine ImpF.mk fun hF => ?_) | (with_reducible refine ImpQ.mk fun hp => ?_) | (with_reducible refine AllE.mk fun p => ?_) | (with_reducible refine AllR.mk fun rest => ?_) | (with_reducible refine AllK.mk fun K => ?_))))); repeat' (with_reducible refine And.intro ?_ ?_))
      have hi := fIx_eq (s := s) hx.1 hx.2 (fun h => absurd h hk)
      have hh : fHas l s = false := by rw [fHas_eq, hi, decide_eq_false hk, Bool.false_and]
      rw [hi, hh]
      (focus (refine ⟨_, _, Gh.refl, [], rfl, ?_⟩; (refine ⟨?_, ?_, ?_⟩ <;> simp only [go_sem, List.range, List.range.loop, List.nodup_cons, List.nodup_nil, List.mem_cons, List.not_mem_nil, or_false, or_self, Int.reduceToNat, Nat.min_eq_left, Nat.min_eq_right, Int.reducePow, Nat.reducePow, Int.reduceLE, Int.reduceLT, Int.reduceMul, Int.reduceAdd, Int.reduceSub, Int.reduceNeg, Bool.not_true, Bool.not_false, Bool.not_not, ↓reduceIte, Nat.reduceAdd, Nat.reduceSub, Nat.reduceMul, Nat.reduceEqDiff, reduceCtorEq, Nat.reduceLT, Nat.reduceLeDiff, Nat.reduceGT]); (try any_goals (refine ⟨?_, ?_⟩)); (try any_goals (with_reducible rfl))))
theorem c_rfind {h : List Ch} {K : KT} {m r : Int} {l : List File} {s : Str} (H : K (.tup [.int .i64 (fIx l s), .bool (fHas l s)]) h) (s1 : l.length ≤ 1099511627776) : Does Try.prog 28 [.agg [.int .i64 m, .int .i64 r, .ro .file l], .str s] h K :=
  frame_pure (b_rfind m r l s s1) (br_cons (br_agg (br_cons br_int (br_cons br_int (br_cons br_ro br_nil)))) (br_cons br_str br_nil)) (.inl rfl) (fun _ => rfl) H
abbrev i_rfind := Ctr.mk (i := 0) (g := 28) @c_rfind
attribute [instance] i_rfind
theorem c_rnew {h : List Ch} {K : KT} {m r : Int} (H : K (.agg [.int .i64 (min (max m 0) 256), .int .i64 (min (max r 0) 2147483648), .ro .file []]) h) : Does Try.prog 14 [.int .i64 m, .int .i64 r] h K :=
  frame_pure (b_rnew m r) (br_cons br_int (br_cons br_int br_nil)) (.inl rfl) (fun _ => rfl) H
abbrev i_rnew := Ctr.mk (i := 0) (g := 14) @c_rnew
attribute [instance] i_rnew
/-- the entries of a store -/
def kvF (l : List File) : List (Str × Str) := l.map fun f => (f.name, f.data)
theorem b_rfree (m r : Int) (l : List File) (hl : l.length ≤ 1099511627776) (hr : 0 ≤ r ∧ r ≤ 2147483648) (hs : (sumL (kvF l) : Int) ≤ r) : DoesK Try.prog 0 21 [RS m r l] [] (EndF 0 (.int .i64 (r - sumL (kvF l))) []) := by
  refine DoesK.close ?_
  refine w_body (rs := [.tmp 2]) (tm := [RS m r l, .any, .any, .any, .any, .any, .any, .any, .any, .any, .any, .any, .any, .any, .any, .any, .any, .any, .any, .any, .any, .any, .any, .any]) fn_21 rfl rfl rfl rfl fun R hR => ?_
  (all_goals (try ((first | (with_reducible refine wp_id ?_) | (with_reducible refine does_id ?_)); refine walk ?_; (repeat' (first | exact trivial | with_reducible refine And.intro ?_ ?_)); all_goals (repeat (first | (with_reducible refine ImpB.mk fun hb => ?_) | (with_reducible refine ImpK.mk fun hK => ?_) | (with_reducible refine ImpF.mk fun hF => ?_) | (with_reducible refine ImpQ.mk fun hp => ?_) | (with_reducible refine AllE.mk fun p => ?_) | (with_reducible refine AllR.mk fun rest => ?_) | (with_reducible refine AllK.mk fun K => ?_))))); repeat' (with_reducible refine And.intro ?_ ?_))
  any_goals (refine w_loop (A := Nat) (fun k => k ≤ l.length) (fun k => l.length - k) (fun k => [(3, .int .i64 (r - sumL (kvF (l.take k)))), (4, .int .i64 k)]) (fun _ => []) (0) (ws := ?ws2) (tk := ?tk2) ?hw2 ?ht2 ?hi ?h0 ?LH2; (case hw2 => simp only [go_sem, Int.reduceToNat, Nat.min_eq_left, Nat.min_eq_right, Int.reducePow, Nat.reducePow, Int.reduceLE, Int.reduceLT, Int.reduceMul, Int.reduceAdd, Int.reduceSub, Int.reduceNeg, Bool.not_true, Bool.not_false, Bool.not_not, ↓reduceIte, Nat.reduceAdd, Nat.reduceSub, Nat.reduceMul, Nat.reduceEqDiff, reduceCtorEq, Nat.reduceLT, Nat.reduceLeDiff, Nat.reduceGT]; exact rfl); (case ht2 => simp only [go_sem, Int.reduceToNat, Nat.min_eq_left, Nat.min_eq_right, Int.reducePow, Nat.reducePow, Int.reduceLE, Int.reduceLT, Int.reduceMul, Int.reduceAdd, Int.reduceSub, Int.reduceNeg, Bool.not_true, Bool.not_false, Bool.not_not, ↓reduceIte, Nat.reduceAdd, Nat.reduceSub, Nat.reduceMul, Nat.reduceEqDiff, reduceCtorEq, Nat.reduceLT, Nat.reduceLeDiff, Nat.reduceGT]; exact rfl); (case' LH2 => rintro k E t hx hE ht; simp only [go_sem] at ht; subst ht; simp only [go_sem]; try dsimp only at hx))
  case hi => exact Nat.zero_le _
  case h0 =>
    (focus (refine ⟨_, _, Gh.refl, [0], rfl, ?_⟩; (refine ⟨?_, ?_, ?_⟩ <;> simp only [go_sem, List.range, List.range.loop, List.nodup_cons, List.nodup_nil, List.mem_cons, List.not_mem_nil, or_false, or_self, Int.reduceToNat, Nat.min_eq_left, Nat.min_eq_right, Int.reducePow, Nat.reducePow, Int.reduceLE, Int.reduceLT, Int.reduceMul, Int.reduceAdd, Int.reduceSub, Int.reduceNeg, Bool.not_true, Bool.not_false, Bool.not_not, ↓reduceIte, Nat.reduceAdd, Nat.reduceSub, Nat.reduceMul, Nat.reduceEqDiff, reduceCtorEq, Nat.reduceLT, Nat.reduceLeDiff, Nat.reduceGT]); (try any_goals (refine ⟨?_, ?_⟩)); (try any_goals (with_reducible rfl))))
    simp [sumL, kvF]
  case LH2 =>
    have hw : IntKind.i64.wrap ((k : Int) + 1) = ((k + 1 : Nat) : Int) := by rw [wrap_i64 _ (by omega) (by omega)]; omega
    by_cases hk : k < l.length
    · have hkd : decide ((k : Int) < l.length) = true := decide_eq_true (by omega)
      have e1 : sumL (kvF (l.take (k + 1))) = sumL (kvF (l.take k)) + (fAt l k).data.length := by
        rw [List.take_succ_eq_append_getElem hk]
        unfold kvF
        rw [List.map_append, sumL_app]
        simp [sumL, fAt, List.getD_eq_getElem?_getD, List.getElem?_eq_getElem hk]
      have e2 : sumL (kvF (l.take (k + 1))) ≤ sumL (kvF l) := by
        have : kvF l = kvF (l.take (k + 1)) ++ kvF (l.drop (k + 1)) := by unfold kvF; rw [← List.map_append, List.take_append_drop]
        rw [this, sumL_app]
        exact Nat.le_add_right _ _
      have w : IntKind.i64.wrap (r - sumL (kvF (l.take k)) - (fAt l k).data.length) = r - sumL (kvF (l.take (k + 1))) := by rw [wrap_i64 _ (by omega) (by omega)]; omega
      (have zx1 := @hkd; all_goals (try ((first | (with_reducible refine wp_id ?_) | (with_reducible refine does_id ?_)); refine walk ?_; (repeat' (first | exact trivial | with_reducible refine And.intro ?_ ?_)); all_goals (repeat (first | (with_reducible refine ImpB.mk fun hb => ?_) | (with_reducible refine ImpK.mk fun hK => ?_) | (with_reducible refine ImpF.mk fun hF => ?_) | (with_reducible refine ImpQ.mk fun hp => ?_) | (with_reducible refine AllE.mk fun p => ?_) | (with_reducible refine AllR.mk fun rest => ?_) | (with_reducible refine AllK.mk fun K => ?_))))); repeat' (with_reducible refine And.intro ?_ ?_))
      all_goals first | exact Int.natCast_nonneg _ | exact Int.ofNat_lt.2 hk | skip
      refine ⟨k + 1, ⟨by first | omega | (dsimp only; omega), by first | omega | (dsimp only; omega)⟩, ?m1⟩
      (focus (refine ⟨_, _, Gh.refl, [0], rfl, ?_⟩; (refine ⟨?_, ?_, ?_⟩ <;> simp only [go_sem, List.range, List.range.loop, List.nodup_cons, List.nodup_nil, List.mem_cons, List.not_mem_nil, or_false, or_self, Int.reduceToNat, Nat.min_eq_left, Nat.min_eq_right, Int.reducePow, Nat.reducePow, Int.reduceLE, Int.reduceLT, Int.reduceMul, Int.reduceAdd, Int.reduceSub, Int.reduceNeg, Bool.not_true, Bool.not_false, Bool.not_not, ↓reduceIte, Nat.reduceAdd, Nat.reduceSub, Nat.reduceMul, Nat.reduceEqDiff, reduceCtorEq, Nat.reduceLT, Nat.reduceLeDiff, Nat.reduceGT]); (try any_goals (refine ⟨?_, ?_⟩)); (try any_goals (with_reducible rfl))))
      · exact w.symm
      · exact hw.symm
    · have hkd : decide ((k : Int) < l.length) = false := decide_eq_false (by omega)
      rw [List.take_of_length_le (by omega)]
      (have zx1 := @hkd; all_goals (try ((first | (with_reducible refine wp_id ?_) | (with_reducible refine does_id ?_)); refine walk ?_; (repeat' (first | exact trivial | with_reducible refine And.intro ?_ ?_)); all_goals (repeat (first | (with_reducible refine ImpB.mk fun hb => ?_) | (with_reducible refine ImpK.mk fun hK => ?_) | (with_reducible refine ImpF.mk fun hF => ?_) | (with_reducible refine ImpQ.mk fun hp => ?_) | (with_reducible refine AllE.mk fun p => ?_) | (with_reducible refine AllR.mk fun rest => ?_) | (with_reducible refine AllK.mk fun K => ?_))))); repeat' (with_reducible refine And.intro ?_ ?_))
      (focus (refine ⟨_, _, Gh.refl, [], rfl, ?_⟩; (refine ⟨?_, ?_, ?_⟩ <;> simp only [go_sem, List.range, List.range.loop, List.nodup_cons, List.nodup_nil, List.mem_cons, List.not_mem_nil, or_false, or_self, Int.reduceToNat, Nat.min_eq_left, Nat.min_eq_right, Int.reducePow, Nat.reducePow, Int.reduceLE, Int.reduceLT, Int.reduceMul, Int.reduceAdd, Int.reduceSub, Int.reduceNeg, Bool.not_true, Bool.not_false, Bool.not_not, ↓reduceIte, Nat.reduceAdd, Nat.reduceSub, Nat.reduceMul, Nat.reduceEqDiff, reduceCtorEq, Nat.reduceLT, Nat.reduceLeDiff, Nat.reduceGT]); (try any_goals (refine ⟨?_, ?_⟩)); (try any_goals (with_reducible rfl))))
theorem c_rfree {h : List Ch} {K : KT} {m r : Int} {l : List File} (H : K (.int .i64 (r - sumL (kvF l))) h) (s1 : l.length ≤ 1099511627776) (s2 : 0 ≤ r ∧ r ≤ 2147483648) (s3 : (sumL (kvF l) : Int) ≤ r) : Does Try.prog 21 [.agg [.int .i64 m, .int .i64 r, .ro .file l]] h K :=
  frame_pure (b_rfree m r l s1 s2 s3) (br_cons (br_agg (br_cons br_int (br_cons br_int (br_cons br_ro br_nil)))) br_nil) (.inl rfl) (fun _ => rfl) H
abbrev i_rfree := Ctr.mk (i := 0) (g := 21) @c_rfree
attribute [instance] i_rfree
/-- what the reference's Get answers -/
def rgetE (l : List File) (s : Str) : Str × Int := if nameB s then (if fHas l s then ((fAt l (fIx l s)).data, 0) else ([], 8)) else ([], 1)
theorem b_rget (m r : Int) (l : List File) (s : Str) (hl : l.length ≤ 1099511627776) (hs : s.length ≤ 9223372036854775807) : DoesK Try.prog 0 18 [RS m r l, .str s] [] (EndF 0 (.tup [.ro .byte (rgetE l s).1, .int .i64 (rgetE l s).2]) []) := by
  refine DoesK.close ?_
  cases hn : nameB s
  · have e : rgetE l s = ([], 1) := by unfold rgetE; rw [hn]; rfl
    rw [e]
    refine w_body (rs := [.tmp 4, .tmp 5]) (tm := [RS m r l, .str s, .any, .any, .any, .any, .any, .any, .any, .any, .any, .any, .any, .any, .any, .any, .any, .any, .any, .any, .any, .any, .any, .any, .any]) fn_18 rfl rfl rfl rfl fun R hR => ?_
    (have zx1 := @hn; all_goals (try ((first | (with_reducible refine wp_id ?_) | (with_reducible refine does_id ?_)); refine walk ?_; (repeat' (first | exact trivial | with_reducible refine And.intro ?_ ?_)); all_goals (repeat (first | (with_reducible refine ImpB.mk fun hb => ?_) | (with_reducible refine ImpK.mk fun hK => ?_) | (with_reducible refine ImpF.mk fun hF => ?_) | (with_reducible refine ImpQ.mk fun hp => ?_) | (with_reducible refine AllE.mk fun p => ?_) | (with_reducible refine AllR.mk fun rest => ?_) | (with_reducible refine AllK.mk fun K => ?_))))); repeat' (with_reducible refine And.intro ?_ ?_))
    (focus (refine ⟨_, _, Gh.refl, [], rfl, ?_⟩; (refine ⟨?_, ?_, ?_⟩ <;> simp only [go_sem, List.range, List.range.loop, List.nodup_cons, List.nodup_nil, List.mem_cons, List.not_mem_nil, or_false, or_self, Int.reduceToNat, Nat.min_eq_left, Nat.min_eq_right, Int.reducePow, Nat.reducePow, Int.reduceLE, Int.reduceLT, Int.reduceMul, Int.reduceAdd, Int.reduceSub, Int.reduceNeg, Bool.not_true, Bool.not_false, Bool.not_not, ↓reduceIte, Nat.reduceAdd, Nat.reduceSub, Nat.reduceMul, Nat.reduceEqDiff, reduceCtorEq, Nat.reduceLT, Nat.reduceLeDiff, Nat.reduceGT]); (try any_goals (refine ⟨?_, ?_⟩)); (try any_goals (with_reducible rfl))))
  · cases hh : fHas l s
    · have e : rgetE l s = ([], 8) := by unfold rgetE; rw [hn, hh]; rfl
      rw [e]
      refine w_body (rs := [.tmp 4, .tmp 5]) (tm := [RS m r l, .str s, .any, .any, .any, .any, .any, .any, .any, .any, .any, .any, .any, .any, .any, .any, .any, .any, .any, .any, .any, .any, .any, .any, .any]) fn_18 rfl rfl rfl rfl fun R hR => ?_
      (have zx1 := @hn; have zx2 := @hh; all_goals (try ((first | (with_reducible refine wp_id ?_) | (with_reducible refine does_id ?_)); refine walk ?_; (repeat' (first | exact trivial | with_reducible refine And.intro ?_ ?_)); all_goals (repeat (first | (with_reducible refine ImpB.mk fun hb => ?_) | (with_reducible refine ImpK.mk fun hK => ?_) | (with_reducible refine ImpF.mk fun hF => ?_) | (with_reducible refine ImpQ.mk fun hp => ?_) | (with_reducible refine AllE.mk fun p => ?_) | (with_reducible refine AllR.mk fun rest => ?_) | (with_reducible refine AllK.mk fun K => ?_))))); repeat' (with_reducible refine And.intro ?_ ?_))
      (focus (refine ⟨_, _, Gh.refl, [], rfl, ?_⟩; (refine ⟨?_, ?_, ?_⟩ <;> simp only [go_sem, List.range, List.range.loop, List.nodup_cons, List.nodup_nil, List.mem_cons, List.not_mem_nil, or_false, or_self, Int.reduceToNat, Nat.min_eq_left, Nat.min_eq_right, Int.reducePow, Nat.reducePow, Int.reduceLE, Int.reduceLT, Int.reduceMul, Int.reduceAdd, Int.reduceSub, Int.reduceNeg, Bool.not_true, Bool.not_false, Bool.not_not, ↓reduceIte, Nat.reduceAdd, Nat.reduceSub, Nat.reduceMul, Nat.reduceEqDiff, reduceCtorEq, Nat.reduceLT, Nat.reduceLeDiff, Nat.reduceGT]); (try any_goals (refine ⟨?_, ?_⟩)); (try any_goals (with_reducible rfl))))
    · have e : rgetE l s = ((fAt l (fIx l s)).data, 0) := by unfold rgetE; rw [hn, hh]; rfl
      rw [e]
      have hi : fIx l s < l.length := by
        rw [fHas_eq] at hh
        simp only [Bool.and_eq_true, decide_eq_true_eq] at hh
        exact hh.1
      refine w_body (rs := [.tmp 4, .tmp 5]) (tm := [RS m r l, .str s, .any, .any, .any, .any, .any, .any, .any, .any, .any, .any, .any, .any, .any, .any, .any, .any, .any, .any, .any, .any, .any, .any, .any]) fn_18 rfl rfl rfl rfl fun R hR => ?_
      (have zx1 := @hn; have zx2 := @hh; all_goals (try ((first | (with_reducible refine wp_id ?_) | (with_reducible refine does_id ?_)); refine walk ?_; (repeat' (first | exact trivial | with_reducible refine And.intro ?_ ?_)); all_goals (repeat (first | (with_reducible refine ImpB.mk fun hb => ?_) | (with_reducible refine ImpK.mk fun hK => ?_) | (with_reducible refine ImpF.mk fun hF => ?_) | (with_reducible refine ImpQ.mk fun hp => ?_) | (with_reducible refine AllE.mk fun p => ?_) | (with_reducible refine AllR.mk fun rest => ?_) | (with_reducible refine AllK.mk fun K => ?_))))); repeat' (with_reducible refine And.intro ?_ ?_))
      all_goals first | exact Int.natCast_nonneg _ | exact Int.ofNat_lt.2 hi | skip
      (focus (refine ⟨_, _, Gh.refl, [], rfl, ?_⟩; (refine ⟨?_, ?_, ?_⟩ <;> simp only [go_sem, List.range, List.range.loop, List.nodup_cons, List.nodup_nil, List.mem_cons, List.not_mem_nil, or_false, or_self, Int.reduceToNat, Nat.min_eq_left, Nat.min_eq_right, Int.reducePow, Nat.reducePow, Int.reduceLE, Int.reduceLT, Int.reduceMul, Int.reduceAdd, Int.reduceSub, Int.reduceNeg, Bool.not_true, Bool.not_false, Bool.not_not, ↓reduceIte, Nat.reduceAdd, Nat.reduceSub, Nat.reduceMul, Nat.reduceEqDiff, reduceCtorEq, Nat.reduceLT, Nat.reduceLeDiff, Nat.reduceGT]); (try any_goals (refine ⟨?_, ?_⟩)); (try any_goals (with_reducible rfl))))
theorem c_rget {h : List Ch} {K : KT} {m r : Int} {l : List File} {s d : Str} {n : Int} (H : K (.tup [.ro .byte d, .int .i64 n]) h) (e : rgetE l s = (d, n)) (s1 : l.length ≤ 1099511627776) (s2 : s.length ≤ 9223372036854775807) : Does Try.prog 18 [.agg [.int .i64 m, .int .i64 r, .ro .file l], .str s] h K := by
  have hb := b_rget m r l s s1 s2
  rw [e] at hb
  exact frame_pure hb (br_cons (br_agg (br_cons br_int (br_cons br_int (br_cons br_ro br_nil)))) (br_cons br_str br_nil)) (.inl rfl) (fun _ => rfl) H
abbrev i_rget := Ctr.mk (i := 0) (g := 18) @c_rget
attribute [instance] i_rget
end Go.V
