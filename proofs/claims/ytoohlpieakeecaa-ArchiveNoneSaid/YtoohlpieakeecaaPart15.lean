/-
  slices.SortFunc at ranges, by their begin: the shelf's contract over the abstract memory.
  ranges: the program's normal, Add, Remove, Missing.
  ranges: Size and Head.
  Ranges that are built in the call.
  archive: Add in one contract; duplicate with data; entries, Len.
  archive: plain law of ArchiveFills.
-/
import Derived.Test.YtoohlpieakeecaaPart14
import Derived.Shelf.SlSortCmp.WholeK
import Derived.Shelf.SlSortCmp.NoneTotal
import Derived.Shelf.SlicesG.Cmp
import Derived.Shelf.Lay
import Derived.Ground.SlsfProg
import Derived.Ground.SlgcProg
set_option linter.unusedVariables false
set_option linter.unusedSimpArgs false
set_option maxRecDepth 100000
set_option maxHeartbeats 1000000
namespace Go.Proofs
open Go.Shelf Go.RowKit Go.Lib Go.Sort
shelf_lay_g SlLaysF0.n6 Slsf 6 at Try 64 as Try.sortRng
shelf_lay_g SlLaysC2.n5 Slgc 5 at Try 66 as Try.cmpInt
end Go.Proofs
namespace Go.V
open Go.Proofs Go.Sort Go.Shelf Go.RowKit
def encR (x : Rng) : List Value := [.int .i64 x.from_, .int .i64 x.to_]
instance : Inhabited Rng := ⟨Rng.zero⟩
theorem ltFrom (x y : Rng) : ltOf (fun x y : Rng => Lib.compareInt x.from_ y.from_) x y = decide (x.from_ < y.from_) := by
  unfold ltOf Lib.compareInt
  by_cases h1 : x.from_ < y.from_
  · simp [h1]
  · by_cases h2 : y.from_ < x.from_ <;> simp [h1, h2]
theorem swoFrom : SWO (ltOf fun x y : Rng => Lib.compareInt x.from_ y.from_) where
  irrefl x := by rw [ltFrom]; simp
  trans x y z h1 h2 := by rw [ltFrom] at *; simp at *; omega
  ntrans x y z h1 h2 := by rw [ltFrom] at *; simp at *; omega
theorem closureR (x y : Rng) (W : World) : Calls Try.prog 65 #[.agg #[.int .i64 x.from_, .int .i64 x.to_], .agg #[.int .i64 y.from_, .int .i64 y.to_]] W fun e w' => e = .returned (.int .i64 (Lib.compareInt x.from_ y.from_)) ∧ ∃ q os', w' = grow (W.drewN q) os' := by
  have hcon := fun W' => AnyG.cmp_Compare_int Try.cmpInt x.from_ y.from_ W'
  change ∀ W', Calls Try.prog 66 _ _ _ at hcon
  generalize Lib.compareInt x.from_ y.from_ = r at hcon ⊢
  go_enter Try.func65, Try.ntmps65
  go_wp2_with (go_at_call 66; refine (hcon _).mono ?_; rintro e w' ⟨rfl, rfl⟩)
  go_ret
  exact ⟨rfl, 0, _, by rw [alloc_eq_grow, alloc_eq_grow, grow_grow]; rfl⟩
theorem cmpLaysR (blk off size : Nat) (w : World) : CmpLays Try.prog 65 #[] encR 2 (fun x y => Lib.compareInt x.from_ y.from_) blk off size w :=
  fun _ _ _ _ x y => closureR x y _
theorem decR_rng (R : RO) (x : Rng) (cs : List Value) (h : LRel R [] (Ety.enc .rng x) cs) : ∃ a : Rng, encR a = cs := by
  cases h with
  | cons h1 h2 =>
    cases h1
    cases h2 with
    | cons h3 h4 =>
      cases h3
      cases h4
      exact ⟨x, rfl⟩
theorem eq_rng {R : RO} {x a : Rng} (h : LRel R [] (Ety.enc .rng x) (encR a)) : a.from_ = x.from_ ∧ a.to_ = x.to_ := by
  obtain ⟨v1, e1, h1⟩ := h.get 0 rfl
  obtain ⟨v2, e2, h2⟩ := h.get 1 rfl
  cases e1; cases e2
  exact ⟨rel_int h1, rel_int h2⟩
theorem sortR_runs (blk off cap : Nat) (d : Array Rng) (w : World) (hH : HoldsK encR 2 w blk off d) (hblk : blk < w.heap.size) (hsz : d.size < 4611686018427387904) :
    Calls Try.prog 64 #[.slice (some ⟨blk, off, none⟩) d.size cap, .func (.func 65) #[] #[]] w fun e w' => e = .returned (.tuple #[]) ∧ ∃ d' n os, PermIn 0 d.size d d' ∧ SortedIn (ltOf fun x y : Rng => Lib.compareInt x.from_ y.from_) 0 d.size d' ∧ w' = sortWorldK encR 2 w blk off n d' os := by
  have eg : ∀ args w, (callFunc 65 args).run Try.prog w = .ok (.enter 65 args) w := enters_of Try.func65 (by kernel_rfl) rfl
  exact AnyQ.slices_SortFunc Try.sortRng 2 Try.isAgg35 Try.sizeOf35 encR (fun _ => rfl) (fun x v hv => by simp [encR] at hv; rcases hv with rfl | rfl <;> rfl) (fun x y => Lib.compareInt x.from_ y.from_) swoFrom 65 #[] blk off cap d w eg (cmpLaysR blk off d.size w) hH hblk hsz
theorem c_sortR {h : List Ch} {K : KT} {t : Nat} {xs : List Rng} {n : Nat} (H : ∀ ys : List Rng, ys.Perm xs → (ys.Pairwise fun r s => r.from_ ≤ s.from_) → K (.tup []) (h.set t (.rows .rng ys))) (o : hth h t = .rows .rng xs) (s1 : n = xs.length) (s2 : xs.length ≤ 1099511627776) : Does Try.prog 64 [.sl t .rng 0 n, .fn 65 []] h K := -- nocall
  sort_cmpK (e := .rng) ⟨_, fn_64, rfl, rfl⟩ (enc := encR) (fun _ => rfl) (cf := fun x y => Lib.compareInt x.from_ y.from_) (lt := fun x y => decide (x.from_ < y.from_)) decR_rng
    (fun R x y a b h1 h2 => by
      rw [ltFrom, (eq_rng h1).1, (eq_rng h2).1])
    sortR_runs (fun p cap w => AnyF.slices_SortFunc_none (L := { Try.sortRng with }) p cap _ w) s1 s2 (fun ys h1 h2 => H ys h1 (h2.imp fun h => by simpa using h)) o
end Go.V

set_option maxRecDepth 100000
set_option maxHeartbeats 4000000
namespace Go.V
open Go.Proofs
theorem join_next {d : List Rng} {k : Nat} (hk : k < d.length) : (d.take (k + 1)).foldl joinS [] = joinS ((d.take k).foldl joinS []) (rAt d k) := by rw [take_next hk, List.foldl_append]; rfl
theorem joinS_len (out : List Rng) (r : Rng) : (joinS out r).length ≤ out.length + 1 := by
  unfold joinS
  split <;> simp
theorem joins_len (d : List Rng) : (d.foldl joinS []).length ≤ d.length := by
  have key : ∀ (l s : List Rng), (l.foldl joinS s).length ≤ s.length + l.length := by
    intro l
    induction l with
    | nil => intro s; simp
    | cons r l ih =>
      intro s
      have h1 := ih (joinS s r)
      have h2 := joinS_len s r
      simp only [List.foldl_cons, List.length_cons]
      omega
  have := key d []
  simpa using this
theorem b_normal (l : List Rng) (hl : l.length ≤ 1000000000) : DoesK Try.prog 0 54 [.ro .rng l] [] (EndF 0 (.ro .rng (ofL l)) []) := by
  refine DoesK.close ?_
  obtain ⟨f, hf⟩ : ∃ f, l.filter (fun x => !neR x) = f := ⟨_, rfl⟩
  have hfl : f.length ≤ l.length := by rw [← hf]; exact List.length_filter_le _ _
  obtain ⟨g, hg⟩ : ∃ g, ofL l = g := ⟨_, rfl⟩
  have hall : ∀ d : List Rng, d.Perm f → (d.Pairwise fun r s => r.from_ ≤ s.from_) → d.foldl joinS [] = g := fun d h1 h2 => by
    rw [← hf] at h1
    rw [← hg]
    exact normal_eq h1 h2
  rw [hg]
  refine w_body (rs := [.tmp 2]) (tm := [.ro .rng l, .any, .any, .any, .any, .any, .any, .any, .any, .any, .any, .any, .any, .any, .any, .any, .any, .any, .any, .any, .any, .any, .any, .any, .any, .any, .any, .any, .any, .any, .any, .any, .any, .any, .any, .any, .any, .any, .any, .any, .any, .any, .any, .any, .any, .any, .any, .any, .any, .any, .any, .any, .any, .any]) fn_54 rfl rfl rfl rfl fun R hR => ?_
  (have zx1 := @hf; all_goals (try ((first | (with_reducible refine wp_id ?_) | (with_reducible refine does_id ?_) | (with_reducible refine ops_id ?_)); refine walk ?_; (repeat' (first | exact trivial | with_reducible refine And.intro ?_ ?_)); all_goals (repeat (first | (with_reducible refine ImpB.mk fun hb => ?_) | (with_reducible refine ImpK.mk fun hK => ?_) | (with_reducible refine ImpF.mk fun hF => ?_) | (with_reducible refine ImpQ.mk fun hp => ?_) | (with_reducible refine AllE.mk fun p => ?_) | (with_reducible refine AllR.mk fun rest => ?_) | (with_reducible refine AllK.mk fun K => ?_))))); repeat' (with_reducible refine And.intro ?_ ?_))
  refine c_sortR (xs := f) (fun d hp hs => ?_) rfl rfl (by omega)
  have hdl := hp.length_eq
  have hend := hall d hp hs
  refine hK _ _ ?_
  (intro tm' e'; simp only [putA, List.set_cons_succ, List.set_cons_zero] at e'; subst e')
  simp only [go_sem, decide_true, decide_false, Int.reduceToNat, Nat.min_eq_left, Nat.min_eq_right, Int.reducePow, Nat.reducePow, Int.reduceLE, Int.reduceLT, Int.reduceMul, Int.reduceAdd, Int.reduceSub, Int.reduceNeg, Bool.not_true, Bool.not_false, Bool.not_not, ↓reduceIte, Nat.reduceAdd, Nat.reduceSub, Nat.reduceMul, Nat.reduceEqDiff, reduceCtorEq, Nat.reduceLT, Nat.reduceLeDiff, Nat.reduceGT]
  (all_goals (try ((first | (with_reducible refine wp_id ?_) | (with_reducible refine does_id ?_) | (with_reducible refine ops_id ?_)); refine walk ?_; (repeat' (first | exact trivial | with_reducible refine And.intro ?_ ?_)); all_goals (repeat (first | (with_reducible refine ImpB.mk fun hb => ?_) | (with_reducible refine ImpK.mk fun hK => ?_) | (with_reducible refine ImpF.mk fun hF => ?_) | (with_reducible refine ImpQ.mk fun hp => ?_) | (with_reducible refine AllE.mk fun p => ?_) | (with_reducible refine AllR.mk fun rest => ?_) | (with_reducible refine AllK.mk fun K => ?_))))); repeat' (with_reducible refine And.intro ?_ ?_))
  refine Wp.ghost (gh_adopt (s := 4) .rng trivial) ?_
  simp only [go_sem, decide_true, decide_false, Int.reduceToNat, Nat.min_eq_left, Nat.min_eq_right, Int.reducePow, Nat.reducePow, Int.reduceLE, Int.reduceLT, Int.reduceMul, Int.reduceAdd, Int.reduceSub, Int.reduceNeg, Bool.not_true, Bool.not_false, Bool.not_not, ↓reduceIte, Nat.reduceAdd, Nat.reduceSub, Nat.reduceMul, Nat.reduceEqDiff, reduceCtorEq, Nat.reduceLT, Nat.reduceLeDiff, Nat.reduceGT]
  any_goals ((try (refine w_seq fun K hK => ?_)); (try (refine w_block ?_)); refine w_loop (A := Nat) (fun k => k ≤ d.length) (fun k => d.length - k) (fun k => [(4, .sl 1 .rng 0 ((d.take k).foldl joinS []).length), (15, .int .i64 k)]) (fun k => [(1, .rows .rng ((d.take k).foldl joinS []))]) (0) (ws := ?ws1) (tk := ?tk1) ?hw1 ?ht1 ?hi ?h0 ?LH1; (case hw1 => simp only [go_sem, decide_true, decide_false, Int.reduceToNat, Nat.min_eq_left, Nat.min_eq_right, Int.reducePow, Nat.reducePow, Int.reduceLE, Int.reduceLT, Int.reduceMul, Int.reduceAdd, Int.reduceSub, Int.reduceNeg, Bool.not_true, Bool.not_false, Bool.not_not, ↓reduceIte, Nat.reduceAdd, Nat.reduceSub, Nat.reduceMul, Nat.reduceEqDiff, reduceCtorEq, Nat.reduceLT, Nat.reduceLeDiff, Nat.reduceGT]; exact rfl); (case ht1 => simp only [go_sem, decide_true, decide_false, Int.reduceToNat, Nat.min_eq_left, Nat.min_eq_right, Int.reducePow, Nat.reducePow, Int.reduceLE, Int.reduceLT, Int.reduceMul, Int.reduceAdd, Int.reduceSub, Int.reduceNeg, Bool.not_true, Bool.not_false, Bool.not_not, ↓reduceIte, Nat.reduceAdd, Nat.reduceSub, Nat.reduceMul, Nat.reduceEqDiff, reduceCtorEq, Nat.reduceLT, Nat.reduceLeDiff, Nat.reduceGT]; exact rfl); (case' LH1 => rintro k E t hx hE ht; simp only [go_sem] at ht; subst ht; simp only [go_sem]; try dsimp only at hx))
  case hi => exact Nat.zero_le _
  case h0 =>
    (focus (refine ⟨_, _, Gh.refl, [0, 1], rfl, ?_⟩; (refine fitq ?_ ?_ ?_ <;> try exact trivial); (try any_goals (refine ⟨?_, ?_⟩)); (try any_goals (with_reducible rfl))))
    all_goals rfl
  case LH1 =>
    have hw : IntKind.i64.wrap ((k : Int) + 1) = ((k + 1 : Nat) : Int) := by rw [wrap_i64 _ (by omega) (by omega)]; omega
    by_cases hk : k < d.length
    · have hkd : decide ((k : Int) < f.length) = true := decide_eq_true (by omega)
      have hn := join_next hk
      have hol := joins_len (d.take k)
      rw [List.length_take] at hol
      obtain ⟨out, hout⟩ : ∃ out, (d.take k).foldl joinS [] = out := ⟨_, rfl⟩
      rw [hout] at hn hol ⊢
      by_cases c0 : 0 < out.length
      · have d0 : decide ((0 : Int) < out.length) = true := decide_eq_true (by omega)
        have w1 : IntKind.i64.wrap ((out.length : Int) - 1) = ((out.length - 1 : Nat) : Int) := by rw [wrap_i64 _ (by omega) (by omega)]; omega
        have hl1 : out.length - 1 < out.length := by omega
        by_cases c1 : (rAt d k).from_ ≤ (rAt out (out.length - 1)).to_
        · have d1 : decide ((rAt d k).from_ ≤ (rAt out (out.length - 1)).to_) = true := decide_eq_true c1
          have hj : joinS out (rAt d k) = out.set (out.length - 1) ⟨(rAt out (out.length - 1)).from_, max (rAt out (out.length - 1)).to_ (rAt d k).to_⟩ := by unfold joinS; rw [if_pos ⟨c0, c1⟩]
          (have zx1 := @hkd; have zx2 := @d0; have zx3 := @w1; have zx4 := @d1; all_goals (try ((first | (with_reducible refine wp_id ?_) | (with_reducible refine does_id ?_) | (with_reducible refine ops_id ?_)); refine walk ?_; (repeat' (first | exact trivial | with_reducible refine And.intro ?_ ?_)); all_goals (repeat (first | (with_reducible refine ImpB.mk fun hb => ?_) | (with_reducible refine ImpK.mk fun hK => ?_) | (with_reducible refine ImpF.mk fun hF => ?_) | (with_reducible refine ImpQ.mk fun hp => ?_) | (with_reducible refine AllE.mk fun p => ?_) | (with_reducible refine AllR.mk fun rest => ?_) | (with_reducible refine AllK.mk fun K => ?_))))); repeat' (with_reducible refine And.intro ?_ ?_))
          (all_goals first | exact Int.natCast_nonneg _ | exact Int.ofNat_lt.2 (by assumption) | assumption | omega | exact Nat.le_refl _ | (exfalso; simp at hb; done) | (simp only [go_sem, decide_true, decide_false, Int.reduceToNat, Nat.min_eq_left, Nat.min_eq_right, Int.reducePow, Nat.reducePow, Int.reduceLE, Int.reduceLT, Int.reduceMul, Int.reduceAdd, Int.reduceSub, Int.reduceNeg, Bool.not_true, Bool.not_false, Bool.not_not, ↓reduceIte, Nat.reduceAdd, Nat.reduceSub, Nat.reduceMul, Nat.reduceEqDiff, reduceCtorEq, Nat.reduceLT, Nat.reduceLeDiff, Nat.reduceGT]; done) | (unfold capM; omega) | (simp only [List.length_drop, List.length_take, List.length_append, List.length_cons, List.length_nil]; omega) | skip)
          refine ⟨k + 1, ⟨by first | omega | (dsimp only; omega), by first | omega | (dsimp only; omega)⟩, ?_⟩
          (focus (refine ⟨_, _, Gh.refl, [0, 1], rfl, ?_⟩; (refine fitq ?_ ?_ ?_ <;> try exact trivial); (try any_goals (refine ⟨?_, ?_⟩)); (try any_goals (with_reducible rfl))))
          all_goals first | exact hw.symm | (rw [hn, hj]; first | done | rfl | simp) | skip
        · have d1 : decide ((rAt d k).from_ ≤ (rAt out (out.length - 1)).to_) = false := decide_eq_false c1
          have hj : joinS out (rAt d k) = out ++ [rAt d k] := by unfold joinS; rw [if_neg (fun q => c1 q.2)]
          (have zx1 := @hkd; have zx2 := @d0; have zx3 := @w1; have zx4 := @d1; all_goals (try ((first | (with_reducible refine wp_id ?_) | (with_reducible refine does_id ?_) | (with_reducible refine ops_id ?_)); refine walk ?_; (repeat' (first | exact trivial | with_reducible refine And.intro ?_ ?_)); all_goals (repeat (first | (with_reducible refine ImpB.mk fun hb => ?_) | (with_reducible refine ImpK.mk fun hK => ?_) | (with_reducible refine ImpF.mk fun hF => ?_) | (with_reducible refine ImpQ.mk fun hp => ?_) | (with_reducible refine AllE.mk fun p => ?_) | (with_reducible refine AllR.mk fun rest => ?_) | (with_reducible refine AllK.mk fun K => ?_))))); repeat' (with_reducible refine And.intro ?_ ?_))
          (all_goals first | exact Int.natCast_nonneg _ | exact Int.ofNat_lt.2 (by assumption) | assumption | omega | exact Nat.le_refl _ | (exfalso; simp at hb; done) | (simp only [go_sem, decide_true, decide_false, Int.reduceToNat, Nat.min_eq_left, Nat.min_eq_right, Int.reducePow, Nat.reducePow, Int.reduceLE, Int.reduceLT, Int.reduceMul, Int.reduceAdd, Int.reduceSub, Int.reduceNeg, Bool.not_true, Bool.not_false, Bool.not_not, ↓reduceIte, Nat.reduceAdd, Nat.reduceSub, Nat.reduceMul, Nat.reduceEqDiff, reduceCtorEq, Nat.reduceLT, Nat.reduceLeDiff, Nat.reduceGT]; done) | (unfold capM; omega) | (simp only [List.length_drop, List.length_take, List.length_append, List.length_cons, List.length_nil]; omega) | skip)
          refine ⟨k + 1, ⟨by first | omega | (dsimp only; omega), by first | omega | (dsimp only; omega)⟩, ?_⟩
          (focus (refine ⟨_, _, Gh.refl, [0, 4], rfl, ?_⟩; (refine fitq ?_ ?_ ?_ <;> try exact trivial); (try any_goals (refine ⟨?_, ?_⟩)); (try any_goals (with_reducible rfl))))
          all_goals first | exact hw.symm | (rw [hn, hj]; first | done | rfl | simp) | skip
      · have d0 : decide ((0 : Int) < out.length) = false := decide_eq_false (by omega)
        have hj : joinS out (rAt d k) = out ++ [rAt d k] := by unfold joinS; rw [if_neg (fun q => c0 q.1)]
        (have zx1 := @hkd; have zx2 := @d0; all_goals (try ((first | (with_reducible refine wp_id ?_) | (with_reducible refine does_id ?_) | (with_reducible refine ops_id ?_)); refine walk ?_; (repeat' (first | exact trivial | with_reducible refine And.intro ?_ ?_)); all_goals (repeat (first | (with_reducible refine ImpB.mk fun hb => ?_) | (with_reducible refine ImpK.mk fun hK => ?_) | (with_reducible refine ImpF.mk fun hF => ?_) | (with_reducible refine ImpQ.mk fun hp => ?_) | (with_reducible refine AllE.mk fun p => ?_) | (with_reducible refine AllR.mk fun rest => ?_) | (with_reducible refine AllK.mk fun K => ?_))))); repeat' (with_reducible refine And.intro ?_ ?_))
        (all_goals first | exact Int.natCast_nonneg _ | exact Int.ofNat_lt.2 (by assumption) | assumption | omega | exact Nat.le_refl _ | (exfalso; simp at hb; done) | (simp only [go_sem, decide_true, decide_false, Int.reduceToNat, Nat.min_eq_left, Nat.min_eq_right, Int.reducePow, Nat.reducePow, Int.reduceLE, Int.reduceLT, Int.reduceMul, Int.reduceAdd, Int.reduceSub, Int.reduceNeg, Bool.not_true, Bool.not_false, Bool.not_not, ↓reduceIte, Nat.reduceAdd, Nat.reduceSub, Nat.reduceMul, Nat.reduceEqDiff, reduceCtorEq, Nat.reduceLT, Nat.reduceLeDiff, Nat.reduceGT]; done) | (unfold capM; omega) | (simp only [List.length_drop, List.length_take, List.length_append, List.length_cons, List.length_nil]; omega) | skip)
        refine ⟨k + 1, ⟨by first | omega | (dsimp only; omega), by first | omega | (dsimp only; omega)⟩, ?_⟩
        (focus (refine ⟨_, _, Gh.refl, [0, 4], rfl, ?_⟩; (refine fitq ?_ ?_ ?_ <;> try exact trivial); (try any_goals (refine ⟨?_, ?_⟩)); (try any_goals (with_reducible rfl))))
        all_goals first | exact hw.symm | (rw [hn, hj]; first | done | rfl | simp) | skip
    · have hkd : decide ((k : Int) < f.length) = false := decide_eq_false (by omega)
      rw [List.take_of_length_le (by omega), hend]
      (have zx1 := @hkd; all_goals (try ((first | (with_reducible refine wp_id ?_) | (with_reducible refine does_id ?_) | (with_reducible refine ops_id ?_)); refine walk ?_; (repeat' (first | exact trivial | with_reducible refine And.intro ?_ ?_)); all_goals (repeat (first | (with_reducible refine ImpB.mk fun hb => ?_) | (with_reducible refine ImpK.mk fun hK => ?_) | (with_reducible refine ImpF.mk fun hF => ?_) | (with_reducible refine ImpQ.mk fun hp => ?_) | (with_reducible refine AllE.mk fun p => ?_) | (with_reducible refine AllR.mk fun rest => ?_) | (with_reducible refine AllK.mk fun K => ?_))))); repeat' (with_reducible refine And.intro ?_ ?_))
      refine end_ro rfl ?_ rfl ?_
      · rfl
      · simp only [go_sem, decide_true, decide_false, Int.reduceToNat, Nat.min_eq_left, Nat.min_eq_right, Int.reducePow, Nat.reducePow, Int.reduceLE, Int.reduceLT, Int.reduceMul, Int.reduceAdd, Int.reduceSub, Int.reduceNeg, Bool.not_true, Bool.not_false, Bool.not_not, ↓reduceIte, Nat.reduceAdd, Nat.reduceSub, Nat.reduceMul, Nat.reduceEqDiff, reduceCtorEq, Nat.reduceLT, Nat.reduceLeDiff, Nat.reduceGT]
theorem c_normal {h : List Ch} {K : KT} {l : List Rng} {a : AV} (H : K (.ro .rng (ofL l)) h) (q1 : isRO .rng l a) (s1 : l.length ≤ 1000000000) : Does Try.prog 54 [a] h K :=
  frame_pure (b_normal l s1) (br_cons q1.br br_nil) (.inl (by simp only [brTL, q1.brT]; rfl)) (fun _ => rfl) H
abbrev i_normal := Ctr.mk (i := 0) (g := 54) @c_normal
attribute [instance] i_normal
theorem c_normal_sl {h : List Ch} {K : KT} {l : List Rng} {g n : Nat} (H : K (.ro .rng (ofL l)) (frHs g .rng l (h.set g .gone))) (o : hth h g = .rows .rng l) (s1 : n = l.length) (s2 : l.length ≤ 1000000000) (s3 : frObH g .rng l.length h) : Does Try.prog 54 [.sl g .rng 0 n] h K := by
  subst s1
  refine Does.ghost (gh_frz (t := g) (e := .rng) (xs := l) o (by simp [frObL, frOb]) s3) ?_
  have e : frL g .rng l [.sl g .rng 0 l.length] = [.ro .rng l] := by simp [frL, frA]
  rw [e]
  exact c_normal H isRO_ro s2
abbrev i_normal_sl := Ctr.mk (i := 1) (g := 54) @c_normal_sl
attribute [instance] i_normal_sl
theorem b_add (l : List Rng) (r : Rng) (hl : l.length ≤ 900000000) : DoesK Try.prog 0 38 [.ro .rng l, .agg [.int .i64 r.from_, .int .i64 r.to_]] [] (EndF 0 (.ro .rng (insF (ofL l) r)) []) := by
  refine DoesK.close ?_
  have ha := of_add l r
  refine w_body (rs := [.tmp 4]) (tm := [.ro .rng l, .agg [.int .i64 r.from_, .int .i64 r.to_], .any, .any, .any, .any, .any, .any, .any, .any, .any]) fn_38 rfl rfl rfl rfl fun R hR => ?_
  (have zx1 := @ha; all_goals (try ((first | (with_reducible refine wp_id ?_) | (with_reducible refine does_id ?_) | (with_reducible refine ops_id ?_)); refine walk ?_; (repeat' (first | exact trivial | with_reducible refine And.intro ?_ ?_)); all_goals (repeat (first | (with_reducible refine ImpB.mk fun hb => ?_) | (with_reducible refine ImpK.mk fun hK => ?_) | (with_reducible refine ImpF.mk fun hF => ?_) | (with_reducible refine ImpQ.mk fun hp => ?_) | (with_reducible refine AllE.mk fun p => ?_) | (with_reducible refine AllR.mk fun rest => ?_) | (with_reducible refine AllK.mk fun K => ?_))))); repeat' (with_reducible refine And.intro ?_ ?_))
  (all_goals first | exact Int.natCast_nonneg _ | exact Int.ofNat_lt.2 (by assumption) | assumption | omega | exact Nat.le_refl _ | (exfalso; simp at hb; done) | (simp only [go_sem, decide_true, decide_false, Int.reduceToNat, Nat.min_eq_left, Nat.min_eq_right, Int.reducePow, Nat.reducePow, Int.reduceLE, Int.reduceLT, Int.reduceMul, Int.reduceAdd, Int.reduceSub, Int.reduceNeg, Bool.not_true, Bool.not_false, Bool.not_not, ↓reduceIte, Nat.reduceAdd, Nat.reduceSub, Nat.reduceMul, Nat.reduceEqDiff, reduceCtorEq, Nat.reduceLT, Nat.reduceLeDiff, Nat.reduceGT]; done) | (unfold capM; omega) | (simp only [List.length_drop, List.length_take, List.length_append, List.length_cons, List.length_nil]; omega) | skip)
  (focus (refine ⟨_, _, Gh.refl, [], rfl, ?_⟩; (refine fitq ?_ ?_ ?_ <;> try exact trivial); (try any_goals (refine ⟨?_, ?_⟩)); (try any_goals (with_reducible rfl))))
theorem c_add {h : List Ch} {K : KT} {l : List Rng} {r : Rng} {a : AV} (H : K (.ro .rng (insF (ofL l) r)) h) (q1 : isRO .rng l a) (s1 : l.length ≤ 900000000) : Does Try.prog 38 [a, .agg [.int .i64 r.from_, .int .i64 r.to_]] h K :=
  frame_pure (b_add l r s1) (br_cons q1.br (br_cons (br_agg (br_cons br_int (br_cons br_int br_nil))) br_nil)) (.inl (by simp only [brTL, q1.brT]; rfl)) (fun _ => rfl) H
theorem pieces_len (s : List Rng) (r : Rng) : (pieces s r).length = 2 * s.length := by
  induction s with
  | nil => rfl
  | cons x s ih =>
    unfold pieces at ih ⊢
    rw [List.flatMap_cons, List.length_append, List.length_cons, List.length_cons, List.length_cons, List.length_nil]
    omega
theorem pieces_next {s : List Rng} {r : Rng} {k : Nat} (hk : k < s.length) : pieces (s.take (k + 1)) r = pieces (s.take k) r ++ [lftR (rAt s k) r, rgtR (rAt s k) r] := by
  unfold pieces
  rw [take_next hk, List.flatMap_append, List.flatMap_singleton]
theorem b_rem (l : List Rng) (r : Rng) (hl : l.length ≤ 1000000) : DoesK Try.prog 0 39 [.ro .rng l, .agg [.int .i64 r.from_, .int .i64 r.to_]] [] (EndF 0 (.ro .rng (remF (ofL l) r)) []) := by
  refine DoesK.close ?_
  have hl2 := of_len l
  have hv := of_vld l
  obtain ⟨s, hs⟩ : ∃ s, ofL l = s := ⟨_, rfl⟩
  rw [hs] at hl2 hv ⊢
  by_cases hc : r.to_ ≤ r.from_
  · have hcd : decide (r.to_ ≤ r.from_) = true := decide_eq_true hc
    have e1 : remF s r = s := by unfold remF; rw [if_pos hc]
    rw [e1]
    refine w_body (rs := [.tmp 4]) (tm := [.ro .rng l, .agg [.int .i64 r.from_, .int .i64 r.to_], .any, .any, .any, .any, .any, .any, .any, .any, .any, .any, .any, .any, .any, .any, .any, .any, .any, .any, .any, .any, .any, .any, .any, .any, .any, .any, .any, .any, .any, .any, .any, .any, .any, .any, .any, .any, .any, .any, .any, .any, .any, .any]) fn_39 rfl rfl rfl rfl fun R hR => ?_
    (have zx1 := @hs; have zx2 := @hcd; all_goals (try ((first | (with_reducible refine wp_id ?_) | (with_reducible refine does_id ?_) | (with_reducible refine ops_id ?_)); refine walk ?_; (repeat' (first | exact trivial | with_reducible refine And.intro ?_ ?_)); all_goals (repeat (first | (with_reducible refine ImpB.mk fun hb => ?_) | (with_reducible refine ImpK.mk fun hK => ?_) | (with_reducible refine ImpF.mk fun hF => ?_) | (with_reducible refine ImpQ.mk fun hp => ?_) | (with_reducible refine AllE.mk fun p => ?_) | (with_reducible refine AllR.mk fun rest => ?_) | (with_reducible refine AllK.mk fun K => ?_))))); repeat' (with_reducible refine And.intro ?_ ?_))
    (all_goals first | exact Int.natCast_nonneg _ | exact Int.ofNat_lt.2 (by assumption) | assumption | omega | exact Nat.le_refl _ | (exfalso; simp at hb; done) | (simp only [go_sem, decide_true, decide_false, Int.reduceToNat, Nat.min_eq_left, Nat.min_eq_right, Int.reducePow, Nat.reducePow, Int.reduceLE, Int.reduceLT, Int.reduceMul, Int.reduceAdd, Int.reduceSub, Int.reduceNeg, Bool.not_true, Bool.not_false, Bool.not_not, ↓reduceIte, Nat.reduceAdd, Nat.reduceSub, Nat.reduceMul, Nat.reduceEqDiff, reduceCtorEq, Nat.reduceLT, Nat.reduceLeDiff, Nat.reduceGT]; done) | (unfold capM; omega) | (simp only [List.length_drop, List.length_take, List.length_append, List.length_cons, List.length_nil]; omega) | skip)
    (focus (refine ⟨_, _, Gh.refl, [], rfl, ?_⟩; (refine fitq ?_ ?_ ?_ <;> try exact trivial); (try any_goals (refine ⟨?_, ?_⟩)); (try any_goals (with_reducible rfl))))
  · have hcd : decide (r.to_ ≤ r.from_) = false := decide_eq_false hc
    have e1 : remF s r = remL s r := by unfold remF; rw [if_neg hc]
    rw [e1, ← pieces_of hv (by omega)]
    refine w_body (rs := [.tmp 4]) (tm := [.ro .rng l, .agg [.int .i64 r.from_, .int .i64 r.to_], .any, .any, .any, .any, .any, .any, .any, .any, .any, .any, .any, .any, .any, .any, .any, .any, .any, .any, .any, .any, .any, .any, .any, .any, .any, .any, .any, .any, .any, .any, .any, .any, .any, .any, .any, .any, .any, .any, .any, .any, .any, .any]) fn_39 rfl rfl rfl rfl fun R hR => ?_
    (have zx1 := @hs; have zx2 := @hcd; all_goals (try ((first | (with_reducible refine wp_id ?_) | (with_reducible refine does_id ?_) | (with_reducible refine ops_id ?_)); refine walk ?_; (repeat' (first | exact trivial | with_reducible refine And.intro ?_ ?_)); all_goals (repeat (first | (with_reducible refine ImpB.mk fun hb => ?_) | (with_reducible refine ImpK.mk fun hK => ?_) | (with_reducible refine ImpF.mk fun hF => ?_) | (with_reducible refine ImpQ.mk fun hp => ?_) | (with_reducible refine AllE.mk fun p => ?_) | (with_reducible refine AllR.mk fun rest => ?_) | (with_reducible refine AllK.mk fun K => ?_))))); repeat' (with_reducible refine And.intro ?_ ?_))
    refine Wp.ghost (gh_adopt (s := 5) .rng trivial) ?_
    simp only [go_sem, decide_true, decide_false, Int.reduceToNat, Nat.min_eq_left, Nat.min_eq_right, Int.reducePow, Nat.reducePow, Int.reduceLE, Int.reduceLT, Int.reduceMul, Int.reduceAdd, Int.reduceSub, Int.reduceNeg, Bool.not_true, Bool.not_false, Bool.not_not, ↓reduceIte, Nat.reduceAdd, Nat.reduceSub, Nat.reduceMul, Nat.reduceEqDiff, reduceCtorEq, Nat.reduceLT, Nat.reduceLeDiff, Nat.reduceGT]
    any_goals ((try (refine w_seq fun K hK => ?_)); (try (refine w_block ?_)); refine w_loop (A := Nat) (fun k => k ≤ s.length) (fun k => s.length - k) (fun k => [(5, .sl 1 .rng 0 (pieces (s.take k) r).length), (18, .int .i64 k)]) (fun k => [(1, .rows .rng (pieces (s.take k) r))]) (0) (ws := ?ws2) (tk := ?tk2) ?hw2 ?ht2 ?hi ?h0 ?LH2; (case hw2 => simp only [go_sem, decide_true, decide_false, Int.reduceToNat, Nat.min_eq_left, Nat.min_eq_right, Int.reducePow, Nat.reducePow, Int.reduceLE, Int.reduceLT, Int.reduceMul, Int.reduceAdd, Int.reduceSub, Int.reduceNeg, Bool.not_true, Bool.not_false, Bool.not_not, ↓reduceIte, Nat.reduceAdd, Nat.reduceSub, Nat.reduceMul, Nat.reduceEqDiff, reduceCtorEq, Nat.reduceLT, Nat.reduceLeDiff, Nat.reduceGT]; exact rfl); (case ht2 => simp only [go_sem, decide_true, decide_false, Int.reduceToNat, Nat.min_eq_left, Nat.min_eq_right, Int.reducePow, Nat.reducePow, Int.reduceLE, Int.reduceLT, Int.reduceMul, Int.reduceAdd, Int.reduceSub, Int.reduceNeg, Bool.not_true, Bool.not_false, Bool.not_not, ↓reduceIte, Nat.reduceAdd, Nat.reduceSub, Nat.reduceMul, Nat.reduceEqDiff, reduceCtorEq, Nat.reduceLT, Nat.reduceLeDiff, Nat.reduceGT]; exact rfl); (case' LH2 => rintro k E t hx hE ht; simp only [go_sem] at ht; subst ht; simp only [go_sem]; try dsimp only at hx))
    case hi => exact Nat.zero_le _
    case h0 =>
      (focus (refine ⟨_, _, Gh.refl, [0, 1], rfl, ?_⟩; (refine fitq ?_ ?_ ?_ <;> try exact trivial); (try any_goals (refine ⟨?_, ?_⟩)); (try any_goals (with_reducible rfl))))
      all_goals rfl
    case LH2 =>
      have hw : IntKind.i64.wrap ((k : Int) + 1) = ((k + 1 : Nat) : Int) := by rw [wrap_i64 _ (by omega) (by omega)]; omega
      have hpl := pieces_len (s.take k) r
      rw [List.length_take] at hpl
      by_cases hk : k < s.length
      · have hkd : decide ((k : Int) < s.length) = true := decide_eq_true (by omega)
        have hn := pieces_next (r := r) hk
        (have zx1 := @hkd; all_goals (try ((first | (with_reducible refine wp_id ?_) | (with_reducible refine does_id ?_) | (with_reducible refine ops_id ?_)); refine walk ?_; (repeat' (first | exact trivial | with_reducible refine And.intro ?_ ?_)); all_goals (repeat (first | (with_reducible refine ImpB.mk fun hb => ?_) | (with_reducible refine ImpK.mk fun hK => ?_) | (with_reducible refine ImpF.mk fun hF => ?_) | (with_reducible refine ImpQ.mk fun hp => ?_) | (with_reducible refine AllE.mk fun p => ?_) | (with_reducible refine AllR.mk fun rest => ?_) | (with_reducible refine AllK.mk fun K => ?_))))); repeat' (with_reducible refine And.intro ?_ ?_))
        (all_goals first | exact Int.natCast_nonneg _ | exact Int.ofNat_lt.2 (by assumption) | assumption | omega | exact Nat.le_refl _ | (exfalso; simp at hb; done) | (simp only [go_sem, decide_true, decide_false, Int.reduceToNat, Nat.min_eq_left, Nat.min_eq_right, Int.reducePow, Nat.reducePow, Int.reduceLE, Int.reduceLT, Int.reduceMul, Int.reduceAdd, Int.reduceSub, Int.reduceNeg, Bool.not_true, Bool.not_false, Bool.not_not, ↓reduceIte, Nat.reduceAdd, Nat.reduceSub, Nat.reduceMul, Nat.reduceEqDiff, reduceCtorEq, Nat.reduceLT, Nat.reduceLeDiff, Nat.reduceGT]; done) | (unfold capM; omega) | (simp only [List.length_drop, List.length_take, List.length_append, List.length_cons, List.length_nil]; omega) | skip)
        refine ⟨k + 1, ⟨by first | omega | (dsimp only; omega), by first | omega | (dsimp only; omega)⟩, ?_⟩
        (focus (refine ⟨_, _, Gh.refl, [0, 4], rfl, ?_⟩; (refine fitq ?_ ?_ ?_ <;> try exact trivial); (try any_goals (refine ⟨?_, ?_⟩)); (try any_goals (with_reducible rfl))))
        all_goals first | exact hw.symm | (rw [hn]; first | done | rfl | simp) | skip
      · have hkd : decide ((k : Int) < s.length) = false := decide_eq_false (by omega)
        rw [List.take_of_length_le (by omega)] at hpl ⊢
        have hpl2 : (pieces s r).length ≤ 1000000000 := by omega
        (have zx1 := @hkd; all_goals (try ((first | (with_reducible refine wp_id ?_) | (with_reducible refine does_id ?_) | (with_reducible refine ops_id ?_)); refine walk ?_; (repeat' (first | exact trivial | with_reducible refine And.intro ?_ ?_)); all_goals (repeat (first | (with_reducible refine ImpB.mk fun hb => ?_) | (with_reducible refine ImpK.mk fun hK => ?_) | (with_reducible refine ImpF.mk fun hF => ?_) | (with_reducible refine ImpQ.mk fun hp => ?_) | (with_reducible refine AllE.mk fun p => ?_) | (with_reducible refine AllR.mk fun rest => ?_) | (with_reducible refine AllK.mk fun K => ?_))))); repeat' (with_reducible refine And.intro ?_ ?_))
        (all_goals first | exact Int.natCast_nonneg _ | exact Int.ofNat_lt.2 (by assumption) | assumption | omega | exact Nat.le_refl _ | (exfalso; simp at hb; done) | (simp only [go_sem, decide_true, decide_false, Int.reduceToNat, Nat.min_eq_left, Nat.min_eq_right, Int.reducePow, Nat.reducePow, Int.reduceLE, Int.reduceLT, Int.reduceMul, Int.reduceAdd, Int.reduceSub, Int.reduceNeg, Bool.not_true, Bool.not_false, Bool.not_not, ↓reduceIte, Nat.reduceAdd, Nat.reduceSub, Nat.reduceMul, Nat.reduceEqDiff, reduceCtorEq, Nat.reduceLT, Nat.reduceLeDiff, Nat.reduceGT]; done) | (unfold capM; omega) | (simp only [List.length_drop, List.length_take, List.length_append, List.length_cons, List.length_nil]; omega) | skip)
        (focus (refine ⟨_, _, Gh.refl, [], rfl, ?_⟩; (refine fitq ?_ ?_ ?_ <;> try exact trivial); (try any_goals (refine ⟨?_, ?_⟩)); (try any_goals (with_reducible rfl))))
theorem c_rem {h : List Ch} {K : KT} {l : List Rng} {r : Rng} {a : AV} (H : K (.ro .rng (remF (ofL l) r)) h) (q1 : isRO .rng l a) (s1 : l.length ≤ 1000000) : Does Try.prog 39 [a, .agg [.int .i64 r.from_, .int .i64 r.to_]] h K :=
  frame_pure (b_rem l r s1) (br_cons q1.br (br_cons (br_agg (br_cons br_int (br_cons br_int br_nil))) br_nil)) (.inl (by simp only [brTL, q1.brT]; rfl)) (fun _ => rfl) H
end Go.V

set_option maxRecDepth 100000
set_option maxHeartbeats 4000000
namespace Go.V
open Go.Proofs
/-- the number of integers of a range -/
def widR (r : Rng) : Int := IntKind.u64.wrap (IntKind.u64.wrap r.to_ - IntKind.u64.wrap r.from_)
def sizF (s : List Rng) : Int := s.foldl (fun n r => IntKind.u64.wrap (n + widR r)) 0
theorem siz_next {s : List Rng} {k : Nat} (hk : k < s.length) : sizF (s.take (k + 1)) = IntKind.u64.wrap (sizF (s.take k) + widR (rAt s k)) := by
  unfold sizF
  rw [take_next hk, List.foldl_append]
  rfl
theorem u64_rng (n : Int) : 0 ≤ IntKind.u64.wrap n ∧ IntKind.u64.wrap n < 18446744073709551616 := by rw [wrap_u64]; omega
theorem siz_rng (s : List Rng) : 0 ≤ sizF s ∧ sizF s < 18446744073709551616 := by
  rcases List.eq_nil_or_concat s with rfl | ⟨p, x, rfl⟩
  · unfold sizF; simp
  · unfold sizF
    rw [List.concat_eq_append, List.foldl_append]
    exact u64_rng _
def sizR (s : List Rng) : Int := min (sizF s) 9223372036854775807
theorem b_rsize (l : List Rng) (hl : l.length ≤ 1000000000) : DoesK Try.prog 0 16 [.ro .rng l] [] (EndF 0 (.int .i64 (sizR (ofL l))) []) := by
  refine DoesK.close ?_
  have hl2 := of_len l
  refine w_body (rs := [.tmp 2]) (tm := [.ro .rng l, .any, .any, .any, .any, .any, .any, .any, .any, .any, .any, .any, .any, .any, .any, .any, .any, .any, .any, .any, .any, .any, .any, .any, .any, .any, .any, .any, .any, .any, .any, .any, .any]) fn_16 rfl rfl rfl rfl fun R hR => ?_
  (all_goals (try ((first | (with_reducible refine wp_id ?_) | (with_reducible refine does_id ?_) | (with_reducible refine ops_id ?_)); refine walk ?_; (repeat' (first | exact trivial | with_reducible refine And.intro ?_ ?_)); all_goals (repeat (first | (with_reducible refine ImpB.mk fun hb => ?_) | (with_reducible refine ImpK.mk fun hK => ?_) | (with_reducible refine ImpF.mk fun hF => ?_) | (with_reducible refine ImpQ.mk fun hp => ?_) | (with_reducible refine AllE.mk fun p => ?_) | (with_reducible refine AllR.mk fun rest => ?_) | (with_reducible refine AllK.mk fun K => ?_))))); repeat' (with_reducible refine And.intro ?_ ?_))
  any_goals ((try (refine w_seq fun K hK => ?_)); (try (refine w_block ?_)); refine w_loop (A := Nat) (fun k => k ≤ (ofL l).length) (fun k => (ofL l).length - k) (fun k => [(4, .int .u64 (sizF ((ofL l).take k))), (5, .int .i64 k)]) (fun _ => []) (0) (ws := ?ws1) (tk := ?tk1) ?hw1 ?ht1 ?hi ?h0 ?LH1; (case hw1 => simp only [go_sem, decide_true, decide_false, Int.reduceToNat, Nat.min_eq_left, Nat.min_eq_right, Int.reducePow, Nat.reducePow, Int.reduceLE, Int.reduceLT, Int.reduceMul, Int.reduceAdd, Int.reduceSub, Int.reduceNeg, Bool.not_true, Bool.not_false, Bool.not_not, ↓reduceIte, Nat.reduceAdd, Nat.reduceSub, Nat.reduceMul, Nat.reduceEqDiff, reduceCtorEq, Nat.reduceLT, Nat.reduceLeDiff, Nat.reduceGT]; exact rfl); (case ht1 => simp only [go_sem, decide_true, decide_false, Int.reduceToNat, Nat.min_eq_left, Nat.min_eq_right, Int.reducePow, Nat.reducePow, Int.reduceLE, Int.reduceLT, Int.reduceMul, Int.reduceAdd, Int.reduceSub, Int.reduceNeg, Bool.not_true, Bool.not_false, Bool.not_not, ↓reduceIte, Nat.reduceAdd, Nat.reduceSub, Nat.reduceMul, Nat.reduceEqDiff, reduceCtorEq, Nat.reduceLT, Nat.reduceLeDiff, Nat.reduceGT]; exact rfl); (case' LH1 => rintro k E t hx hE ht; simp only [go_sem] at ht; subst ht; simp only [go_sem]; try dsimp only at hx))
  case hi => exact Nat.zero_le _
  case h0 =>
    (focus (refine ⟨_, _, Gh.refl, [], rfl, ?_⟩; (refine fitq ?_ ?_ ?_ <;> try exact trivial); (try any_goals (refine ⟨?_, ?_⟩)); (try any_goals (with_reducible rfl))))
    all_goals rfl
  case LH1 =>
    have hw : IntKind.i64.wrap ((k : Int) + 1) = ((k + 1 : Nat) : Int) := by rw [wrap_i64 _ (by omega) (by omega)]; omega
    by_cases hk : k < (ofL l).length
    · have hkd : decide ((k : Int) < (ofL l).length) = true := decide_eq_true (by omega)
      have hn := siz_next hk
      (have zx1 := @hkd; all_goals (try ((first | (with_reducible refine wp_id ?_) | (with_reducible refine does_id ?_) | (with_reducible refine ops_id ?_)); refine walk ?_; (repeat' (first | exact trivial | with_reducible refine And.intro ?_ ?_)); all_goals (repeat (first | (with_reducible refine ImpB.mk fun hb => ?_) | (with_reducible refine ImpK.mk fun hK => ?_) | (with_reducible refine ImpF.mk fun hF => ?_) | (with_reducible refine ImpQ.mk fun hp => ?_) | (with_reducible refine AllE.mk fun p => ?_) | (with_reducible refine AllR.mk fun rest => ?_) | (with_reducible refine AllK.mk fun K => ?_))))); repeat' (with_reducible refine And.intro ?_ ?_))
      (all_goals first | exact Int.natCast_nonneg _ | exact Int.ofNat_lt.2 (by assumption) | assumption | omega | exact Nat.le_refl _ | (exfalso; simp at hb; done) | (simp only [go_sem, decide_true, decide_false, Int.reduceToNat, Nat.min_eq_left, Nat.min_eq_right, Int.reducePow, Nat.reducePow, Int.reduceLE, Int.reduceLT, Int.reduceMul, Int.reduceAdd, Int.reduceSub, Int.reduceNeg, Bool.not_true, Bool.not_false, Bool.not_not, ↓reduceIte, Nat.reduceAdd, Nat.reduceSub, Nat.reduceMul, Nat.reduceEqDiff, reduceCtorEq, Nat.reduceLT, Nat.reduceLeDiff, Nat.reduceGT]; done) | (unfold capM; omega) | (simp only [List.length_drop, List.length_take, List.length_append, List.length_cons, List.length_nil]; omega) | skip)
      refine ⟨k + 1, ⟨by first | omega | (dsimp only; omega), by first | omega | (dsimp only; omega)⟩, ?_⟩
      (focus (refine ⟨_, _, Gh.refl, [], rfl, ?_⟩; (refine fitq ?_ ?_ ?_ <;> try exact trivial); (try any_goals (refine ⟨?_, ?_⟩)); (try any_goals (with_reducible rfl))))
      all_goals first | exact hw.symm | exact hn | exact hn.symm | skip
    · have hkd : decide ((k : Int) < (ofL l).length) = false := decide_eq_false (by omega)
      rw [List.take_of_length_le (by omega)]
      have hs := siz_rng (ofL l)
      by_cases c1 : 9223372036854775807 < sizF (ofL l)
      · have d1 : decide (9223372036854775807 < sizF (ofL l)) = true := decide_eq_true c1
        have e1 : sizR (ofL l) = 9223372036854775807 := by unfold sizR; omega
        (have zx1 := @hkd; have zx2 := @d1; all_goals (try ((first | (with_reducible refine wp_id ?_) | (with_reducible refine does_id ?_) | (with_reducible refine ops_id ?_)); refine walk ?_; (repeat' (first | exact trivial | with_reducible refine And.intro ?_ ?_)); all_goals (repeat (first | (with_reducible refine ImpB.mk fun hb => ?_) | (with_reducible refine ImpK.mk fun hK => ?_) | (with_reducible refine ImpF.mk fun hF => ?_) | (with_reducible refine ImpQ.mk fun hp => ?_) | (with_reducible refine AllE.mk fun p => ?_) | (with_reducible refine AllR.mk fun rest => ?_) | (with_reducible refine AllK.mk fun K => ?_))))); repeat' (with_reducible refine And.intro ?_ ?_))
        (all_goals first | exact Int.natCast_nonneg _ | exact Int.ofNat_lt.2 (by assumption) | assumption | omega | exact Nat.le_refl _ | (exfalso; simp at hb; done) | (simp only [go_sem, decide_true, decide_false, Int.reduceToNat, Nat.min_eq_left, Nat.min_eq_right, Int.reducePow, Nat.reducePow, Int.reduceLE, Int.reduceLT, Int.reduceMul, Int.reduceAdd, Int.reduceSub, Int.reduceNeg, Bool.not_true, Bool.not_false, Bool.not_not, ↓reduceIte, Nat.reduceAdd, Nat.reduceSub, Nat.reduceMul, Nat.reduceEqDiff, reduceCtorEq, Nat.reduceLT, Nat.reduceLeDiff, Nat.reduceGT]; done) | (unfold capM; omega) | (simp only [List.length_drop, List.length_take, List.length_append, List.length_cons, List.length_nil]; omega) | skip)
        rw [e1]
        (focus (refine ⟨_, _, Gh.refl, [], rfl, ?_⟩; (refine fitq ?_ ?_ ?_ <;> try exact trivial); (try any_goals (refine ⟨?_, ?_⟩)); (try any_goals (with_reducible rfl))))
      · have d1 : decide (9223372036854775807 < sizF (ofL l)) = false := decide_eq_false c1
        have w1 : IntKind.i64.wrap (sizF (ofL l)) = sizR (ofL l) := by unfold sizR; rw [wrap_i64 _ (by omega) (by omega)]; omega
        (have zx1 := @hkd; have zx2 := @d1; have zx3 := @w1; all_goals (try ((first | (with_reducible refine wp_id ?_) | (with_reducible refine does_id ?_) | (with_reducible refine ops_id ?_)); refine walk ?_; (repeat' (first | exact trivial | with_reducible refine And.intro ?_ ?_)); all_goals (repeat (first | (with_reducible refine ImpB.mk fun hb => ?_) | (with_reducible refine ImpK.mk fun hK => ?_) | (with_reducible refine ImpF.mk fun hF => ?_) | (with_reducible refine ImpQ.mk fun hp => ?_) | (with_reducible refine AllE.mk fun p => ?_) | (with_reducible refine AllR.mk fun rest => ?_) | (with_reducible refine AllK.mk fun K => ?_))))); repeat' (with_reducible refine And.intro ?_ ?_))
        (all_goals first | exact Int.natCast_nonneg _ | exact Int.ofNat_lt.2 (by assumption) | assumption | omega | exact Nat.le_refl _ | (exfalso; simp at hb; done) | (simp only [go_sem, decide_true, decide_false, Int.reduceToNat, Nat.min_eq_left, Nat.min_eq_right, Int.reducePow, Nat.reducePow, Int.reduceLE, Int.reduceLT, Int.reduceMul, Int.reduceAdd, Int.reduceSub, Int.reduceNeg, Bool.not_true, Bool.not_false, Bool.not_not, ↓reduceIte, Nat.reduceAdd, Nat.reduceSub, Nat.reduceMul, Nat.reduceEqDiff, reduceCtorEq, Nat.reduceLT, Nat.reduceLeDiff, Nat.reduceGT]; done) | (unfold capM; omega) | (simp only [List.length_drop, List.length_take, List.length_append, List.length_cons, List.length_nil]; omega) | skip)
        (focus (refine ⟨_, _, Gh.refl, [], rfl, ?_⟩; (refine fitq ?_ ?_ ?_ <;> try exact trivial); (try any_goals (refine ⟨?_, ?_⟩)); (try any_goals (with_reducible rfl))))
theorem c_rsize {h : List Ch} {K : KT} {l : List Rng} {a : AV} (H : K (.int .i64 (sizR (ofL l))) h) (b1 : brA [] h (.ro .rng l) a) (s1 : l.length ≤ 1000000000) : Does Try.prog 16 [a] h K :=
  frame_pure (b_rsize l s1) (br_cons b1 br_nil) (.inr rfl) (fun _ => rfl) H
abbrev i_rsize := Ctr.mk (i := 0) (g := 16) @c_rsize
attribute [instance] i_rsize
end Go.V

set_option maxRecDepth 100000
set_option maxHeartbeats 8000000
namespace Go.V
open Go.Proofs
theorem c_add2 {h : List Ch} {K : KT} {l : List Rng} {f t : Int} {a : AV} (H : K (.ro .rng (insF (ofL l) ⟨f, t⟩)) h) (q1 : isRO .rng l a) (s1 : l.length ≤ 900000000) : Does Try.prog 38 [a, .agg [.int .i64 f, .int .i64 t]] h K := c_add (r := ⟨f, t⟩) H q1 s1
abbrev i_add2 := Ctr.mk (i := 1) (g := 38) @c_add2
attribute [instance] i_add2
theorem c_rem2 {h : List Ch} {K : KT} {l : List Rng} {f t : Int} {a : AV} (H : K (.ro .rng (remF (ofL l) ⟨f, t⟩)) h) (q1 : isRO .rng l a) (s1 : l.length ≤ 1000000) : Does Try.prog 39 [a, .agg [.int .i64 f, .int .i64 t]] h K := c_rem (r := ⟨f, t⟩) H q1 s1
abbrev i_rem2 := Ctr.mk (i := 1) (g := 39) @c_rem2
attribute [instance] i_rem2
theorem c_radd2 {h : List Ch} {K : KT} {l : List Rng} {f t : Int} {a : AV} (H : K (.ro .rng (insF (ofL l) ⟨f, t⟩)) h) (q1 : isRO .rng l a) (s1 : l.length ≤ 1000000000) : Does Try.prog 12 [a, .agg [.int .i64 f, .int .i64 t]] h K := c_radd (r := ⟨f, t⟩) H q1 s1
abbrev i_radd2 := Ctr.mk (i := 1) (g := 12) @c_radd2
attribute [instance] i_radd2
end Go.V

set_option maxRecDepth 100000
set_option maxHeartbeats 8000000
namespace Go.V
open Go.Proofs
def addO (p c t : Int) (xs : List Ent) : List Ent × Int := addA p c t (ext (eAt xs (xs.length - 1)).count c) xs
theorem c_addO {h : List Ch} {K : KT} {u : Nat} {p c t : Int} {xs : List Ent} (H : K (.int .i64 (addO p c t xs).2) (h.set u (.pack (AO p (addO p c t xs).1)))) (o : hth h u = .pack (AO p xs)) (e1 : isIt p c t) (s1 : 0 < xs.length) (s2 : xs.length ≤ 1000000) (s3 : -1099511627776 ≤ (eAt xs (xs.length - 1)).count ∧ (eAt xs (xs.length - 1)).count ≤ 1099511627776) : Does Try.prog 10 [.ptr u 0, .agg [.int .i64 p, .int .i64 c, .int .i64 t, .lit (.slice none 0 0)]] h K := -- nocall
  frame_obj0 (b_addO p c t xs _ e1 s1 s2 s3 rfl) o (by simp) (fitC_pack _) (br_cons (br_ptr rfl) (br_cons (br_agg (br_cons br_int (br_cons br_int (br_cons br_int (br_cons br_lit br_nil))))) br_nil)) (.inl rfl) (fun _ => rfl) rfl H

def ASL (p : Int) (xs : List Ent) : List Ch := if xs.length = 0 then AE else AO p xs
theorem ASL_nil (p : Int) : ASL p [] = AE := rfl
theorem ASL_pos {p : Int} {xs : List Ent} (h : 0 < xs.length) : ASL p xs = AO p xs := if_neg (by omega)
def addS (p c t : Int) (xs : List Ent) : List Ent × Int := if xs.length = 0 then ([⟨c, p, c, t, []⟩], 0) else addO p c t xs
/-- lists with which Add does well -/
structure okE (xs : List Ent) : Prop where
  len : xs.length ≤ 1000000
  cnt : -1099511627776 ≤ (eAt xs (xs.length - 1)).count ∧ (eAt xs (xs.length - 1)).count ≤ 1099511627776
theorem addA_len (p c t e : Int) (xs : List Ent) (h : 0 < xs.length) : 0 < (addA p c t e xs).1.length := by
  unfold addA
  split
  · exact h
  · show 0 < (List.take _ xs ++ _ :: _).length
    rw [List.length_append, List.length_cons]; omega
theorem c_addS {h : List Ch} {K : KT} {u : Nat} {p q c t r : Int} {xs ys : List Ent} (H : K (.int .i64 r) (h.set u (.pack (ASL p ys)))) (o : hth h u = .pack (ASL q xs)) (e1 : isIt p c t) (e2 : okE xs) (e3 : addS p c t xs = (ys, r)) (s1 : p = q) : Does Try.prog 10 [.ptr u 0, .agg [.int .i64 p, .int .i64 c, .int .i64 t, .lit (.slice none 0 0)]] h K := by
  subst s1
  by_cases hn : xs.length = 0
  · obtain rfl := List.eq_nil_of_length_eq_zero hn
    have e : addS p c t [] = ([⟨c, p, c, t, []⟩], 0) := rfl
    rw [e] at e3
    obtain ⟨rfl, rfl⟩ := Prod.mk.inj e3
    exact k_add0 H o e1
  · have hp : 0 < xs.length := by omega
    rw [ASL_pos hp] at o
    have e : addS p c t xs = addO p c t xs := if_neg hn
    have e4 : ASL p (addO p c t xs).1 = AO p (addO p c t xs).1 := ASL_pos (addA_len _ _ _ _ _ hp)
    rw [← e, e3] at e4
    dsimp only at e4
    rw [e4] at H
    refine c_addO ?_ o e1 hp e2.len e2.cnt
    rw [← e, e3]
    exact H
abbrev i_addS := Ctr.mk (i := 0) (g := 10) @c_addS
attribute [instance] i_addS
theorem c_addZ {h : List Ch} {K : KT} {u : Nat} {p c t : Int} (H : K (.int .i64 0) (h.set u (.pack (ASL p [⟨c, p, c, t, []⟩])))) (o : hth h u = .pack AE) (e1 : isIt p c t) : Does Try.prog 10 [.ptr u 0, .agg [.int .i64 p, .int .i64 c, .int .i64 t, .lit (.slice none 0 0)]] h K := k_add0 H o e1
abbrev i_addZ := Ctr.mk (i := 1) (g := 10) @c_addZ
attribute [instance] i_addZ
end Go.V

set_option maxRecDepth 100000
set_option maxHeartbeats 8000000
namespace Go.V
open Go.Proofs
theorem dF_eq (x : Int) : (Int.tmod x 8000 + 8000).tmod 8000 = x % 8000 ∧ -8000 < Int.tmod x 8000 ∧ Int.tmod x 8000 < 8000 := by
  have h1 : Int.tmod x 8000 < 8000 := Int.tmod_lt_of_pos x (by decide)
  have h2 : -8000 < Int.tmod x 8000 := Int.lt_tmod_of_pos x (by decide)
  have h3 := Int.tmod_def x 8000
  refine ⟨?_, h2, h1⟩
  rw [Int.tmod_eq_emod_of_nonneg (by omega)]
  generalize Int.tdiv x 8000 = q at h3
  omega
def mkF (sh st d : Int) : Ent := ⟨sh + d, 3, (st + d) % 16384, d, []⟩
def insD : List Int → Int → List Int
  | [], d => [d]
  | a :: l, d => if d < a then d :: a :: l else if d = a then a :: l else a :: insD l d
theorem split_at : ∀ (ds : List Int) (d : Int), ds.Pairwise (· < ·) → ∃ A B, ds = A ++ B ∧ (∀ a ∈ A, a < d) ∧ (∀ b ∈ B, d ≤ b)
  | [], d, _ => ⟨[], [], rfl, by simp, by simp⟩
  | a :: l, d, h => by
    by_cases c : a < d
    · obtain ⟨A, B, e, h1, h2⟩ := split_at l d (List.pairwise_cons.1 h).2
      refine ⟨a :: A, B, by rw [e]; rfl, fun x hx => ?_, h2⟩
      rcases List.mem_cons.1 hx with rfl | hx
      · exact c
      · exact h1 x hx
    · refine ⟨[], a :: l, rfl, by simp, fun b hb => ?_⟩
      rcases List.mem_cons.1 hb with rfl | hb
      · omega
      · have := (List.pairwise_cons.1 h).1 b hb; omega
theorem insD_split {B : List Int} {d : Int} : ∀ (A : List Int), (∀ a ∈ A, a < d) → insD (A ++ B) d = A ++ insD B d
  | [], _ => rfl
  | a :: A, h => by
    have h1 := h a (by simp)
    have h2 := insD_split (B := B) A fun x hx => h x (by simp [hx])
    show (if d < a then _ else if d = a then _ else a :: insD (A ++ B) d) = _
    rw [if_neg (by omega), if_neg (by omega), h2]; rfl
theorem insD_mem {d n : Int} : ∀ {ds : List Int}, n ∈ insD ds d ↔ n = d ∨ n ∈ ds
  | [] => by simp [insD]
  | a :: l => by
    unfold insD
    split
    · simp
    · split
      · rename_i h; subst h; simp
      · rw [List.mem_cons, insD_mem (ds := l), List.mem_cons]
        constructor
        · rintro (h | h | h)
          · exact .inr (.inl h)
          · exact .inl h
          · exact .inr (.inr h)
        · rintro (h | h | h)
          · exact .inr (.inl h)
          · exact .inl h
          · exact .inr (.inr h)
theorem insD_sorted {d : Int} : ∀ {ds : List Int}, ds.Pairwise (· < ·) → (insD ds d).Pairwise (· < ·)
  | [], _ => by simp [insD]
  | a :: l, h => by
    obtain ⟨h1, h2⟩ := List.pairwise_cons.1 h
    unfold insD
    split
    · refine List.pairwise_cons.2 ⟨fun x hx => ?_, h⟩
      rcases List.mem_cons.1 hx with rfl | hx
      · assumption
      · have := h1 x hx; omega
    · split
      · exact h
      · refine List.pairwise_cons.2 ⟨fun x hx => ?_, insD_sorted h2⟩
        rcases insD_mem.1 hx with rfl | hx
        · omega
        · exact h1 x hx
theorem insD_len (d : Int) : ∀ (ds : List Int), (insD ds d).length ≤ ds.length + 1 ∧ 0 < (insD ds d).length
  | [] => by simp [insD]
  | a :: l => by
    have := insD_len d l
    unfold insD
    split
    · simp
    · split
      · simp
      · simp only [List.length_cons]; omega
theorem posE_at {xs : List Ent} {e : Int} {i : Nat} (h0 : ∀ k, i = k + 1 → (eAt xs k).count < e) : ∀ j, i ≤ j → (∀ k, i ≤ k → k < j → e ≤ (eAt xs k).count) → posE xs e j = i
  | 0, h1, _ => by rw [posE]; omega
  | j + 1, h1, h2 => by
    rw [posE]
    by_cases c : i = j + 1
    · rw [if_neg (by have := h0 j c; omega), c]
    · rw [if_pos (h2 j (by omega) (by omega))]
      exact posE_at h0 j (by omega) fun k a b => h2 k a (by omega)
theorem eAt_map {ds : List Int} {sh st : Int} {k : Nat} (h : k < ds.length) : eAt (ds.map (mkF sh st)) k = mkF sh st (ds.getD k 0) := by
  show (ds.map (mkF sh st)).getD k Ent.zero = _
  rw [List.getD_eq_getElem?_getD, List.getElem?_map, List.getElem?_eq_getElem h, List.getD_eq_getElem?_getD, List.getElem?_eq_getElem h]
  rfl
theorem getD_app1 {A B : List Int} {k : Nat} (h : k < A.length) : (A ++ B).getD k 0 ∈ A := by
  rw [List.getD_eq_getElem?_getD, List.getElem?_append_left h, List.getElem?_eq_getElem h]
  exact List.getElem_mem h
theorem getD_app2 {A B : List Int} {k : Nat} (h : A.length ≤ k) (h2 : k < (A ++ B).length) : (A ++ B).getD k 0 ∈ B := by
  have h3 : k - A.length < B.length := by rw [List.length_append] at h2; omega
  rw [List.getD_eq_getElem?_getD, List.getElem?_append_right h, List.getElem?_eq_getElem h3]
  exact List.getElem_mem h3
theorem getD_mem0 {l : List Int} {k : Nat} (h : k < l.length) : l.getD k 0 ∈ l := by
  rw [List.getD_eq_getElem?_getD, List.getElem?_eq_getElem h]
  exact List.getElem_mem h
theorem pos_map {A B : List Int} {sh st d : Int} (h1 : ∀ a ∈ A, a < d) (h2 : ∀ b ∈ B, d ≤ b) : posE ((A ++ B).map (mkF sh st)) (sh + d) ((A ++ B).map (mkF sh st)).length = A.length := by
  have hl : (A ++ B).length = A.length + B.length := List.length_append
  refine posE_at (fun k hk => ?_) _ (by rw [List.length_map, hl]; omega) fun k a b => ?_
  · have hk2 : k < A.length := by omega
    rw [eAt_map (by omega)]
    have := h1 _ (getD_app1 (B := B) hk2)
    show sh + _ < sh + d
    omega
  · rw [List.length_map] at b
    rw [eAt_map b]
    have := h2 _ (getD_app2 a b)
    show sh + d ≤ sh + _
    omega
theorem addA_F {ds : List Int} {sh st d : Int} (hs : ds.Pairwise (· < ·)) : addA 3 ((st + d) % 16384) d (sh + d) (ds.map (mkF sh st)) = ((insD ds d).map (mkF sh st), if d ∈ ds then 9 else 0) := by
  obtain ⟨A, B, rfl, h1, h2⟩ := split_at ds d hs
  unfold addA
  rw [pos_map h1 h2]
  have hl : (A ++ B).length = A.length + B.length := List.length_append
  rw [List.length_map, hl, insD_split A h1]
  have t1 : ((A ++ B).map (mkF sh st)).take A.length = A.map (mkF sh st) := by rw [List.map_append, List.take_left' (by simp)]
  have t2 : ((A ++ B).map (mkF sh st)).drop A.length = B.map (mkF sh st) := by rw [List.map_append, List.drop_left' (by simp)]
  rw [t1, t2]
  cases B with
  | nil =>
    rw [if_neg (by simp), if_neg (fun q => by rw [List.append_nil] at q; have := h1 _ q; omega)]
    simp [insD, mkF]
  | cons b B =>
    have e0 : eAt ((A ++ b :: B).map (mkF sh st)) A.length = mkF sh st b := by
      rw [eAt_map (by rw [hl, List.length_cons]; omega)]
      rw [List.getD_eq_getElem?_getD, List.getElem?_append_right (Nat.le_refl _), Nat.sub_self]; rfl
    rw [e0]
    have hb := h2 b (by simp)
    by_cases c : d = b
    · subst c
      rw [if_pos ⟨by rw [List.length_cons]; omega, rfl⟩, if_pos (⟨rfl, rfl⟩ : (mkF sh st d).time = d ∧ (mkF sh st d).data = []), if_pos (by simp)]
      have : insD (d :: B) d = d :: B := by
        show (if d < d then _ else if d = d then _ else _) = _
        rw [if_neg (by omega), if_pos rfl]
      rw [this]
    · have hn : d ∉ A ++ b :: B := fun q => by
        rcases List.mem_append.1 q with q | q
        · have := h1 _ q; omega
        · rcases List.mem_cons.1 q with q | q
          · exact c q
          · have := (List.pairwise_cons.1 (List.pairwise_append.1 hs).2.1).1 d q; omega
      rw [if_neg (fun q => c (by have : sh + b = sh + d := q.2; omega)), if_neg hn]
      have : insD (b :: B) d = d :: b :: B := by
        show (if d < b then _ else _) = _
        rw [if_pos (by omega)]
      rw [this]
      simp [mkF]
theorem ext_F {st f m d : Int} (hm : 0 ≤ m ∧ m < 8000) (hd : 0 ≤ d ∧ d < 8000) : ext ((st + f) % 16384 - f + m) ((st + d) % 16384) = (st + f) % 16384 - f + d := by
  unfold ext
  split <;> omega
theorem addS_F {ds : List Int} {st f d : Int} (hs : ds.Pairwise (· < ·)) (hr : ∀ x ∈ ds, 0 ≤ x ∧ x < 8000) (hd : 0 ≤ d ∧ d < 8000) (h0 : ds = [] → f = d) (hst : 0 ≤ st) :
    addS 3 ((st + d) % 16384) d (ds.map (mkF ((st + f) % 16384 - f) st)) = ((insD ds d).map (mkF ((st + f) % 16384 - f) st), if d ∈ ds then 9 else 0) := by
  by_cases hn : ds = []
  · subst hn
    have := h0 rfl
    subst this
    unfold addS
    rw [if_pos (by simp), if_neg (by simp)]
    show ([(⟨_, _, _, _, _⟩ : Ent)], (0 : Int)) = ([mkF _ st f], 0)
    unfold mkF
    rw [show (st + f) % 16384 - f + f = (st + f) % 16384 by omega]
  · have hl : 0 < ds.length := List.length_pos_iff.2 hn
    unfold addS addO
    rw [if_neg (by rw [List.length_map]; omega)]
    have e : eAt (ds.map (mkF ((st + f) % 16384 - f) st)) ((ds.map (mkF ((st + f) % 16384 - f) st)).length - 1) = mkF ((st + f) % 16384 - f) st (ds.getD (ds.length - 1) 0) := by
      rw [List.length_map, eAt_map (by omega)]
    rw [e]
    have h5 := hr _ (getD_mem0 (l := ds) (k := ds.length - 1) (by omega))
    show addA 3 _ d (ext ((st + f) % 16384 - f + ds.getD (ds.length - 1) 0) _) _ = _
    rw [ext_F h5 hd]
    exact addA_F hs
/-- gaps of a list of entries -/
def gapsF (xs : List Ent) : List Rng := if xs.length = 0 then [] else xs.foldl (fun out x => remF (ofL out) ⟨x.count, x.count + 1⟩) (insF (ofL []) ⟨(eAt xs 0).count, (eAt xs (xs.length - 1)).count + 1⟩)
theorem remC_ok : ∀ (xs : List Ent) {s : List Rng}, Vld s → Vld (xs.foldl (fun out x => remF (ofL out) ⟨x.count, x.count + 1⟩) s) ∧ ∀ n, memR (xs.foldl (fun out x => remF (ofL out) ⟨x.count, x.count + 1⟩) s) n ↔ memR s n ∧ ∀ x ∈ xs, x.count ≠ n
  | [], s, h => ⟨h, fun n => by simp⟩
  | x :: xs, s, h => by
    have h1 := remF_ok (r := ⟨x.count, x.count + 1⟩) (of_vld s)
    obtain ⟨h2, h3⟩ := remC_ok xs h1.1
    refine ⟨h2, fun n => ?_⟩
    rw [List.foldl_cons, h3 n, h1.2 n, of_self h]
    constructor
    · rintro ⟨⟨a, b⟩, c⟩
      refine ⟨a, fun y hy => ?_⟩
      rcases List.mem_cons.1 hy with rfl | hy
      · intro q; exact b ⟨by show y.count ≤ n; omega, by show n < y.count + 1; omega⟩
      · exact c y hy
    · rintro ⟨a, b⟩
      refine ⟨⟨a, fun q => ?_⟩, fun y hy => b y (by simp [hy])⟩
      have q1 : x.count ≤ n := q.1
      have q2 : n < x.count + 1 := q.2
      exact b x (by simp) (by omega)
/-- what the law takes off -/
def wantF (low high : Int) (hv : List Rng) : List Rng := hv.foldl (fun w r => remF (ofL w) r) [⟨low, high + 1⟩]
theorem wantK_ok : ∀ (l : List Rng) {s : List Rng}, Vld s → Vld (l.foldl (fun w r => remF (ofL w) r) s) ∧ ∀ n, memR (l.foldl (fun w r => remF (ofL w) r) s) n ↔ memR s n ∧ ¬ memR l n
  | [], s, h => ⟨h, fun n => by simp [memR_nil]⟩
  | r :: l, s, h => by
    have h1 := remF_ok (r := r) (of_vld s)
    obtain ⟨h2, h3⟩ := wantK_ok l h1.1
    refine ⟨h2, fun n => ?_⟩
    rw [List.foldl_cons, h3 n, h1.2 n, of_self h, memR_cons]
    constructor
    · rintro ⟨⟨a, b⟩, c⟩; exact ⟨a, fun q => q.elim b c⟩
    · rintro ⟨a, b⟩; exact ⟨⟨a, fun q => b (.inl q)⟩, fun q => b (.inr q)⟩
def shR (sh : Int) (r : Rng) : Rng := ⟨r.from_ + sh, r.to_ + sh⟩
theorem sh_mem {sh : Int} {l : List Rng} {n : Int} : memR (l.map (shR sh)) n ↔ memR l (n - sh) := by
  unfold memR
  constructor
  · rintro ⟨r, hr, h1, h2⟩
    obtain ⟨x, hx, rfl⟩ := List.mem_map.1 hr
    exact ⟨x, hx, by have : x.from_ + sh ≤ n := h1; omega, by have : n < x.to_ + sh := h2; omega⟩
  · rintro ⟨r, hr, h1, h2⟩
    exact ⟨shR sh r, List.mem_map.2 ⟨r, hr, rfl⟩, by show r.from_ + sh ≤ n; omega, by show n < r.to_ + sh; omega⟩
theorem sh_vld {sh : Int} : ∀ {l : List Rng}, Vld l → Vld (l.map (shR sh))
  | [], _ => .nil
  | r :: l, h => by
    obtain ⟨h1, h2⟩ := h.head
    refine Vld.cons (by show r.from_ + sh < r.to_ + sh; omega) (fun s hs => ?_) (sh_vld h.tail)
    obtain ⟨x, hx, rfl⟩ := List.mem_map.1 hs
    have := h2 x hx
    show r.to_ + sh < x.from_ + sh
    omega
theorem gaps_want {ds : List Int} {sh st low high : Int} {hv : List Rng} (hs : ds.Pairwise (· < ·)) (hn : ds ≠ []) (hm : ∀ n, memR hv n ↔ n ∈ ds) (h1 : ∀ x ∈ ds, low ≤ x ∧ x ≤ high) (h2 : low ∈ ds) (h3 : high ∈ ds) :
    gapsF (ds.map (mkF sh st)) = (wantF low high hv).map (shR sh) := by
  have hl : 0 < ds.length := List.length_pos_iff.2 hn
  have hf : ds.getD 0 0 = low := by
    obtain ⟨a, l, rfl⟩ := List.exists_cons_of_ne_nil hn
    have ha := h1 a (by simp)
    rcases List.mem_cons.1 h2 with h | h
    · exact h.symm
    · have := (List.pairwise_cons.1 hs).1 _ h; omega
  have hg : ds.getD (ds.length - 1) 0 = high := by
    have hq := List.dropLast_concat_getLast hn
    rw [List.getD_eq_getElem?_getD, ← List.getLast?_eq_getElem?, List.getLast?_eq_some_getLast hn]
    show ds.getLast hn = high
    have ha := h1 _ (List.getLast_mem hn)
    rw [← hq] at h3 hs
    rcases List.mem_append.1 h3 with h | h
    · have := (List.pairwise_append.1 hs).2.2 _ h (ds.getLast hn) (by simp); omega
    · exact (List.mem_singleton.1 h).symm
  have hlh : low ≤ high := (h1 _ h2).2
  have v0 : Vld ([⟨low, high + 1⟩] : List Rng) := Vld.cons (by show low < high + 1; omega) (by simp) .nil
  have w := wantK_ok hv v0
  have v1 := insF_ok (l := []) (r := ⟨sh + low, sh + high + 1⟩) Vld.nil
  have g := remC_ok (ds.map (mkF sh st)) v1.1
  have eg : gapsF (ds.map (mkF sh st)) = (ds.map (mkF sh st)).foldl (fun out x => remF (ofL out) ⟨x.count, x.count + 1⟩) (insF [] ⟨sh + low, sh + high + 1⟩) := by
    unfold gapsF
    rw [if_neg (by rw [List.length_map]; omega), List.length_map, eAt_map hl, eAt_map (by omega), hf, hg]
    rfl
  rw [eg]
  refine vld_one g.1 (sh_vld w.1) fun n => ?_
  rw [g.2 n, v1.2 n, sh_mem]
  show _ ↔ memR (hv.foldl (fun w r => remF (ofL w) r) [⟨low, high + 1⟩]) (n - sh)
  rw [w.2, memR_one, hm]
  constructor
  · rintro ⟨a, b⟩
    rcases a with a | a
    · exact absurd a memR_nil
    · have a1 : sh + low ≤ n := a.1
      have a2 : n < sh + high + 1 := a.2
      exact ⟨⟨by show low ≤ n - sh; omega, by show n - sh < high + 1; omega⟩, fun q => b _ (List.mem_map.2 ⟨_, q, rfl⟩) (by show sh + (n - sh) = n; omega)⟩
  · rintro ⟨⟨a1, a2⟩, b⟩
    have a1 : low ≤ n - sh := a1
    have a2 : n - sh < high + 1 := a2
    refine ⟨.inr ⟨by show sh + low ≤ n; omega, by show n < sh + high + 1; omega⟩, fun x hx q => ?_⟩
    obtain ⟨d, hd, rfl⟩ := List.mem_map.1 hx
    have q : sh + d = n := q
    exact b (by rw [show n - sh = d by omega]; exact hd)
/-- how many of the first n -/
def cntP (P : Int → Bool) : Nat → Nat
  | 0 => 0
  | n + 1 => cntP P n + (if P (n : Int) then 1 else 0)
theorem cnt_int {a b : Int} (h : 0 ≤ a) (hb : a ≤ b) : ∀ N : Nat, (cntP (fun n => decide (a ≤ n) && decide (n < b)) N : Int) = min b N - min a N
  | 0 => by simp [cntP]; omega
  | N + 1 => by
    have ih := cnt_int h hb N
    unfold cntP
    by_cases c : a ≤ (N : Int) ∧ (N : Int) < b
    · rw [if_pos (by simp [c])]; omega
    · rw [if_neg (by simp; omega)]; omega
theorem cnt_or {P Q : Int → Bool} (h : ∀ n, ¬ (P n = true ∧ Q n = true)) : ∀ N : Nat, cntP (fun n => P n || Q n) N = cntP P N + cntP Q N
  | 0 => rfl
  | N + 1 => by
    have ih := cnt_or h N
    have h1 := h N
    unfold cntP
    rw [ih]
    cases e1 : P N <;> cases e2 : Q N <;> simp_all <;> omega
theorem cnt_ext {P Q : Int → Bool} (h : ∀ n, P n = Q n) (N : Nat) : cntP P N = cntP Q N := by
  have : P = Q := funext h
  rw [this]
theorem cnt_ds {N : Nat} : ∀ {ds : List Int}, ds.Pairwise (· < ·) → (∀ x ∈ ds, 0 ≤ x ∧ x < N) → cntP (fun n => decide (n ∈ ds)) N = ds.length
  | [], _, _ => by
    have : ∀ N, cntP (fun n => decide (n ∈ ([] : List Int))) N = 0 := fun N => by
      induction N with
      | zero => rfl
      | succ N ih => unfold cntP; rw [ih]; simp
    exact this N
  | a :: l, hs, hr => by
    obtain ⟨h1, h2⟩ := List.pairwise_cons.1 hs
    have ih := cnt_ds h2 fun x hx => hr x (by simp [hx])
    have ha := hr a (by simp)
    have e : ∀ n : Int, decide (n ∈ a :: l) = ((decide (a ≤ n) && decide (n < a + 1)) || decide (n ∈ l)) := fun n => by
      by_cases c : n = a
      · subst c; simp; omega
      · rw [Bool.eq_iff_iff]; simp [c]; omega
    rw [cnt_ext e, cnt_or, ih]
    · have := cnt_int ha.1 (by omega : a ≤ a + 1) N
      rw [List.length_cons]; omega
    · intro n q
      simp at q
      have := h1 n q.2
      omega
theorem cnt_le (P : Int → Bool) : ∀ N, cntP P N ≤ N
  | 0 => Nat.le_refl 0
  | N + 1 => by
    have := cnt_le P N
    unfold cntP
    split <;> omega
theorem siz_cnt {N : Nat} : ∀ {s : List Rng} {c : Int}, Vld s → (∀ r ∈ s, 0 ≤ r.from_ ∧ r.to_ ≤ N) → 0 ≤ c → c + cntP (hasB s) N ≤ 4611686018427387904 → s.foldl (fun n r => IntKind.u64.wrap (n + widR r)) c = c + cntP (hasB s) N
  | [], c, _, _, _, _ => by
    have : ∀ N, cntP (hasB []) N = 0 := fun N => by
      induction N with
      | zero => rfl
      | succ N ih => unfold cntP; rw [ih]; rfl
    rw [this]
    show c = _
    omega
  | r :: s, c, hv, hr, h0, h1 => by
    obtain ⟨a1, a2⟩ := hv.head
    have hr0 := hr r (by simp)
    have e : ∀ n, hasB (r :: s) n = ((decide (r.from_ ≤ n) && decide (n < r.to_)) || hasB s n) := fun n => rfl
    have hd : ∀ n, ¬ ((decide (r.from_ ≤ n) && decide (n < r.to_)) = true ∧ hasB s n = true) := by
      rintro n ⟨q1, q2⟩
      have := hv.above (hasB_iff.1 q2)
      simp at q1; omega
    have e2 : cntP (hasB (r :: s)) N = cntP (fun n => decide (r.from_ ≤ n) && decide (n < r.to_)) N + cntP (hasB s) N := by rw [cnt_ext e, cnt_or hd]
    have e3 := cnt_int hr0.1 (by omega : r.from_ ≤ r.to_) N
    have hle := cnt_le (hasB s) N
    have w : widR r = IntKind.u64.wrap (r.to_ - r.from_) := by unfold widR; rw [wrap_u64, wrap_u64, wrap_u64, wrap_u64]; omega
    have w2 : IntKind.u64.wrap (c + widR r) = c + (r.to_ - r.from_) := by rw [w, wrap_u64, wrap_u64]; omega
    rw [List.foldl_cons, w2, siz_cnt hv.tail (fun x hx => hr x (by simp [hx])) (by omega) (by omega)]
    omega
theorem siz_ds {ds : List Int} {hv : List Rng} (hs : ds.Pairwise (· < ·)) (hr : ∀ x ∈ ds, 0 ≤ x ∧ x < 8000) (v : Vld hv) (hm : ∀ n, memR hv n ↔ n ∈ ds) : sizR (ofL hv) = ds.length := by
  have h1 : ∀ r ∈ hv, 0 ≤ r.from_ ∧ r.to_ ≤ ((8000 : Nat) : Int) := fun r h => by
    have h2 := v.ne r h
    have h3 := hr _ ((hm r.from_).1 ⟨r, h, Int.le_refl _, h2⟩)
    have h4 := hr _ ((hm (r.to_ - 1)).1 ⟨r, h, by omega, by omega⟩)
    omega
  have h2 := cnt_le (hasB hv) 8000
  have h3 := siz_cnt (N := 8000) (c := 0) v h1 (Int.le_refl 0) (by omega)
  have h4 : cntP (hasB hv) 8000 = ds.length := by
    rw [← cnt_ds (N := 8000) hs hr]
    refine cnt_ext (fun n => ?_) 8000
    rw [Bool.eq_iff_iff, hasB_iff, hm]; simp
  rw [of_self v]
  unfold sizR sizF
  rw [h3, h4]
  omega
end Go.V
